/- What functions of the program come to, for all arguments in the given bounds. -/
import Derived.Test.YtgdmjbcllgmepaaGreatDoorWlch01a
import Derived.Shelf.Strings.Builder1
import Derived.Shelf.Strings.Builder2
import Derived.Shelf.Strings.BuilderF
import Derived.Shelf.Strings.BuilderK
import Derived.Shelf.Strings.Builder2Cap
import Derived.Shelf.Strconv.Atoi
import Derived.Shelf.Strconv.Itoa0
import Derived.Shelf.Strconv.Itoa1
import Derived.Shelf.LaysM
import Derived.Shelf.Strconv.Itoa2
import Derived.Shelf.Strconv.Itoa3
import Derived.Shelf.Strconv.Itoa4
import Derived.Shelf.Strconv.AtoiErrFast
import Derived.Shelf.Strconv.ParseIntEmpty
import Derived.Shelf.Strconv.AtoiFail
import Derived.Shelf.Strconv.Clone
import Derived.Shelf.Strconv.SyntaxError
import Derived.Shelf.LaysC
import Derived.Shelf.Strconv.ToError
import Derived.Shelf.Strconv.Lower
import Derived.Shelf.Strconv.ParseUint10
import Derived.Shelf.Strconv.ParseUint10Empty
import Derived.Shelf.Strconv.ParseUint10Any
import Derived.Shelf.Strconv.ParseInt10
import Derived.Shelf.Strconv.AtoiLong
import Derived.Shelf.Strconv.AtoiInnerAll
import Derived.Shelf.Strconv.RangeError
import Derived.Shelf.Strconv.ToErrorRange
import Derived.Shelf.Strconv.AtoiAll
import Derived.Shelf.Strings.Search1
import Derived.Shelf.Strings.Search2
import Derived.Shelf.Strings.Cut
import Derived.Shelf.Strings.Shaped
import Derived.Shelf.Strings.Prefix
import Derived.Shelf.Bits.Mul64
import Derived.Shelf.Strings.Repeat
import Derived.Shelf.Strings.BuilderCap
import Derived.Shelf.Slices.Equal
import Derived.Ground.Names2Prog
import Derived.Shelf.Slices.ReverseS
import Derived.Shelf.Slices.Clone
import Derived.Shelf.Slices.Cells
import Derived.Ground.SlgnProg
import Derived.Shelf.SlicesE.Clone
import Derived.Test.YtgdmjbcllgmepaaGreatDoorProg
set_option linter.unusedVariables false
set_option linter.unusedSimpArgs false
namespace Go.Proofs.YtgdmjbcllgmepaaGreatDoor.Ab
section
open Go Go.Proofs
set_option maxRecDepth 20000
set_option maxHeartbeats 4000000
def Xaa:List (Nat×TyRow):=[ty3,ty4,ty9,Xcf,Xcd,Zh,Xe7]
theorem Zv:Ck Tryz.prog Xaa:=Ck.of (by kernel_rfl)
theorem Rd:Setup Tryz.prog Xaa:=⟨Zv,mixed⟩
def Ee(h:Bb)(b:ByteArray)(n:Nat)(p:Int):List ByteArray×List Int×Int×Bool:=
 if C5 h.version_ (h.base_+n) b p=true then([],[],p,true)
 else match A1 h.version_ (h.base_+n) b p with
  |(r,q,true)=>if p<q∧q≤b.size then(r::(Ee h b (n+1) q).1,p::(Ee h b (n+1) q).2.1,(Ee h b (n+1) q).2.2)else([],[],p,false)
  |_=>([],[],p,false)
termination_by (b.size - p).toNat
decreasing_by all_goals omega
def A0(b:ByteArray):M1:=match Bj b with
 |(h,true)=>⟨true,h,(Ee h b 0 24).1,(Ee h b 0 24).2.1,(Ee h b 0 24).2.2.1,(Ee h b 0 24).2.2.2⟩
 |_=>⟨false,⟨0,0,0,0⟩,[],[],0,false⟩
theorem Sc{v n:Int}{r t:ByteArray}(e:Aw v n r=t)(h:t≠tx []):5≤t.size:=by
 unfold Aw at e
 split at e
 ·rename_i hh
  have h4:=Jj _ (Nv r)
  have h1:1≤(if v=2 then Ko n r.size else Bw r.size).size:=by
   split
   ·unfold Ko
    rw[ByteArray.size_append,Jj _ (by omega)]
    omega
   ·unfold Bw
    rw[if_pos (by omega),A7]
    exact List.length_pos_iff.2 (P9 _)
  rw[←e,ByteArray.size_append,ByteArray.size_append]
  omega
 ·exact absurd e.symm h
theorem Ev{v n p q:Int}{b r:ByteArray}(h:A1 v n b p=(r,q,true)):0≤p∧p+5≤q∧q≤b.size∧r.size≤60∧(v=1∨v=2)∧0≤n∧n≤1000000000∧q=p+(Aw v n r).size∧E6 b p (Aw v n r)=true:=by
 have key:∀{x s:Int},0≤s→0≤x→Gq v n b p x s=(r,q,true)→0≤p∧p+5≤q∧q≤b.size∧r.size≤60∧(v=1∨v=2)∧0≤n∧n≤1000000000∧q=p+(Aw v n r).size∧E6 b p (Aw v n r)=true:=by
  intro x s hs hx e
  unfold Gq at e
  split at e
  ·rename_i hh
   obtain⟨h1,h2,h3,h4⟩:=hh
   simp only[Prod.mk.injEq,and_true]at e
   obtain⟨rfl,rfl⟩:=e
   have h5:=Sc rfl h3
   have h6:=of_decide_eq_true h4
   have h7:(b.extract s.toNat (s+x).toNat).size=x.toNat:=by rw[N4 (by omega) (by omega)];omega
   have h8:(v=1∨v=2)∧0≤n∧n≤1000000000:=by
    by_cases hh:(v=1∨v=2)∧0≤n∧n≤1000000000
    ·exact hh
    ·exact absurd (Ik hh) h3
   exact⟨h6.1.1,by omega,by omega,by omega,h8.1,h8.2.1,h8.2.2,rfl,h4⟩
  ·simp at e
 rcases h1:Bi b p 4 with⟨x,ok⟩
 rcases h2:Ca b p with⟨y,s,ok2⟩
 by_cases hv:v=2
 ·rw[Ij hv h1]at h
  cases ok
  ·simp at h
  ·have:=J9 h1
   exact key (by omega) (by omega) h
 ·rw[Ig hv h2]at h
  cases ok2
  ·simp at h
  ·have:=Kj h2
   exact key (by omega) (by omega) h
theorem H8{h:Bb}{b:ByteArray}{n:Nat}{p:Int}(hm:C5 h.version_ (h.base_+n) b p=true):Ee h b n p=([],[],p,true):=by rw[Ee,if_pos hm]
theorem H4{h:Bb}{b:ByteArray}{n:Nat}{p:Int}{r:ByteArray}{q:Int}(hm:C5 h.version_ (h.base_+n) b p=false)(hf:A1 h.version_ (h.base_+n) b p=(r,q,false)):Ee h b n p=([],[],p,false):=by rw[Ee,if_neg (by rw[hm];simp),hf]
theorem H7{h:Bb}{b:ByteArray}{n:Nat}{p:Int}{r:ByteArray}{q:Int}(hm:C5 h.version_ (h.base_+n) b p=false)(hf:A1 h.version_ (h.base_+n) b p=(r,q,true)):Ee h b n p=(r::(Ee h b (n+1) q).1,p::(Ee h b (n+1) q).2.1,(Ee h b (n+1) q).2.2):=by
 have:=Ev hf
 rw[Ee,if_neg (by rw[hm];simp),hf]
 simp only[]
 rw[if_pos (by omega)]
def Gb(b:ByteArray):Int:=(A0 b).end_
variable {b:ByteArray} {ook omar:Bool} {oheaver oheastr oheabas ohealin oend:Int} {orec:List ByteArray} {xorec xooff:List (List D)} {ooff:List Int}
theorem Ow(hs:b.size<2^47)(hr:A0 b=⟨ook,⟨oheaver,oheastr,oheabas,ohealin⟩,orec,ooff,oend,omar⟩)(horec:orec.map cS=xorec)(hooff:ooff.map cI=xooff):Fn Tryz.prog 199 [S b] [] ⟨.agg [B ook,I oheaver,I oheastr,I oheabas,I ohealin,.d (.row 1 xorec),.d (.row 1 xooff),I oend,B omar],[],[]⟩:=by
 refine Fn.go Rd Tryz.func199 fun P hP Q hQ=>?_
 conv=>cbv
 rcases ak:Bj b with⟨⟨aa,ac,ab,ad⟩,ap⟩
 refine .dd hP (Ss (by omega) ak) ?_
 conv=>cbv
 cases ap
 conv=>cbv
 have e:(⟨false,⟨0,0,0,0⟩,[],[],0,false⟩:M1)=A0 b:=(by unfold A0;rw[ak])
 rw[hr]at e
 simp only[Bb.mk.injEq,M1.mk.injEq]at e
 obtain⟨rfl,⟨rfl,rfl,rfl,rfl⟩,rfl,rfl,rfl,rfl⟩:=e
 exact hQ _ _ (.one (.inl rfl) rfl (.agg (.d rfl rfl (.d rfl rfl (.d rfl rfl (.d rfl rfl (.d rfl rfl (.ref rfl rfl (by rw[←horec];rfl) (.ref rfl rfl (by rw[←hooff];rfl) (.d rfl rfl (.d rfl rfl (.nil)))))))))) .nil))
 conv=>cbv
 refine LoopW.lp (κ:=Int×(List (List D))×Nat×(List (List D))×Nat) Rd hP [4,5] [0,2,3,5] (fun(ae,al,am,af,ag)=>[]) (fun(ae,al,am,af,ag)=>[(8,.box 115 [B true,I aa,I ac,I ab,I ad,.ref 9 0 am,.ref 10 0 ag,I ae,B false]),(9,.row 1 false al),(10,.row 1 false af)])
  (fun(ae,al,am,af,ag)=>∃(w9:List ByteArray) (ai:List Int),w9.map cS=al∧am=w9.length∧ai.map cI=af∧ag=ai.length∧(24≤ae∧ae≤b.size∧w9.length=ai.length∧5*(w9.length:Int)+24≤ae)∧Ee ⟨aa,ac,ab,ad⟩ b 0 24=(w9++(Ee ⟨aa,ac,ab,ad⟩ b w9.length ae).1,ai++(Ee ⟨aa,ac,ab,ad⟩ b w9.length ae).2.1,(Ee ⟨aa,ac,ab,ad⟩ b w9.length ae).2.2))
  (fun(ae,al,am,af,ag)=>(b.size - ae).toNat) (24,[],0,[],0) ⟨[],[],rfl,rfl,rfl,rfl,by have:=Eb ak;simp;omega,rfl⟩ trivial rfl ?_
 rintro⟨ae,al,am,af,ag⟩ J ⟨w9,ai,ao,a2,ah,aq,hb,hS⟩ hJ
 have hd:=Fb (Eb ak).2.2
 conv=>cbv
 refine .go fun v2 a8=>?_
 conv=>cbv
 refine .add fun v3 ba=>?_
 conv=>cbv
 have e3:v3=ab+(w9.length:Int):=by omega
 generalize aj:C5 aa v3 b ae=r4
 refine .dd hP (XeY (by omega) (by omega) aj) ?_
 cases r4
 conv=>cbv
 rcases an:A1 aa v3 b ae with⟨ar,au,aw⟩
 refine .dd hP (Zz (by omega) (by omega) an) ?_
 conv=>cbv
 cases aw
 conv=>cbv
 have e:(⟨true,⟨aa,ac,ab,ad⟩,w9,ai,ae,false⟩:M1)=A0 b:=(by rw[e3]at aj an;unfold A0;rw[ak];simp only[];rw[hS,H4 (h:=⟨aa,ac,ab,ad⟩) aj an];simp)
 rw[hr]at e
 simp only[Bb.mk.injEq,M1.mk.injEq]at e
 obtain⟨rfl,⟨rfl,rfl,rfl,rfl⟩,rfl,rfl,rfl,rfl⟩:=e
 exact hQ _ _ (.one (.inl rfl) rfl (.agg (.d rfl rfl (.d rfl rfl (.d rfl rfl (.d rfl rfl (.d rfl rfl (.ref rfl (by rw[←ao,List.length_map];first|omega|(simp;omega)) (by rw[←ao,←horec]) (.ref rfl (by rw[←ah,List.length_map];first|omega|(simp;omega)) (by rw[←ah,←hooff]) (.d rfl rfl (.d rfl rfl (.nil)))))))))) .nil))
 conv=>cbv
 have hf:=Ev an
 refine .one ar ao rfl fun ax z6 a6 ay=>?_
 conv=>cbv
 refine .one ae ah rfl fun az z7 a7 a1=>?_
 conv=>cbv
 exact .go [12,14] (au,z6,ax,z7,az) (hJ _ ⟨_,_,ay,Jy,a1,Jy,by simp;omega,by rw[e3]at aj an;rw[hS,H7 (h:=⟨aa,ac,ab,ad⟩) aj an];simp[List.append_assoc]⟩ mlt)
 conv=>cbv
 have e:(⟨true,⟨aa,ac,ab,ad⟩,w9,ai,ae,true⟩:M1)=A0 b:=(by rw[e3]at aj;unfold A0;rw[ak];simp only[];rw[hS,H8 (h:=⟨aa,ac,ab,ad⟩) aj];simp)
 rw[hr]at e
 simp only[Bb.mk.injEq,M1.mk.injEq]at e
 obtain⟨rfl,⟨rfl,rfl,rfl,rfl⟩,rfl,rfl,rfl,rfl⟩:=e
 exact hQ _ _ (.one (.inl rfl) rfl (.agg (.d rfl rfl (.d rfl rfl (.d rfl rfl (.d rfl rfl (.d rfl rfl (.ref rfl (by rw[←ao,List.length_map];first|omega|(simp;omega)) (by rw[←ao,←horec]) (.ref rfl (by rw[←ah,List.length_map];first|omega|(simp;omega)) (by rw[←ah,←hooff]) (.d rfl rfl (.d rfl rfl (.nil)))))))))) .nil))
theorem Lw(hs:b.size<2^47)(hr:A0 b=⟨ook,⟨oheaver,oheastr,oheabas,ohealin⟩,orec,ooff,oend,omar⟩)(horec:orec.map cS=xorec)(hooff:ooff.map cI=xooff):Fn Tryz.prog 190 [S b] [] ⟨.agg [B ook,I oheaver,I oheastr,I oheabas,I ohealin,.d (.row 1 xorec),.d (.row 1 xooff),I oend,B omar],[],[]⟩:=by
 refine Fn.go Rd Tryz.func190 fun P hP Q hQ=>?_
 conv=>cbv
 rcases ak:Bj b with⟨⟨aa,ac,ab,ad⟩,ap⟩
 refine .dd hP (Sn (by omega) ak) ?_
 conv=>cbv
 cases ap
 conv=>cbv
 have e:(⟨false,⟨0,0,0,0⟩,[],[],0,false⟩:M1)=A0 b:=(by unfold A0;rw[ak])
 rw[hr]at e
 simp only[Bb.mk.injEq,M1.mk.injEq]at e
 obtain⟨rfl,⟨rfl,rfl,rfl,rfl⟩,rfl,rfl,rfl,rfl⟩:=e
 exact hQ _ _ (.one (.inl rfl) rfl (.agg (.d rfl rfl (.d rfl rfl (.d rfl rfl (.d rfl rfl (.d rfl rfl (.ref rfl rfl (by rw[←horec];rfl) (.ref rfl rfl (by rw[←hooff];rfl) (.d rfl rfl (.d rfl rfl (.nil)))))))))) .nil))
 conv=>cbv
 refine LoopW.lp (κ:=Int×(List (List D))×Nat×(List (List D))×Nat) Rd hP [4,5] [0,2,3,5] (fun(ae,al,am,af,ag)=>[]) (fun(ae,al,am,af,ag)=>[(8,.box 115 [B true,I aa,I ac,I ab,I ad,.ref 9 0 am,.ref 10 0 ag,I ae,B false]),(9,.row 1 false al),(10,.row 1 false af)])
  (fun(ae,al,am,af,ag)=>∃(w9:List ByteArray) (ai:List Int),w9.map cS=al∧am=w9.length∧ai.map cI=af∧ag=ai.length∧(24≤ae∧ae≤b.size∧w9.length=ai.length∧5*(w9.length:Int)+24≤ae)∧Ee ⟨aa,ac,ab,ad⟩ b 0 24=(w9++(Ee ⟨aa,ac,ab,ad⟩ b w9.length ae).1,ai++(Ee ⟨aa,ac,ab,ad⟩ b w9.length ae).2.1,(Ee ⟨aa,ac,ab,ad⟩ b w9.length ae).2.2))
  (fun(ae,al,am,af,ag)=>(b.size - ae).toNat) (24,[],0,[],0) ⟨[],[],rfl,rfl,rfl,rfl,by have:=Eb ak;simp;omega,rfl⟩ trivial rfl ?_
 rintro⟨ae,al,am,af,ag⟩ J ⟨w9,ai,ao,a2,ah,aq,hb,hS⟩ hJ
 have hd:=Fb (Eb ak).2.2
 conv=>cbv
 refine .go fun v2 a8=>?_
 conv=>cbv
 refine .add fun v3 ba=>?_
 conv=>cbv
 have e3:v3=ab+(w9.length:Int):=by omega
 generalize aj:C5 aa v3 b ae=r4
 refine .dd hP (Xeq (by omega) (by omega) aj) ?_
 cases r4
 conv=>cbv
 rcases an:A1 aa v3 b ae with⟨ar,au,aw⟩
 refine .dd hP (Y4 (by omega) (by omega) an) ?_
 conv=>cbv
 cases aw
 conv=>cbv
 have e:(⟨true,⟨aa,ac,ab,ad⟩,w9,ai,ae,false⟩:M1)=A0 b:=(by rw[e3]at aj an;unfold A0;rw[ak];simp only[];rw[hS,H4 (h:=⟨aa,ac,ab,ad⟩) aj an];simp)
 rw[hr]at e
 simp only[Bb.mk.injEq,M1.mk.injEq]at e
 obtain⟨rfl,⟨rfl,rfl,rfl,rfl⟩,rfl,rfl,rfl,rfl⟩:=e
 exact hQ _ _ (.one (.inl rfl) rfl (.agg (.d rfl rfl (.d rfl rfl (.d rfl rfl (.d rfl rfl (.d rfl rfl (.ref rfl (by rw[←ao,List.length_map];first|omega|(simp;omega)) (by rw[←ao,←horec]) (.ref rfl (by rw[←ah,List.length_map];first|omega|(simp;omega)) (by rw[←ah,←hooff]) (.d rfl rfl (.d rfl rfl (.nil)))))))))) .nil))
 conv=>cbv
 have hf:=Ev an
 refine .one ar ao rfl fun ax z6 a6 ay=>?_
 conv=>cbv
 refine .one ae ah rfl fun az z7 a7 a1=>?_
 conv=>cbv
 exact .go [12,14] (au,z6,ax,z7,az) (hJ _ ⟨_,_,ay,Jy,a1,Jy,by simp;omega,by rw[e3]at aj an;rw[hS,H7 (h:=⟨aa,ac,ab,ad⟩) aj an];simp[List.append_assoc]⟩ mlt)
 conv=>cbv
 have e:(⟨true,⟨aa,ac,ab,ad⟩,w9,ai,ae,true⟩:M1)=A0 b:=(by rw[e3]at aj;unfold A0;rw[ak];simp only[];rw[hS,H8 (h:=⟨aa,ac,ab,ad⟩) aj];simp)
 rw[hr]at e
 simp only[Bb.mk.injEq,M1.mk.injEq]at e
 obtain⟨rfl,⟨rfl,rfl,rfl,rfl⟩,rfl,rfl,rfl,rfl⟩:=e
 exact hQ _ _ (.one (.inl rfl) rfl (.agg (.d rfl rfl (.d rfl rfl (.d rfl rfl (.d rfl rfl (.d rfl rfl (.ref rfl (by rw[←ao,List.length_map];first|omega|(simp;omega)) (by rw[←ao,←horec]) (.ref rfl (by rw[←ah,List.length_map];first|omega|(simp;omega)) (by rw[←ah,←hooff]) (.d rfl rfl (.d rfl rfl (.nil)))))))))) .nil))
theorem Ug{o:Int}(hs:b.size<2^47)(hr:Gb b=o):Fn Tryz.prog 143 [S b] [] ⟨I o,[],[]⟩:=by
 refine Fn.go Rd Tryz.func143 fun P hP Q hQ=>?_
 conv=>cbv
 rcases aj:A0 b with⟨an,⟨af,ag,ah,ai⟩,ac,ad,ae,am⟩
 generalize aa:ac.map cS=ak
 generalize ab:ad.map cI=al
 refine .dd hP (Lw (by omega) aj aa ab) ?_
 conv=>cbv
 have e:ae=Gb b:=(by unfold Gb;rw[aj])
 rw[hr]at e
 subst e
 exact hQ _ _ (.i rfl rfl)
end
section
open Go Go.Proofs
set_option maxRecDepth 20000
set_option maxHeartbeats 4000000
def Xa2:List (Nat×TyRow):=[ty3,ty9,Xcd,XhD,XfM,Xhn]
theorem Yx:Ck Tryz.prog Xa2:=Ck.of (by kernel_rfl)
theorem Hm:Setup Tryz.prog Xa2:=⟨Yx,mixed⟩
def Ye(s:Nat)(offs:List Int)(n:Nat):List Fu:=((List.range n).filter (fun i=>i% s=0)).map (fun(i:Nat)=>⟨(i:Int),offs.getD i 0⟩)
def Bt(stride:Int)(offs:List Int):List Fu:=if stride<1 then[]else Ye stride.toNat offs offs.length
theorem M9{s n:Nat}{offs:List Int}:Ye s offs (n+1)=Ye s offs n++(if n% s=0 then[⟨(n:Int),offs.getD n 0⟩]else[]):=by
 unfold Ye
 rw[List.range_succ,List.filter_append,List.map_append]
 congr 1
 by_cases h:n% s=0<;>simp[h]
theorem U3{s n:Nat}{offs:List Int}:(Ye s offs n).length≤n:=by
 unfold Ye
 rw[List.length_map]
 exact Nat.le_trans (List.length_filter_le _ _) (by simp)
theorem Uq{s k:Nat}{offs:List Int}(hk:k% s=0):∀(d:Nat),d<s→Ye s offs (k+1+d)=Ye s offs k++[⟨(k:Int),offs.getD k 0⟩]
 |0,_=>by rw[Nat.add_zero,M9,if_pos hk]
 |d+1,h=>by
  rw[←Nat.add_assoc,M9,Uq hk d (by omega),if_neg,List.append_nil]
  have:k+1+d=k+(d+1):=by omega
  rw[this,Nat.add_mod,hk,Nat.zero_add,Nat.mod_mod,Nat.mod_eq_of_lt h]
  omega
theorem Ob{l:List Int}{k:Nat}(h:k<l.length):l[k]=l.getD k 0:=by rw[List.getD_eq_getElem?_getD,List.getElem?_eq_getElem h];rfl
def Fc(a b:Int):ByteArray:=if b≤a∧a - b≤1000000000 then Bw (a - b)else tx []
theorem Pz{a b:Int}{o:ByteArray}(h:Fc a b=o):o.size≤5:=by
 rw[←h]
 unfold Fc
 split
 ·exact G4 _
 ·simp[A7]
def Gk(a b:Int):Int:=if b≤a∧a - b<9223372036854775808 then a - b else -1
theorem Tb(a b:Int):Bw (Gk a b)=Fc a b:=by
 unfold Gk Fc
 by_cases h:b≤a∧a - b≤1000000000
 ·rw[if_pos h,if_pos (by omega)]
 ·rw[if_neg h]
  unfold Bw
  split
  ·rw[if_neg (by omega)]
  ·rfl
def Gm:Int×Int→List Fu→Option ByteArray
 |_,[]=>some (tx [])
 |q,p::l=>if Fc p.count_ q.1=tx []∨Fc p.at_ q.2=tx []then none else(Gm (p.count_,p.at_) l).map fun t=>(Fc p.count_ q.1++Fc p.at_ q.2)++t
def Bh(l:List Fu):ByteArray:=match Gm (0,0) l with
 |some t=>Bw l.length++t
 |none=>tx []
theorem Rp:∀{l:List Fu} {q:Int×Int} {t:ByteArray},Gm q l=some t→t.size≤10*l.length
 |[],q,t,h=>by cases h;simp[A7]
 |p::l,q,t,h=>by
  simp only[Gm]at h
  split at h
  ·cases h
  ·obtain⟨u,hu,rfl⟩:=Option.map_eq_some_iff.1 h
   have:=Rp hu
   have h1:=Pz (rfl:Fc p.count_ q.1=_)
   have h2:=Pz (rfl:Fc p.at_ q.2=_)
   rw[ByteArray.size_append,ByteArray.size_append,List.length_cons]
   omega
theorem Mg(l:List Fu):(Bh l).size≤5+10*l.length:=by
 unfold Bh
 split
 ·rename_i t h
  have h1:=Rp h
  have h2:=G4 l.length
  rw[ByteArray.size_append]
  omega
 ·simp[A7]
theorem Nu{l:List Fu}{o:ByteArray}(h:Bh l=o):o.size≤5+10*l.length:=by rw[←h];exact Mg l
theorem XcK(s:ByteArray):tx []++s=s:=by rw[←Ms s,Ce];rfl
theorem Tz(s:ByteArray):s++tx []=s:=by rw[←Ms s,Ce,List.append_nil]
theorem Ys{n w:Int}(h:Az n w≠tx []):(Az n w).size=w.toNat:=by
 by_cases hh:0≤n∧1≤w∧w≤8∧n.toNat/2^ (8*w.toNat)=0
 ·exact Nm hh
 ·exact absurd (if_neg hh) h
def wfPl(l:List Fu):Prop:=∀p∈l,wfI p.count_∧wfI p.at_
def Hj(acc:ByteArray):List Int→Option ByteArray
 |[]=>some acc
 |x::l=>if Az x 4=tx []then none else Hj (acc++Az x 4) l
def Bc(a b c d:Int):ByteArray:=match Hj (tx []) [a,b,c,d]with
 |some t=>t++tx [73,68,88,33]
 |none=>tx []
theorem P5:∀{l:List Int} {acc t:ByteArray},Hj acc l=some t→t.size≤acc.size+8*l.length
 |[],acc,t,h=>by cases h;simp
 |x::l,acc,t,h=>by
  simp only[Hj]at h
  split at h
  ·cases h
  ·have:=P5 h
   have h1:=@Ec x 4
   rw[ByteArray.size_append]at this
   rw[List.length_cons]
   omega
theorem Ft{a b c d:Int}{o:ByteArray}(h:Bc a b c d=o):o.size≤36:=by
 rw[←h]
 unfold Bc
 split
 ·rename_i t ht
  have:=P5 ht
  simp only[A7,List.length_cons,List.length_nil]at this
  rw[ByteArray.size_append,A7]
  simp only[List.length_cons,List.length_nil]
  omega
 ·simp[A7]
theorem Ws:∀{l:List Int} {acc t:ByteArray},Hj acc l=some t→t.size=acc.size+4*l.length
 |[],acc,t,h=>by cases h;simp
 |x::l,acc,t,h=>by
  simp only[Hj]at h
  split at h
  ·cases h
  ·rename_i hx
   have:=Ws h
   have h1:=Ys hx
   rw[ByteArray.size_append,h1]at this
   rw[List.length_cons,this]
   simp
   omega
theorem Ld{a b c d:Int}(h:Bc a b c d≠tx []):(Bc a b c d).size=20:=by
 unfold Bc at h⊢
 split
 ·rename_i t ht
  have:=Ws ht
  simp only[A7,List.length_cons,List.length_nil]at this
  rw[ByteArray.size_append,A7,this]
  rfl
 ·rename_i ht
  rw[ht]at h
  exact absurd rfl h
def Bl(h:Bb)(offs:List Int)(fin:Int):ByteArray:=
 if Cd h=true∧Bv h.version_ (h.base_+offs.length)≠tx []∧Bh (Bt h.stride_ offs)≠tx []∧Bc fin offs.length h.stride_ 0≠tx []then
  (Bv h.version_ (h.base_+offs.length)++Bh (Bt h.stride_ offs))++Bc fin offs.length h.stride_ (Ex ((Bv h.version_ (h.base_+offs.length)++Bh (Bt h.stride_ offs))++(Bc fin offs.length h.stride_ 0).extract 0 12))else tx []
theorem H1{s:Int}{offs:List Int}:(Bt s offs).length≤offs.length:=by
 unfold Bt
 split
 ·simp
 ·exact U3
theorem Pg{s:Int}{offs:List Int}(h:∀x∈offs,wfI x)(hl:offs.length<2^40):wfPl (Bt s offs):=by
 unfold Bt
 split
 ·intro p hp;simp at hp
 ·intro p hp
  unfold Ye at hp
  obtain⟨i,hi,rfl⟩:=List.mem_map.1 hp
  have aa:=List.mem_range.1 (List.mem_filter.1 hi).1
  refine⟨⟨by show -9223372036854775808≤(i:Int);omega,by show(i:Int)<9223372036854775808;omega⟩,?_⟩
  show wfI (offs.getD i 0)
  rw[←Ob aa]
  exact h _ (List.getElem_mem aa)
theorem Pb(h:Bb)(offs:List Int)(fin:Int):(Bl h offs fin).size≤57+10*offs.length:=by
 unfold Bl
 split
 ·rw[ByteArray.size_append,ByteArray.size_append]
  have h1:=Jn (rfl:Bv h.version_ (h.base_+offs.length)=_)
  have h2:=Mg (Bt h.stride_ offs)
  have h3:=@H1 h.stride_ offs
  have h4:=Ft (rfl:Bc fin offs.length h.stride_ (Ex ((Bv h.version_ (h.base_+offs.length)++Bh (Bt h.stride_ offs))++(Bc fin offs.length h.stride_ 0).extract 0 12))=_)
  omega
 ·simp[A7]
variable {stride mark count sum a b:Int} {offs:List Int} {xoffs xo:List (List D)} {o:ByteArray}
theorem Xb3{o:List Fu}(hoffs:offs.map cI=xoffs)(hl:offs.length<2^40)(hr:Bt stride offs=o)(ho:o.map O6=xo):Fn Tryz.prog 287 [I stride,.d (.row 1 xoffs)] [] ⟨.d (.row 2 xo),[],[]⟩:=by
 refine Fn.go Hm Tryz.func287 fun P hP Q hQ=>?_
 conv=>cbv
 refine LoopW.lp (κ:=Int×(List (List D))×Nat) Hm hP [1] [0,1] (fun(i6,aa,ab)=>[(5,.ref 2 0 ab),(6,I i6)]) (fun(i6,aa,ab)=>[(2,.row 2 false aa)])
  (fun(i6,aa,ab)=>∃(w2:List Fu),w2.map O6=aa∧ab=w2.length∧∃k:Nat,i6=(k:Int)∧k≤offs.length∧(1≤stride∨k=0)∧w2=Ye stride.toNat offs k)
  (fun(i6,aa,ab)=>(offs.length - i6).toNat) (0,[],0) ⟨[],rfl,rfl,0,rfl,by omega,by omega,by simp[Ye]⟩ ⟨rfl,rfl,trivial⟩ rfl ?_
 rintro⟨i6,aa,ab⟩ J ⟨w2,ac,ah,k,hi,hk,hs,hw⟩ hJ
 have hwl:w2.length≤k:=by rw[hw];exact U3
 conv=>cbv
 refine .go hoffs fun v1 ak=>?_
 conv=>cbv
 refine .lss (fun h2=>?_) fun h2=>?_
 conv=>cbv
 refine .geq (fun h3=>?_) fun h3=>?_
 conv=>cbv
 refine .rem fun v4 ad=>?_
 conv=>cbv
 refine .eql (fun h5=>?_) fun h5=>?_
 conv=>cbv
 refine .go i6.toNat hoffs fun ai e6 ae=>?_
 conv=>cbv
 have em0:((k% stride.toNat:Nat):Int)=0:=by rw[Int.natCast_emod,Int.toNat_of_nonneg (by omega),←hi,←ad];exact h5
 have em:k% stride.toNat=0:=by omega
 have e1:(⟨i6,e6⟩:Fu)=⟨(k:Int),offs.getD k 0⟩:=by rw[ae,Ob];simp only[hi,Int.toNat_natCast]
 refine .one (⟨i6,e6⟩:Fu) ac rfl fun af z7 aj ag=>?_
 conv=>cbv
 refine .add fun v8 al=>?_
 conv=>cbv
 exact .go [4] (v8,z7,af) (hJ _ ⟨_,ag,Jy,k+1,by omega,by omega,by omega,by rw[M9,if_pos em,hw,e1]⟩ mlt)
 conv=>cbv
 have em:¬k% stride.toNat=0:=by intro e;refine h5 ?_;rw[ad,hi,show stride=((stride.toNat:Nat):Int)by omega,←Int.natCast_emod,e];rfl
 refine .add fun v6 am=>?_
 conv=>cbv
 exact .go [2] (v6,aa,ab) (hJ _ ⟨_,ac,Jy,k+1,by omega,by omega,by omega,by rw[M9,if_neg em,hw];simp⟩ mlt)
 conv=>cbv
 have e:w2=Bt stride offs:=(by rw[hw,show k=0 by omega];unfold Bt;rw[if_pos (by omega)];rfl)
 rw[hr]at e
 subst e
 exact hQ _ _ (.r rfl rfl (by rw[←ac,List.length_map];first|omega|(simp;omega)) (by rw[←ac,←ho]))
 conv=>cbv
 have e:w2=Bt stride offs:=(by rw[hw];unfold Bt;split;rw[show k=0 by omega];rfl;rw[show k=offs.length by omega])
 rw[hr]at e
 subst e
 exact hQ _ _ (.r rfl rfl (by rw[←ac,List.length_map];first|omega|(simp;omega)) (by rw[←ac,←ho]))
theorem Xb0{o:List Fu}(hoffs:offs.map cI=xoffs)(hl:offs.length<2^40)(hr:Bt stride offs=o)(ho:o.map O6=xo):Fn Tryz.prog 292 [I stride,.d (.row 1 xoffs)] [] ⟨.d (.row 2 xo),[],[]⟩:=by
 refine Fn.go Hm Tryz.func292 fun P hP Q hQ=>?_
 conv=>cbv
 refine .lss (fun h1=>?_) fun h1=>?_
 conv=>cbv
 have e:[]=Bt stride offs:=(by unfold Bt;rw[if_pos (by omega)])
 rw[hr]at e
 subst e
 exact hQ _ _ (.r rfl rfl rfl (by rw[←ho];rfl))
 conv=>cbv
 refine LoopW.lp (κ:=Int×(List (List D))×Nat) Hm hP [1] [0,1] (fun(i6,aa,ab)=>[(5,.ref 2 0 ab),(6,I i6)]) (fun(i6,aa,ab)=>[(2,.row 2 false aa)])
  (fun(i6,aa,ab)=>∃(w2:List Fu),w2.map O6=aa∧ab=w2.length∧∃k:Nat,i6=(k:Int)∧k≤offs.length∧k% stride.toNat=0∧w2=Ye stride.toNat offs k)
  (fun(i6,aa,ab)=>(offs.length - i6).toNat) (0,[],0) ⟨[],rfl,rfl,0,rfl,by omega,by simp,by simp[Ye]⟩ ⟨rfl,rfl,trivial⟩ rfl ?_
 rintro⟨i6,aa,ab⟩ J ⟨w2,ac,ag,k,hi,hk,hs,hw⟩ hJ
 have hwl:w2.length≤k:=by rw[hw];exact U3
 conv=>cbv
 refine .go hoffs fun v2 aj=>?_
 conv=>cbv
 refine .lss (fun h3=>?_) fun h3=>?_
 conv=>cbv
 refine .go i6.toNat hoffs fun ah e4 ae=>?_
 conv=>cbv
 have e1:(⟨i6,e4⟩:Fu)=⟨(k:Int),offs.getD k 0⟩:=by rw[ae,Ob];simp only[hi,Int.toNat_natCast]
 refine .one (⟨i6,e4⟩:Fu) ac rfl fun af z5 ai ad=>?_
 conv=>cbv
 refine .go hoffs fun v6 ak=>?_
 conv=>cbv
 refine .sub fun v7 al=>?_
 conv=>cbv
 refine .gtr (fun h8=>?_) fun h8=>?_
 conv=>cbv
 have e:(w2++[(⟨i6,e4⟩:Fu)])=Bt stride offs:=(by unfold Bt;rw[if_neg (by omega),show offs.length=k+1+(offs.length - 1 - k)by omega,Uq hs _ (by omega),hw,e1])
 rw[hr]at e
 subst e
 exact hQ _ _ (.r rfl rfl (by rw[←ad,List.length_map];first|omega|(simp;omega)) (by rw[←ad,←ho]))
 conv=>cbv
 refine .add fun v9 am=>?_
 conv=>cbv
 exact .go [4] (v9,z5,af) (hJ _ ⟨_,ad,Jy,k+stride.toNat,by omega,by omega,by rw[Nat.add_mod_right];exact hs,by rw[show k+stride.toNat=k+1+(stride.toNat - 1)by omega,Uq hs _ (by omega),hw,e1]⟩ mlt)
 conv=>cbv
 have e:w2=Bt stride offs:=(by unfold Bt;rw[if_neg (by omega),hw,show k=offs.length by omega])
 rw[hr]at e
 subst e
 exact hQ _ _ (.r rfl rfl (by rw[←ac,List.length_map];first|omega|(simp;omega)) (by rw[←ac,←ho]))
theorem Na(k1:mark<9223372036854775808)(k2:count<9223372036854775808)(k3:stride<9223372036854775808)(k4:sum<9223372036854775808)(hr:Bc mark count stride sum=o):Fn Tryz.prog 293 [I mark,I count,I stride,I sum] [] ⟨S o,[],[]⟩:=by
 refine Fn.go Hm Tryz.func293 fun P hP Q hQ=>?_
 conv=>cbv
 refine .go fun v1 ah=>?_
 conv=>cbv
 refine LoopW.lp (κ:=ByteArray×Int) Hm hP [] [17,18] (fun(s9,aa)=>[(9,S s9),(19,I aa)]) (fun(s9,aa)=>[])
  (fun(s9,aa)=>∃k:Nat,aa=(k:Int)∧k≤4∧s9.size≤8*k∧Hj (tx []) [mark,count,stride,sum]=Hj s9 ([mark,count,stride,sum].drop k))
  (fun(s9,aa)=>(4 - aa).toNat) (tx [],0) ⟨0,rfl,by omega,by simp[A7],rfl⟩ ⟨rfl,rfl,trivial⟩ rfl ?_
 rintro⟨s9,aa⟩ J ⟨k,hi,hk,hz,hf⟩ hJ
 conv=>cbv
 refine .lss (fun h2=>?_) fun h2=>?_
 conv=>cbv
 refine .go aa.toNat fun p3 ai af=>?_
 conv=>cbv
 refine .go (l:=[mark,count,stride,sum]) (c:=cI) rfl fun ag e4 ac=>?_
 conv=>cbv
 have eE:[mark,count,stride,sum][k]'(by simp;omega)=e4:=by rw[ac];congr 1;omega
 have hE:e4<9223372036854775808:=by
  rw[←eE]
  have aj:k<4:=by omega
  rcases k with _|_|_|_|k
  ·exact k1
  ·exact k2
  ·exact k3
  ·exact k4
  ·omega
 generalize ab:Az e4 4=r5
 have zr5:=Bm ab
 refine .dd hP (El (by omega) ab) ?_
 conv=>cbv
 refine .eql (fun h6=>?_) fun h6=>?_
 conv=>cbv
 have e:(tx [])=Bc mark count stride sum:=(by unfold Bc;rw[hf,List.drop_eq_getElem_cons (by simp;omega)];simp only[Hj];rw[eE,if_pos (by rw[ab];exact h6)])
 rw[hr]at e
 subst e
 exact hQ _ _ (.s rfl rfl)
 conv=>cbv
 refine .go fun s7 ad ak=>?_
 conv=>cbv
 refine .add fun v8 al=>?_
 conv=>cbv
 exact .go [] (s7,v8) (hJ _ ⟨k+1,by omega,by omega,by omega,by rw[hf,List.drop_eq_getElem_cons (by simp;omega)];simp only[Hj];rw[eE,if_neg];rw[ad];rw[ab];exact fun e=>h6 (ab.symm.trans e)⟩ mlt)
 conv=>cbv
 refine .litR 4 fun s3 ae am=>?_
 conv=>cbv
 have e:s3=Bc mark count stride sum:=(by unfold Bc;rw[hf,List.drop_of_length_le (by simp;omega)];simp only[Hj];exact ae)
 rw[hr]at e
 subst e
 exact hQ _ _ (.s rfl rfl)
theorem Nf(k1:mark<9223372036854775808)(k2:count<9223372036854775808)(k3:stride<9223372036854775808)(k4:sum<9223372036854775808)(hr:Bc mark count stride sum=o):Fn Tryz.prog 288 [I mark,I count,I stride,I sum] [] ⟨S o,[],[]⟩:=by
 refine Fn.go Hm Tryz.func288 fun P hP Q hQ=>?_
 conv=>cbv
 refine LoopW.lp (κ:=ByteArray×Int) Hm hP [] [10] (fun(s9,aa)=>[(9,S s9),(11,I aa)]) (fun(s9,aa)=>[])
  (fun(s9,aa)=>∃k:Nat,aa=(k:Int)∧k≤4∧s9.size≤8*k∧Hj (tx []) [mark,count,stride,sum]=Hj s9 ([mark,count,stride,sum].drop k))
  (fun(s9,aa)=>(4 - aa).toNat) (tx [],0) ⟨0,rfl,by omega,by simp[A7],rfl⟩ ⟨rfl,rfl,trivial⟩ rfl ?_
 rintro⟨s9,aa⟩ J ⟨k,hi,hk,hz,hf⟩ hJ
 conv=>cbv
 refine .lss (fun h1=>?_) fun h1=>?_
 conv=>cbv
 refine .go aa.toNat fun p2 ah af=>?_
 conv=>cbv
 refine .go (l:=[mark,count,stride,sum]) (c:=cI) rfl fun ag e3 ac=>?_
 conv=>cbv
 have eE:[mark,count,stride,sum][k]'(by simp;omega)=e3:=by rw[ac];congr 1;omega
 have hE:e3<9223372036854775808:=by
  rw[←eE]
  have ai:k<4:=by omega
  rcases k with _|_|_|_|k
  ·exact k1
  ·exact k2
  ·exact k3
  ·exact k4
  ·omega
 generalize ab:Az e3 4=r4
 have zr4:=Bm ab
 refine .dd hP (D5 (by omega) ab) ?_
 conv=>cbv
 refine .eql (fun h5=>?_) fun h5=>?_
 conv=>cbv
 have e:(tx [])=Bc mark count stride sum:=(by unfold Bc;rw[hf,List.drop_eq_getElem_cons (by simp;omega)];simp only[Hj];rw[eE,if_pos (by rw[ab];exact h5)])
 rw[hr]at e
 subst e
 exact hQ _ _ (.s rfl rfl)
 conv=>cbv
 refine .go fun s6 ad aj=>?_
 conv=>cbv
 refine .add fun v7 ak=>?_
 conv=>cbv
 exact .go [] (s6,v7) (hJ _ ⟨k+1,by omega,by omega,by omega,by rw[hf,List.drop_eq_getElem_cons (by simp;omega)];simp only[Hj];rw[eE,if_neg];rw[ad];rw[ab];exact fun e=>h5 (ab.symm.trans e)⟩ mlt)
 conv=>cbv
 refine .litR 4 fun s2 ae al=>?_
 conv=>cbv
 have e:s2=Bc mark count stride sum:=(by unfold Bc;rw[hf,List.drop_of_length_le (by simp;omega)];simp only[Hj];exact ae)
 rw[hr]at e
 subst e
 exact hQ _ _ (.s rfl rfl)
theorem Xm{o:Int}(ha:wfI a)(hb:wfI b)(hr:Gk a b=o):Fn Tryz.prog 325 [I a,I b] [] ⟨I o,[],[]⟩:=by
 refine Fn.go Hm Tryz.func325 fun P hP Q hQ=>?_
 conv=>cbv
 refine .subW fun v1 aa=>?_
 conv=>cbv
 refine .lss (fun h2=>?_) fun h2=>?_
 conv=>cbv
 have e:(-1)=Gk a b:=(by unfold Gk;rw[Jw]at aa;obtain⟨ab,ac⟩:=ha;obtain⟨ad,hb2⟩:=hb;rw[if_neg (by omega)])
 rw[hr]at e
 subst e
 exact hQ _ _ (.i rfl rfl)
 conv=>cbv
 refine .lss (fun h3=>?_) fun h3=>?_
 conv=>cbv
 have e:(-1)=Gk a b:=(by unfold Gk;rw[Jw]at aa;obtain⟨ab,ac⟩:=ha;obtain⟨ad,hb2⟩:=hb;rw[if_neg (by omega)])
 rw[hr]at e
 subst e
 exact hQ _ _ (.i rfl rfl)
 conv=>cbv
 have e:v1=Gk a b:=(by unfold Gk;rw[Jw]at aa;obtain⟨ab,ac⟩:=ha;obtain⟨ad,hb2⟩:=hb;rw[if_pos (by omega)];omega)
 rw[hr]at e
 subst e
 exact hQ _ _ (.i rfl rfl)
theorem XdS(ha:wfI a)(hb:wfI b)(hr:Fc a b=o):Fn Tryz.prog 327 [I a,I b] [] ⟨S o,[],[]⟩:=by
 refine Fn.go Hm Tryz.func327 fun P hP Q hQ=>?_
 conv=>cbv
 refine .lss (fun h1=>?_) fun h1=>?_
 conv=>cbv
 have e:(tx [])=Fc a b:=(by unfold Fc;rw[if_neg (by omega)])
 rw[hr]at e
 subst e
 exact hQ _ _ (.s rfl rfl)
 conv=>cbv
 refine .go fun v2 ab=>?_
 conv=>cbv
 refine .go fun v3 ac=>?_
 conv=>cbv
 refine .subW fun v4 ad=>?_
 conv=>cbv
 have e4:v4=a - b:=by rw[ad,ab,ac,Fk,Fk,Fk];obtain⟨af,ag⟩:=ha;obtain⟨ah,hb2⟩:=hb;omega
 refine .gtr (fun h5=>?_) fun h5=>?_
 conv=>cbv
 have e:(tx [])=Fc a b:=(by unfold Fc;rw[if_neg (by omega)])
 rw[hr]at e
 subst e
 exact hQ _ _ (.s rfl rfl)
 conv=>cbv
 refine .sub fun v6 ae=>?_
 conv=>cbv
 generalize aa:Bw v6=r7
 have zr7:=Gd aa
 refine .dd hP (Ra aa) ?_
 conv=>cbv
 have e:r7=Fc a b:=(by unfold Fc;rw[if_pos (by omega),←aa,ae])
 rw[hr]at e
 subst e
 exact hQ _ _ (.s rfl rfl)
theorem V8{l:List Fu}{xl:List (List D)}(hl:l.map O6=xl)(hn:l.length<2^40)(hw:wfPl l)(hr:Bh l=o):Fn Tryz.prog 286 [.d (.row 2 xl)] [] ⟨S o,[],[]⟩:=by
 refine Fn.go Hm Tryz.func286 fun P hP Q hQ=>?_
 conv=>cbv
 refine .go hl fun v1 ao=>?_
 conv=>cbv
 generalize ae:Bw v1=r2
 have zr2:=Gd ae
 refine .dd hP (K4 ae) ?_
 conv=>cbv
 refine LoopW.lp (κ:=ByteArray×Int×Int×Int) Hm hP [] [0,4] (fun(s3,i5,ab,ac)=>[(3,S s3),(5,I i5)]) (fun(s3,i5,ab,ac)=>[(0,.box 253 [I ab,I ac])])
  (fun(s3,i5,ab,ac)=>∃(k:Nat) (pr:ByteArray),i5=(k:Int)∧k≤l.length∧s3=Bw l.length++pr∧pr.size≤10*k∧wfI ab∧wfI ac∧Gm (0,0) l=(Gm (ab,ac) (l.drop k)).map fun t=>pr++t)
  (fun(s3,i5,ab,ac)=>(l.length - i5).toNat) (r2,0,0,0) ⟨0,tx [],rfl,by omega,by rw[←ae,ao,Tz],by simp[A7],by constructor<;>omega,by constructor<;>omega,by simp[XcK]⟩ ⟨rfl,rfl,trivial⟩ rfl ?_
 rintro⟨s3,i5,ab,ac⟩ J ⟨k,pr,hi,hk,hs,hz,hwa,hwb,hp⟩ hJ
 have ay:s3.size≤5+10*k:=by rw[hs,ByteArray.size_append];have:=G4 l.length;omega
 conv=>cbv
 refine .go hl fun v3 az=>?_
 conv=>cbv
 refine .lss (fun h4=>?_) fun h4=>?_
 conv=>cbv
 refine .go i5.toNat hl fun ar ⟨aa,ad⟩ ah=>?_
 conv=>cbv
 have hkl:k<l.length:=by omega
 have hd:l.drop k=⟨aa,ad⟩::l.drop (k+1):=by rw[List.drop_eq_getElem_cons hkl,ah];congr 2;omega
 obtain⟨ai,aj⟩:=hw ⟨aa,ad⟩ (by rw[ah];exact List.getElem_mem _)
 simp only[]at ai aj
 generalize ak:Gk aa ab=r6
 refine .dd hP (Xm (by assumption) (by assumption) ak) ?_
 conv=>cbv
 generalize af:Bw r6=r7
 have zr7:=Gd af
 refine .dd hP (K4 af) ?_
 conv=>cbv
 generalize al:Gk ad ac=r8
 refine .dd hP (Xm (by assumption) (by assumption) al) ?_
 conv=>cbv
 generalize ag:Bw r8=r9
 have zr9:=Gd ag
 refine .dd hP (K4 ag) ?_
 conv=>cbv
 have ea:Fc aa ab=r7:=by rw[←af,←ak,Tb]
 have eb:Fc ad ac=r9:=by rw[←ag,←al,Tb]
 refine .eql (fun h10=>?_) fun h10=>?_
 conv=>cbv
 have e:(tx [])=Bh l:=(by unfold Bh;rw[hp,hd];simp only[Gm];rw[ea,eb,if_pos (.inl h10)];rfl)
 rw[hr]at e
 subst e
 exact hQ _ _ (.s rfl rfl)
 conv=>cbv
 refine .eql (fun h11=>?_) fun h11=>?_
 conv=>cbv
 have e:(tx [])=Bh l:=(by unfold Bh;rw[hp,hd];simp only[Gm];rw[ea,eb,if_pos (.inr h11)];rfl)
 rw[hr]at e
 subst e
 exact hQ _ _ (.s rfl rfl)
 conv=>cbv
 refine .go fun a1 am au=>?_
 conv=>cbv
 refine .go fun ap an aw=>?_
 conv=>cbv
 refine .add fun aq ax=>?_
 conv=>cbv
 exact .go [] (ap,aq,aa,ad) (hJ _ ⟨k+1,pr++(r7++r9),by omega,by omega,by rw[an,am,hs];simp only[ByteArray.append_assoc],by rw[ByteArray.size_append,ByteArray.size_append];omega,ai,aj,by rw[hp,hd];simp only[Gm];rw[ea,eb,if_neg (by intro h;rcases h with h|h;exact h10 h;exact h11 h),Option.map_map];congr 1;funext t;simp only[Function.comp,ByteArray.append_assoc]⟩ mlt)
 conv=>cbv
 have e:s3=Bh l:=(by unfold Bh;rw[hp,List.drop_of_length_le (by omega),hs];simp[Gm,Tz])
 rw[hr]at e
 subst e
 exact hQ _ _ (.s rfl rfl)
end
section
open Go Go.Proofs
set_option maxRecDepth 20000
set_option maxHeartbeats 4000000
def Vx:List (Nat×TyRow):=[ty3,ty9,Xgq,XfM,Xhn]
theorem Xc:Ck Tryz.prog Vx:=Ck.of (by kernel_rfl)
theorem Xaz:Setup Tryz.prog Vx:=⟨Xc,mixed⟩
theorem W0{l:List Fu}{xl:List (List D)}{o:ByteArray}(hl:l.map O6=xl)(hn:l.length≤1000000000)(hw:wfPl l)(hr:Bh l=o):Fn Tryz.prog 291 [.d (.row 2 xl)] [] ⟨S o,[],[]⟩:=by
 refine Fn.go Xaz Tryz.func291 fun P hP Q hQ=>?_
 conv=>cbv
 refine .go hl fun v1 az=>?_
 conv=>cbv
 generalize al:Bw v1=r2
 have zr2:=Gd al
 refine .dd hP (Ra al) ?_
 conv=>cbv
 obtain⟨nb3,hnb3⟩:∃m,([]:List UInt8).length+r2.size=m:=⟨_,rfl⟩
 obtain⟨b3,am⟩:∃m,[]++r2.data.toList=m:=⟨_,rfl⟩
 obtain⟨kb3,aq⟩:∃m,(r2.size:Int)=m:=⟨_,rfl⟩
 have lb3:nb3=b3.length:=by rw[←am,List.length_append,Array.length_toList];exact hnb3.symm
 refine .bx [2,0] [0] hP (XaS rfl (by first|omega|(simp;omega)) hnb3 am aq) rfl rfl rfl rfl ?_
 conv=>cbv
 refine .go hl fun v4 a8=>?_
 conv=>cbv
 refine LoopW.lp (κ:=Int×Int×Int×(List UInt8)×Nat) Xaz hP [3] [3,4,15,16] (fun(ac,ad,ae,aa,ag)=>[(17,I ac)]) (fun(ac,ad,ae,aa,ag)=>[(2,.box 219 [.ptr 2 0 0,.ref 5 0 ag]),(4,.box 253 [I ad,I ae]),(5,.buf 5 false aa)])
  (fun(ac,ad,ae,aa,ag)=>ag=aa.length∧∃(k:Nat) (pr:ByteArray),ac=(k:Int)∧k≤l.length∧aa=(Bw l.length++pr).data.toList∧pr.size≤10*k∧wfI ad∧wfI ae∧Gm (0,0) l=(Gm (ad,ae) (l.drop k)).map fun t=>pr++t)
  (fun(ac,ad,ae,aa,ag)=>(l.length - ac).toNat) (0,0,0,b3,nb3) ⟨lb3,0,tx [],rfl,by omega,by rw[←am,Tz,←az,al];rfl,by simp[A7],by constructor<;>omega,by constructor<;>omega,by simp[XcK]⟩ ⟨rfl,trivial⟩ rfl ?_
 rintro⟨ac,ad,ae,aa,ag⟩ J ⟨ak,k,pr,hi,hk,hs,hz,hwa,hwb,hp⟩ hJ
 have z1:1≤(Bw l.length).size:=by unfold Bw;rw[if_pos (by omega),A7];exact List.length_pos_iff.2 (P9 _)
 have zv:=G4 l.length
 have zl:aa.length=(Bw l.length).size+pr.size:=by rw[hs,Array.length_toList];exact ByteArray.size_append
 conv=>cbv
 refine .lss (fun h5=>?_) fun h5=>?_
 conv=>cbv
 refine .go ac.toNat hl fun a2 ⟨ab,af⟩ ar=>?_
 conv=>cbv
 have hkl:k<l.length:=by omega
 have hd:l.drop k=⟨ab,af⟩::l.drop (k+1):=by rw[List.drop_eq_getElem_cons hkl,ar];congr 2;omega
 obtain⟨au,aw⟩:=hw ⟨ab,af⟩ (by rw[ar];exact List.getElem_mem _)
 simp only[]at au aw
 generalize ah:Fc ab ad=r7
 have zr7:=Pz ah
 refine .dd hP (XdS (by assumption) (by assumption) ah) ?_
 conv=>cbv
 generalize ai:Fc af ae=r8
 have zr8:=Pz ai
 refine .dd hP (XdS (by assumption) (by assumption) ai) ?_
 conv=>cbv
 refine .eql (fun h9=>?_) fun h9=>?_
 conv=>cbv
 have e:(tx [])=Bh l:=(by unfold Bh;rw[hp,hd];simp only[Gm];rw[ah,ai,if_pos (.inl h9)];rfl)
 rw[hr]at e
 subst e
 exact hQ _ _ (.s rfl rfl)
 conv=>cbv
 refine .eql (fun h10=>?_) fun h10=>?_
 conv=>cbv
 have e:(tx [])=Bh l:=(by unfold Bh;rw[hp,hd];simp only[Gm];rw[ah,ai,if_pos (.inr h10)];rfl)
 rw[hr]at e
 subst e
 exact hQ _ _ (.s rfl rfl)
 conv=>cbv
 refine .go fun an ax a6=>?_
 conv=>cbv
 obtain⟨nb12,hnb12⟩:∃m,(aa:List UInt8).length+an.size=m:=⟨_,rfl⟩
 obtain⟨ay,aj⟩:∃m,aa++an.data.toList=m:=⟨_,rfl⟩
 obtain⟨kb12,ao⟩:∃m,(an.size:Int)=m:=⟨_,rfl⟩
 have lb12:nb12=ay.length:=by rw[←aj,List.length_append,Array.length_toList];exact hnb12.symm
 refine .bx [2,5] [5] hP (Xad ak (by first|omega|(simp;omega)) hnb12 aj ao) rfl rfl rfl rfl ?_
 conv=>cbv
 refine .add fun a1 a7=>?_
 conv=>cbv
 exact .go [7] (a1,ab,af,ay,nb12) (hJ _ ⟨Jy,k+1,pr++(r7++r8),by omega,by omega,by rw[←aj,hs,ax];simp[ByteArray.data_append,List.append_assoc],by rw[ByteArray.size_append,ByteArray.size_append];omega,au,aw,by rw[hp,hd];simp only[Gm];rw[ah,ai,if_neg (by intro h;rcases h with h|h;exact h9 h;exact h10 h),Option.map_map];congr 1;funext t;simp only[Function.comp,ByteArray.append_assoc]⟩ mlt)
 conv=>cbv
 obtain⟨b6,ap⟩:∃m,tx aa=m:=⟨_,rfl⟩
 have zb6:b6.size=aa.length:=by rw[←ap,A7]
 refine .bx [2,5] [5] hP (Xa5 (x:=.ptr 0 0 0) ak (by intro e;rw[e]at zl;simp at zl;omega) (by first|omega|(simp;omega)) ap) rfl rfl rfl rfl ?_
 conv=>cbv
 have e:b6=Bh l:=(by unfold Bh;rw[hp,List.drop_of_length_le (by omega)];simp only[Gm,Option.map_some,Tz];rw[←ap,hs,Ms])
 rw[hr]at e
 subst e
 exact hQ _ _ (.s rfl rfl)
end
section
open Go Go.Proofs
set_option maxRecDepth 20000
set_option maxHeartbeats 4000000
def Xk:List (Nat×TyRow):=[ty3,ty9,Xcd,Zh,XfM]
theorem Vs:Ck Tryz.prog Xk:=Ck.of (by kernel_rfl)
theorem XaZ:Setup Tryz.prog Xk:=⟨Vs,mixed⟩
theorem Q9{h:Bb}{offs:List Int}{fin:Int}{o:ByteArray}(e:Bl h offs fin=o):o.size≤57+10*offs.length:=by rw[←e];exact Pb _ _ _
variable {hver hstr hbas hlin fin:Int} {offs:List Int} {xoffs:List (List D)} {o:ByteArray}
theorem Xby(hoffs:offs.map cI=xoffs)(hl:offs.length≤1000000000)(hwo:∀x∈offs,wfI x)(hf:fin<9223372036854775808)(hr:Bl (⟨hver,hstr,hbas,hlin⟩:Bb) offs fin=o):Fn Tryz.prog 234 [.agg [I hver,I hstr,I hbas,I hlin],.d (.row 1 xoffs),I fin] [] ⟨S o,[],[]⟩:=by
 refine Fn.go XaZ Tryz.func234 fun P hP Q hQ=>?_
 conv=>cbv
 generalize ag:Cd (⟨hver,hstr,hbas,hlin⟩:Bb)=r1
 refine .dd hP (Tr ag) ?_
 cases r1
 conv=>cbv
 have e:(tx [])=Bl (⟨hver,hstr,hbas,hlin⟩:Bb) offs fin:=(by unfold Bl;rw[if_neg];rintro⟨q1,q2,q3,q4⟩;simp only[]at q1 q2 q3 q4;rw[ag]at q1;cases q1)
 rw[hr]at e
 subst e
 exact hQ _ _ (.s rfl rfl)
 conv=>cbv
 have hh:=Fb ag
 refine .go hoffs fun v2 aj=>?_
 conv=>cbv
 refine .add fun v3 ak=>?_
 conv=>cbv
 generalize ac:Bv hver v3=r4
 have zr4:=Jn ac
 refine .dd hP (Vw ac) ?_
 conv=>cbv
 generalize ab:Bt hstr offs=l5
 generalize al:l5.map O6=a7
 refine .dd hP (Xb0 hoffs (by omega) ab al) ?_
 conv=>cbv
 have zl5:l5.length≤offs.length:=ab▸H1
 generalize ad:Bh l5=r6
 have zr6:=Nu ad
 refine .dd hP (W0 al (by omega) (ab▸Pg hwo (by omega)) ad) ?_
 conv=>cbv
 refine .go hoffs fun v7 am=>?_
 conv=>cbv
 generalize aa:Bc fin v7 hstr 0=r8
 have zr8:=Ft aa
 refine .dd hP (Na (by omega) (by omega) (by omega) (by omega) aa) ?_
 conv=>cbv
 refine .eql (fun h9=>?_) fun h9=>?_
 conv=>cbv
 have e:(tx [])=Bl (⟨hver,hstr,hbas,hlin⟩:Bb) offs fin:=(by unfold Bl;rw[if_neg];rintro⟨q1,q2,q3,q4⟩;simp only[]at q1 q2 q3 q4;rw[←aj,←ak,ac]at q2;exact q2 h9)
 rw[hr]at e
 subst e
 exact hQ _ _ (.s rfl rfl)
 conv=>cbv
 refine .eql (fun h10=>?_) fun h10=>?_
 conv=>cbv
 have e:(tx [])=Bl (⟨hver,hstr,hbas,hlin⟩:Bb) offs fin:=(by unfold Bl;rw[if_neg];rintro⟨q1,q2,q3,q4⟩;simp only[]at q1 q2 q3 q4;rw[ab,ad]at q3;exact q3 h10)
 rw[hr]at e
 subst e
 exact hQ _ _ (.s rfl rfl)
 conv=>cbv
 refine .eql (fun h11=>?_) fun h11=>?_
 conv=>cbv
 have e:(tx [])=Bl (⟨hver,hstr,hbas,hlin⟩:Bb) offs fin:=(by unfold Bl;rw[if_neg];rintro⟨q1,q2,q3,q4⟩;simp only[]at q1 q2 q3 q4;rw[←am,aa]at q4;exact q4 h11)
 rw[hr]at e
 subst e
 exact hQ _ _ (.s rfl rfl)
 conv=>cbv
 refine .go fun a8 ah ay=>?_
 conv=>cbv
 have z8:r8.size=20:=by rw[←aa];exact Ld (by rw[aa];exact h11)
 refine .hi fun ar ai=>?_
 conv=>cbv
 have ba:ar.size=12:=by rw[ai,N4 (by omega) (by omega)];rfl
 refine .go fun au an az=>?_
 conv=>cbv
 generalize ae:Ex au=aw
 have zr15:=Hc ae
 refine .dd hP (Ql (by omega) ae) ?_
 conv=>cbv
 refine .go fun bb ao a1=>?_
 conv=>cbv
 refine .go hoffs fun ap a2=>?_
 conv=>cbv
 generalize af:Bc fin ap hstr aw=bc
 have zr18:=Ft af
 refine .dd hP (Na (by omega) (by omega) (by omega) (by omega) af) ?_
 conv=>cbv
 refine .go fun ax aq a6=>?_
 conv=>cbv
 have e:ax=Bl (⟨hver,hstr,hbas,hlin⟩:Bb) offs fin:=(by have q:Bl ⟨hver,hstr,hbas,hlin⟩ offs fin=_:=if_pos ⟨ag,by simp only[];rw[←aj,←ak,ac];exact h9,by simp only[];rw[ab,ad];exact h10,by simp only[];rw[←am,aa];exact h11⟩;rw[q];simp only[];rw[←aj,←ak,ac,ab,ad,show(v2:Int)=v7 by omega,aa,←ah,aq,ao,←ah,←af,←ae,an,ai,show ap=v7 by omega];rfl)
 rw[hr]at e
 subst e
 exact hQ _ _ (.s rfl rfl)
theorem XbT(hoffs:offs.map cI=xoffs)(hl:offs.length≤1000000000)(hwo:∀x∈offs,wfI x)(hf:fin<9223372036854775808)(hr:Bl (⟨hver,hstr,hbas,hlin⟩:Bb) offs fin=o):Fn Tryz.prog 223 [.agg [I hver,I hstr,I hbas,I hlin],.d (.row 1 xoffs),I fin] [] ⟨S o,[],[]⟩:=by
 refine Fn.go XaZ Tryz.func223 fun P hP Q hQ=>?_
 conv=>cbv
 generalize ag:Cd (⟨hver,hstr,hbas,hlin⟩:Bb)=r1
 refine .dd hP (Vb ag) ?_
 cases r1
 conv=>cbv
 have e:(tx [])=Bl (⟨hver,hstr,hbas,hlin⟩:Bb) offs fin:=(by unfold Bl;rw[if_neg];rintro⟨q1,q2,q3,q4⟩;simp only[]at q1 q2 q3 q4;rw[ag]at q1;cases q1)
 rw[hr]at e
 subst e
 exact hQ _ _ (.s rfl rfl)
 conv=>cbv
 have hh:=Fb ag
 refine .go hoffs fun v2 aj=>?_
 conv=>cbv
 refine .add fun v3 ak=>?_
 conv=>cbv
 generalize ac:Bv hver v3=r4
 have zr4:=Jn ac
 refine .dd hP (Xz ac) ?_
 conv=>cbv
 generalize ab:Bt hstr offs=l5
 generalize al:l5.map O6=a7
 refine .dd hP (Xb3 hoffs (by omega) ab al) ?_
 conv=>cbv
 have zl5:l5.length≤offs.length:=ab▸H1
 generalize ad:Bh l5=r6
 have zr6:=Nu ad
 refine .dd hP (V8 al (by omega) (ab▸Pg hwo (by omega)) ad) ?_
 conv=>cbv
 refine .go hoffs fun v7 am=>?_
 conv=>cbv
 generalize aa:Bc fin v7 hstr 0=r8
 have zr8:=Ft aa
 refine .dd hP (Nf (by omega) (by omega) (by omega) (by omega) aa) ?_
 conv=>cbv
 refine .eql (fun h9=>?_) fun h9=>?_
 conv=>cbv
 have e:(tx [])=Bl (⟨hver,hstr,hbas,hlin⟩:Bb) offs fin:=(by unfold Bl;rw[if_neg];rintro⟨q1,q2,q3,q4⟩;simp only[]at q1 q2 q3 q4;rw[←aj,←ak,ac]at q2;exact q2 h9)
 rw[hr]at e
 subst e
 exact hQ _ _ (.s rfl rfl)
 conv=>cbv
 refine .eql (fun h10=>?_) fun h10=>?_
 conv=>cbv
 have e:(tx [])=Bl (⟨hver,hstr,hbas,hlin⟩:Bb) offs fin:=(by unfold Bl;rw[if_neg];rintro⟨q1,q2,q3,q4⟩;simp only[]at q1 q2 q3 q4;rw[ab,ad]at q3;exact q3 h10)
 rw[hr]at e
 subst e
 exact hQ _ _ (.s rfl rfl)
 conv=>cbv
 refine .eql (fun h11=>?_) fun h11=>?_
 conv=>cbv
 have e:(tx [])=Bl (⟨hver,hstr,hbas,hlin⟩:Bb) offs fin:=(by unfold Bl;rw[if_neg];rintro⟨q1,q2,q3,q4⟩;simp only[]at q1 q2 q3 q4;rw[←am,aa]at q4;exact q4 h11)
 rw[hr]at e
 subst e
 exact hQ _ _ (.s rfl rfl)
 conv=>cbv
 refine .go fun a8 ah ay=>?_
 conv=>cbv
 have z8:r8.size=20:=by rw[←aa];exact Ld (by rw[aa];exact h11)
 refine .hi fun ar ai=>?_
 conv=>cbv
 have ba:ar.size=12:=by rw[ai,N4 (by omega) (by omega)];rfl
 refine .go fun au an az=>?_
 conv=>cbv
 generalize ae:Ex au=aw
 have zr15:=Hc ae
 refine .dd hP (Qz (by omega) ae) ?_
 conv=>cbv
 refine .go fun bb ao a1=>?_
 conv=>cbv
 refine .go hoffs fun ap a2=>?_
 conv=>cbv
 generalize af:Bc fin ap hstr aw=bc
 have zr18:=Ft af
 refine .dd hP (Nf (by omega) (by omega) (by omega) (by omega) af) ?_
 conv=>cbv
 refine .go fun ax aq a6=>?_
 conv=>cbv
 have e:ax=Bl (⟨hver,hstr,hbas,hlin⟩:Bb) offs fin:=(by have q:Bl ⟨hver,hstr,hbas,hlin⟩ offs fin=_:=if_pos ⟨ag,by simp only[];rw[←aj,←ak,ac];exact h9,by simp only[];rw[ab,ad];exact h10,by simp only[];rw[←am,aa];exact h11⟩;rw[q];simp only[];rw[←aj,←ak,ac,ab,ad,show(v2:Int)=v7 by omega,aa,←ah,aq,ao,←ah,←af,←ae,an,ai,show ap=v7 by omega];rfl)
 rw[hr]at e
 subst e
 exact hQ _ _ (.s rfl rfl)
end
section
open Go Go.Proofs
set_option maxRecDepth 20000
set_option maxHeartbeats 4000000
def XaX:List (Nat×TyRow):=[ty3,ty9,Xcf,Xcd,Zh,Xca,Xgq]
theorem Zm:Ck Tryz.prog XaX:=Ck.of (by kernel_rfl)
theorem K2:Setup Tryz.prog XaX:=⟨Zm,mixed⟩
def Cc(v:Int):Int→List ByteArray→List UInt8
 |_,[]=>[]
 |p,r::l=>(Aw v p r).data.toList++Cc v (p+1) l
def Dv(v:Int):Int→Int→List ByteArray→List Int
 |_,_,[]=>[]
 |p,k,r::l=>k::Dv v (p+1) (k+(Aw v p r).size) l
def L8(h:Bb)(l:List ByteArray):List UInt8:=(A9 h).data.toList++Cc h.version_ h.base_ l
def Br(h:Bb)(l:List ByteArray):ByteArray:=
 if Cd h=true∧l.length≤1000∧h.base_+l.length≤1000000000∧∀r∈l,r.size≤60 then
  tx (L8 h l)++Bl h (Dv h.version_ h.base_ (A9 h).size l) (L8 h l).length
 else tx []
theorem Lb{v:Int}:∀{l:List ByteArray} {p:Int} {r:ByteArray},Cc v p (l++[r])=Cc v p l++(Aw v (p+l.length) r).data.toList
 |[],p,r=>by simp[Cc]
 |x::l,p,r=>by
  rw[List.cons_append,Cc,Cc,Lb,List.append_assoc,List.length_cons,show p+1+(l.length:Int)=p+((l.length+1:Nat):Int)by omega]
theorem Ou{v:Int}:∀{l:List ByteArray} {p k:Int} {r:ByteArray},Dv v p k (l++[r])=Dv v p k l++[k+(Cc v p l).length]
 |[],p,k,r=>by simp[Cc,Dv]
 |x::l,p,k,r=>by
  have e:(Aw v p x).data.toList.length=(Aw v p x).size:=Array.length_toList
  rw[List.cons_append,Dv,Dv,Ou,Cc,List.cons_append,List.length_append,e,show k+((Aw v p x).size:Int)+((Cc v (p+1) l).length:Int)=k+(((Aw v p x).size+(Cc v (p+1) l).length:Nat):Int)by omega]
theorem H9{v:Int}:∀{l:List ByteArray} {p k:Int},(Dv v p k l).length=l.length
 |[],_,_=>rfl
 |x::l,p,k=>by rw[Dv,List.length_cons,List.length_cons,H9]
theorem He{v:Int}:∀{l:List ByteArray} {p:Int},(Cc v p l).length≤84*l.length
 |[],_=>by simp[Cc]
 |x::l,p=>by
  have:=@He v l (p+1)
  have h:=En (rfl:Aw v p x=_)
  have e:(Aw v p x).data.size=(Aw v p x).size:=rfl
  rw[Cc,List.length_append,Array.length_toList,List.length_cons]
  omega
theorem Nl{v:Int}:∀{l:List ByteArray} {p k:Int},0≤k→∀x∈Dv v p k l,0≤x∧x≤k+84*l.length
 |[],_,_,_,x,hx=>by simp[Dv]at hx
 |y::l,p,k,hk,x,hx=>by
  rw[Dv,List.mem_cons]at hx
  have h:=En (rfl:Aw v p y=_)
  rcases hx with rfl|hx
  ·rw[List.length_cons];omega
  ·have:=@Nl v l (p+1) (k+(Aw v p y).size) (by omega) x hx
   rw[List.length_cons];omega
theorem Qh{h:Bb}{l:List ByteArray}{o:ByteArray}(e:Br h l=o):o.size≤200000:=by
 rw[←e]
 unfold Br
 split
 ·rename_i hc
  have h1:=Pb h (Dv h.version_ h.base_ (A9 h).size l) (L8 h l).length
  have h2:=G2 (rfl:A9 h=_)
  have h3:=@He h.version_ l h.base_
  rw[ByteArray.size_append,A7]
  rw[H9]at h1
  have e:(A9 h).data.size=(A9 h).size:=rfl
  have h4:(L8 h l).length=(A9 h).size+(Cc h.version_ h.base_ l).length:=by unfold L8;rw[List.length_append,Array.length_toList];rfl
  omega
 ·simp[A7]
def Cl(s:ByteArray):Bool:=decide (60<s.size)
def Bk(l:List ByteArray):Int:=if l.findIdx Cl<l.length then(l.findIdx Cl:Int)else -1
def Bp(l:List ByteArray):Bool:=l.any Cl
theorem XgG{l:List ByteArray}{i:Int}(h0:0≤i)(hi:i.toNat<l.length)(h:Cl l[i.toNat]=true)(hb:∀(j:Nat) (hj:j<l.length),j<i.toNat→Cl l[j]=false):i=Bk l:=by
 have e:l.findIdx Cl=i.toNat:=(List.findIdx_eq hi).2 ⟨h,fun j hji=>hb j (by omega) hji⟩
 unfold Bk
 rw[e,if_pos hi]
 omega
theorem XeR{l:List ByteArray}(hb:∀(j:Nat) (hj:j<l.length),Cl l[j]=false): -1=Bk l:=by
 unfold Bk
 rw[if_neg]
 intro hlt
 have:=List.findIdx_getElem (w:=hlt)
 rw[hb _ hlt]at this
 cases this
theorem Xcj{l:List ByteArray}:Bp l=decide (0≤Bk l):=by
 unfold Bp Bk
 by_cases h:l.findIdx Cl<l.length
 ·rw[if_pos h]
  have:=List.findIdx_getElem (w:=h)
  rw[List.any_eq_true.2 ⟨_,List.getElem_mem h,this⟩]
  simp
 ·rw[if_neg h]
  have:l.any Cl=false:=by
   rw[List.any_eq_false]
   intro x hx hp
   exact h (List.findIdx_lt_length_of_exists ⟨x,hx,hp⟩)
  rw[this]
  rfl
theorem X6{l:List ByteArray}(h:Bp l=false):∀r∈l,r.size≤60:=by
 intro r hr
 have:=List.any_eq_false.1 h r hr
 simp[Cl]at this
 exact this
theorem Xdl{l:List ByteArray}(h:Bp l=true):¬∀r∈l,r.size≤60:=by
 intro hh
 obtain⟨r,hr,h'⟩:=List.any_eq_true.1 h
 have:=hh r hr
 simp[Cl]at h'
 omega
variable {o:ByteArray} {l:List ByteArray} {xl:List (List D)} {hver hstr hbas hlin:Int}
theorem Yb{s:ByteArray}{o:Bool}(hr:Cl s=o):Fn Tryz.prog 270 [S s] [] ⟨B o,[],[]⟩:=by
 refine Fn.go K2 Tryz.func270 fun P hP Q hQ=>?_
 conv=>cbv
 refine .go fun v1 aa=>?_
 conv=>cbv
 refine .gtr (fun h2=>?_) fun h2=>?_
 conv=>cbv
 have e:true=Cl s:=(by unfold Cl;rw[eq_comm,decide_eq_true_iff];omega)
 rw[hr]at e
 subst e
 exact hQ _ _ (.b rfl rfl)
 conv=>cbv
 have e:false=Cl s:=(by unfold Cl;rw[eq_comm,decide_eq_false_iff_not];omega)
 rw[hr]at e
 subst e
 exact hQ _ _ (.b rfl rfl)
theorem Kt{o:Int}(hl:l.map cS=xl)(hn:l.length<2^40)(hr:Bk l=o):Fn Tryz.prog 318 [.d (.row 1 xl),.clo 270 []] [] ⟨I o,[],[]⟩:=by
 refine Fn.go K2 Tryz.func318 fun P hP Q hQ=>?_
 conv=>cbv
 refine .go hl fun v1 ad=>?_
 conv=>cbv
 refine LoopW.lp (κ:=Int) K2 hP [] [0,1,7] (fun i8=>[(8,I i8)]) (fun i8=>[])
  (fun i8=>0≤i8∧i8≤l.length∧∀(j:Nat) (hj:j<l.length),j<i8.toNat→Cl l[j]=false)
  (fun i8=>(l.length - i8).toNat) (0) ⟨by omega,by omega,fun j _ h=>by simp at h⟩ ⟨rfl,trivial⟩ rfl ?_
 rintro i8 J ⟨h0,h1,hb⟩ hJ
 conv=>cbv
 refine .lss (fun h2=>?_) fun h2=>?_
 conv=>cbv
 refine .go i8.toNat hl fun ac e3 ab=>?_
 conv=>cbv
 generalize aa:Cl e3=r4
 refine .dd hP (Yb aa) ?_
 cases r4
 conv=>cbv
 refine .add fun v5 ae=>?_
 conv=>cbv
 exact .go [] (v5) (hJ _ ⟨by omega,by omega,fun j hj h=>if e:j=i8.toNat then by subst e;rw[←ab];exact aa else hb j hj (by omega)⟩ mlt)
 conv=>cbv
 have e:i8=Bk l:=(by exact XgG h0 (by omega) (ab▸aa) hb)
 rw[hr]at e
 subst e
 exact hQ _ _ (.i rfl rfl)
 conv=>cbv
 have e:(-1)=Bk l:=(by exact XeR fun j hj=>hb j hj (by omega))
 rw[hr]at e
 subst e
 exact hQ _ _ (.i rfl rfl)
theorem I1{o:Bool}(hl:l.map cS=xl)(hn:l.length<2^40)(hr:Bp l=o):Fn Tryz.prog 269 [.d (.row 1 xl),.clo 270 []] [] ⟨B o,[],[]⟩:=by
 refine Fn.go K2 Tryz.func269 fun P hP Q hQ=>?_
 conv=>cbv
 generalize aa:Bk l=r1
 refine .dd hP (Kt hl hn aa) ?_
 conv=>cbv
 refine .geq (fun h2=>?_) fun h2=>?_
 conv=>cbv
 have e:true=Bp l:=(by rw[Xcj,aa,eq_comm,decide_eq_true_iff];omega)
 rw[hr]at e
 subst e
 exact hQ _ _ (.b rfl rfl)
 conv=>cbv
 have e:false=Bp l:=(by rw[Xcj,aa,eq_comm,decide_eq_false_iff_not];omega)
 rw[hr]at e
 subst e
 exact hQ _ _ (.b rfl rfl)
theorem Uc{h:Bb}(hk:Cd h=true):0<(A9 h).size:=by
 unfold A9
 rw[if_pos hk,ByteArray.size_append]
 have:0<(Zu h).size:=by
  unfold Zu
  simp only[ByteArray.size_append,A7,List.length_cons]
  omega
 omega
theorem XbQ(hl:l.map cS=xl)(hn:l.length<2^40)(hr:Br (⟨hver,hstr,hbas,hlin⟩:Bb) l=o):Fn Tryz.prog 204 [.agg [I hver,I hstr,I hbas,I hlin],.d (.row 1 xl)] [] ⟨S o,[],[]⟩:=by
 refine Fn.go K2 Tryz.func204 fun P hP Q hQ=>?_
 conv=>cbv
 generalize ag:Cd (⟨hver,hstr,hbas,hlin⟩:Bb)=r1
 refine .dd hP (Tr ag) ?_
 cases r1
 conv=>cbv
 have e:(tx [])=Br (⟨hver,hstr,hbas,hlin⟩:Bb) l:=(by unfold Br;rw[if_neg];rintro⟨q,_⟩;rw[ag]at q;cases q)
 rw[hr]at e
 subst e
 exact hQ _ _ (.s rfl rfl)
 conv=>cbv
 refine .go hl fun v2 bk=>?_
 conv=>cbv
 refine .gtr (fun h3=>?_) fun h3=>?_
 conv=>cbv
 have e:(tx [])=Br (⟨hver,hstr,hbas,hlin⟩:Bb) l:=(by unfold Br;rw[if_neg];rintro⟨_,q,_⟩;omega)
 rw[hr]at e
 subst e
 exact hQ _ _ (.s rfl rfl)
 conv=>cbv
 refine .go hl fun v4 bl=>?_
 conv=>cbv
 have hh:=Fb ag
 refine .add fun v5 bm=>?_
 conv=>cbv
 generalize aq:Be v5=r6
 refine .dd hP (Ey aq) ?_
 cases r6
 simp only[Be,decide_eq_true_eq,decide_eq_false_iff_not]at aq
 conv=>cbv
 have e:(tx [])=Br (⟨hver,hstr,hbas,hlin⟩:Bb) l:=(by unfold Br;rw[if_neg];rintro⟨_,_,q,_⟩;simp only[]at q;omega)
 rw[hr]at e
 subst e
 exact hQ _ _ (.s rfl rfl)
 simp only[Be,decide_eq_true_eq,decide_eq_false_iff_not]at aq
 conv=>cbv
 generalize an:Bp l=r7
 refine .dd hP (I1 hl (by omega) an) ?_
 cases r7
 conv=>cbv
 generalize ah:A9 (⟨hver,hstr,hbas,hlin⟩:Bb)=r8
 have zr8:=G2 ah
 refine .dd hP (Sy ah) ?_
 conv=>cbv
 have zp:=Uc ag;rw[ah]at zp
 obtain⟨nb9,hnb9⟩:∃m,([]:List UInt8).length+r8.size=m:=⟨_,rfl⟩
 obtain⟨b9,ar⟩:∃m,[]++r8.data.toList=m:=⟨_,rfl⟩
 obtain⟨kb9,a1⟩:∃m,(r8.size:Int)=m:=⟨_,rfl⟩
 have lb9:nb9=b9.length:=by rw[←ar,List.length_append,Array.length_toList];exact hnb9.symm
 refine .bx [3,1] [1] hP (XaS rfl (by first|omega|(simp;omega)) hnb9 ar a1) rfl rfl rfl rfl ?_
 conv=>cbv
 refine .go hl fun bn bf=>?_
 conv=>cbv
 refine LoopW.lp (κ:=Int×(List UInt8)×Nat×(List (List D))×Nat) K2 hP [4,5] [2,5,35,36] (fun(aa,ab,ac,ae,af)=>[(6,.ref 7 0 af),(37,I aa)]) (fun(aa,ab,ac,ae,af)=>[(3,.box 219 [.ptr 3 0 0,.ref 6 0 ac]),(6,.buf 5 false ab),(7,.row 1 false ae)])
  (fun(aa,ab,ac,ae,af)=>∃(w7:List Int),ac=ab.length∧w7.map cI=ae∧af=w7.length∧0≤aa∧aa≤l.length∧ab=r8.data.toList++Cc hver hbas (l.take aa.toNat)∧w7=Dv hver hbas r8.size (l.take aa.toNat))
  (fun(aa,ab,ac,ae,af)=>(l.length - aa).toNat) (0,b9,nb9,[],0) ⟨[],lb9,rfl,rfl,by omega,by omega,by rw[←ar];simp[Cc],by simp[Dv]⟩ ⟨rfl,rfl,trivial⟩ rfl ?_
 rintro⟨aa,ab,ac,ae,af⟩ J ⟨w7,ao,au,bg,h0,h1,hz,hw⟩ hJ
 have q1:=@He hver (l.take aa.toNat) hbas
 have q2:(l.take aa.toNat).length=aa.toNat:=by rw[List.length_take];omega
 have q4:ab.length=r8.size+(Cc hver hbas (l.take aa.toNat)).length:=by rw[hz,List.length_append,Array.length_toList];rfl
 have q5:w7.length=aa.toNat:=by rw[hw,H9,q2]
 conv=>cbv
 refine .lss (fun h11=>?_) fun h11=>?_
 conv=>cbv
 refine .go aa.toNat hl fun ba aw ap=>?_
 conv=>cbv
 obtain⟨kb13,ad⟩:∃m,((ac:Nat):Int)=m:=⟨_,rfl⟩
 refine .bx [3,6] [6] hP (Xhu (bs:=ab) ad) rfl rfl rfl rfl ?_
 conv=>cbv
 refine .one kb13 au rfl fun a2 bb bc a6=>?_
 conv=>cbv
 have ze:=X6 an aw (ap▸List.getElem_mem _)
 refine .add fun a7 bh=>?_
 conv=>cbv
 generalize ai:Aw hver a7 aw=ax
 have zr16:=En ai
 refine .dd hP (Mq (by omega) ai) ?_
 conv=>cbv
 obtain⟨nb17,hnb17⟩:∃m,(ab:List UInt8).length+ax.size=m:=⟨_,rfl⟩
 obtain⟨ay,aj⟩:∃m,ab++ax.data.toList=m:=⟨_,rfl⟩
 obtain⟨kb17,az⟩:∃m,(ax.size:Int)=m:=⟨_,rfl⟩
 have lb17:nb17=ay.length:=by rw[←aj,List.length_append,Array.length_toList];exact hnb17.symm
 refine .bx [3,6] [6] hP (Xad ao (by first|omega|(simp;omega)) hnb17 aj az) rfl rfl rfl rfl ?_
 conv=>cbv
 refine .add fun ak bi=>?_
 conv=>cbv
 have t1:ak.toNat=aa.toNat+1:=by omega
 have t2:l.take ak.toNat=l.take aa.toNat++[aw]:=by rw[t1,ap,List.take_append_getElem]
 have t4:ay=r8.data.toList++Cc hver hbas (l.take ak.toNat):=by rw[←aj,hz,t2,Lb,q2,List.append_assoc,show hbas+((aa.toNat:Nat):Int)=a7 by omega,ai]
 have t5:w7++[kb13]=Dv hver hbas r8.size (l.take ak.toNat):=by rw[t2,Ou,←hw,show kb13=(r8.size:Int)+((Cc hver hbas (l.take aa.toNat)).length:Int)by omega]
 exact .go [10,9] (ak,ay,nb17,bb,a2) (hJ _ ⟨_,Jy,a6,Jy,by omega,by omega,t4,t5⟩ mlt)
 conv=>cbv
 obtain⟨bd,al⟩:∃m,tx ab=m:=⟨_,rfl⟩
 have zb12:bd.size=ab.length:=by rw[←al,A7]
 refine .bx [3,6] [6] hP (Xa5 (x:=.ptr 0 0 0) ao (by intro e;rw[e]at q4;simp at q4;omega) (by first|omega|(simp;omega)) al) rfl rfl rfl rfl ?_
 conv=>cbv
 obtain⟨kb13,ad⟩:∃m,((ac:Nat):Int)=m:=⟨_,rfl⟩
 refine .bx [3,6] [6] hP (Xhu (bs:=ab) ad) rfl rfl rfl rfl ?_
 conv=>cbv
 generalize am:Bl (⟨hver,hstr,hbas,hlin⟩:Bb) w7 kb13=bo
 have zr14:=Q9 am
 refine .lnt hP (Xby au (by omega) (fun x hx=>by rw[hw]at hx;have:=Nl (k:=(r8.size:Int)) (by omega) x hx;exact⟨by omega,by omega⟩) (by omega) am) (.agg (.d rfl (.d rfl (.d rfl (.d rfl .nil)))) (.ref rfl (by rw[←au,List.length_map];first|omega|(simp;omega)) (.d rfl .nil))) ?_
 conv=>cbv
 refine .go fun be a8 bj=>?_
 conv=>cbv
 have t0:l.take aa.toNat=l:=List.take_of_length_le (by omega)
 have e1:L8 ⟨hver,hstr,hbas,hlin⟩ l=ab:=by unfold L8;rw[ah,hz,t0]
 have e2:Dv hver hbas r8.size l=w7:=by rw[hw,t0]
 have e:be=Br (⟨hver,hstr,hbas,hlin⟩:Bb) l:=(by unfold Br;rw[if_pos ⟨ag,by omega,by simp only[];omega,X6 an⟩,e1,ah,a8,←al,←am,←e2];show _=tx ab++Bl _ (Dv hver hbas r8.size l) ab.length;congr 2;omega)
 rw[hr]at e
 subst e
 exact hQ _ _ (.s rfl rfl)
 conv=>cbv
 have e:(tx [])=Br (⟨hver,hstr,hbas,hlin⟩:Bb) l:=(by unfold Br;rw[if_neg];rintro⟨_,_,_,q⟩;exact Xdl an q)
 rw[hr]at e
 subst e
 exact hQ _ _ (.s rfl rfl)
theorem Xbj(hl:l.map cS=xl)(hn:l.length<2^40)(hr:Br (⟨hver,hstr,hbas,hlin⟩:Bb) l=o):Fn Tryz.prog 191 [.agg [I hver,I hstr,I hbas,I hlin],.d (.row 1 xl)] [] ⟨S o,[],[]⟩:=by
 refine Fn.go K2 Tryz.func191 fun P hP Q hQ=>?_
 conv=>cbv
 generalize aj:Cd (⟨hver,hstr,hbas,hlin⟩:Bb)=r1
 refine .dd hP (Vb aj) ?_
 cases r1
 conv=>cbv
 have e:(tx [])=Br (⟨hver,hstr,hbas,hlin⟩:Bb) l:=(by unfold Br;rw[if_neg];rintro⟨q,_⟩;rw[aj]at q;cases q)
 rw[hr]at e
 subst e
 exact hQ _ _ (.s rfl rfl)
 conv=>cbv
 refine .go hl fun v2 bt=>?_
 conv=>cbv
 refine .gtr (fun h3=>?_) fun h3=>?_
 conv=>cbv
 have e:(tx [])=Br (⟨hver,hstr,hbas,hlin⟩:Bb) l:=(by unfold Br;rw[if_neg];rintro⟨_,q,_⟩;omega)
 rw[hr]at e
 subst e
 exact hQ _ _ (.s rfl rfl)
 conv=>cbv
 refine .go hl fun v4 bu=>?_
 conv=>cbv
 have hh:=Fb aj
 refine .add fun v5 bv=>?_
 conv=>cbv
 refine .gtr (fun h6=>?_) fun h6=>?_
 conv=>cbv
 have e:(tx [])=Br (⟨hver,hstr,hbas,hlin⟩:Bb) l:=(by unfold Br;rw[if_neg];rintro⟨_,_,q,_⟩;simp only[]at q;omega)
 rw[hr]at e
 subst e
 exact hQ _ _ (.s rfl rfl)
 conv=>cbv
 generalize ak:A9 (⟨hver,hstr,hbas,hlin⟩:Bb)=r7
 have zr7:=G2 ak
 refine .dd hP (Tm ak) ?_
 conv=>cbv
 refine .go fun a2 z8 bi a6=>?_
 conv=>cbv
 refine LoopW.lp (κ:=Int×(List (List D))×Nat×(List (List D))×Nat) K2 hP [1,2] [1,2] (fun(i7,aa,ab,ac,ad)=>[(5,.ref 3 0 ab),(6,.ref 4 0 ad),(7,I i7)]) (fun(i7,aa,ab,ac,ad)=>[(3,.row 1 false aa),(4,.row 1 false ac)])
  (fun(i7,aa,ab,ac,ad)=>∃(w3:List UInt8) (w4:List Int),w3.map cB=aa∧ab=w3.length∧w4.map cI=ac∧ad=w4.length∧0≤i7∧i7≤l.length∧w3=r7.data.toList++Cc hver hbas (l.take i7.toNat)∧w4=Dv hver hbas r7.size (l.take i7.toNat)∧∀r∈l.take i7.toNat,r.size≤60)
  (fun(i7,aa,ab,ac,ad)=>(l.length - i7).toNat) (0,z8,a2,[],0) ⟨r7.data.toList,[],a6,(by first|omega|(simp;omega)),rfl,rfl,by omega,by omega,by simp[Cc],by simp[Dv],by simp⟩ ⟨rfl,rfl,rfl,trivial⟩ rfl ?_
 rintro⟨i7,aa,ab,ac,ad⟩ J ⟨w3,w4,aq,bj,al,bk,h0,h1,hz,hw,am⟩ hJ
 have q1:=@He hver (l.take i7.toNat) hbas
 have q2:(l.take i7.toNat).length=i7.toNat:=by rw[List.length_take];omega
 have q4:w3.length=r7.size+(Cc hver hbas (l.take i7.toNat)).length:=by rw[hz,List.length_append,Array.length_toList];rfl
 have q5:w4.length=i7.toNat:=by rw[hw,H9,q2]
 conv=>cbv
 refine .go hl fun v9 bw=>?_
 conv=>cbv
 refine .lss (fun h10=>?_) fun h10=>?_
 conv=>cbv
 refine .go i7.toNat hl fun a7 a8 af=>?_
 conv=>cbv
 refine .go fun bz bl=>?_
 conv=>cbv
 refine .gtr (fun h13=>?_) fun h13=>?_
 conv=>cbv
 have e:(tx [])=Br (⟨hver,hstr,hbas,hlin⟩:Bb) l:=(by unfold Br;rw[if_neg];rintro⟨_,_,_,q⟩;have:=q a8 (af▸List.getElem_mem _);omega)
 rw[hr]at e
 subst e
 exact hQ _ _ (.s rfl rfl)
 conv=>cbv
 refine .go fun an bm=>?_
 conv=>cbv
 refine .one an al rfl fun ar ba bb au=>?_
 conv=>cbv
 refine .add fun aw bn=>?_
 conv=>cbv
 refine .go i7.toNat hl fun bc ao ag=>?_
 conv=>cbv
 have b0:ao.size≤60:=by rw[ag,←af];omega
 generalize ah:Aw hver aw ao=bd
 have zr18:=En ah
 refine .dd hP (My (by omega) ah) ?_
 conv=>cbv
 refine .str aq fun ax be bf ay=>?_
 conv=>cbv
 refine .add fun ae bo=>?_
 conv=>cbv
 have t1:ae.toNat=i7.toNat+1:=by omega
 have t2:l.take ae.toNat=l.take i7.toNat++[ao]:=by rw[t1,ag,List.take_append_getElem]
 have t4:w3++bd.data.toList=r7.data.toList++Cc hver hbas (l.take ae.toNat):=by rw[hz,t2,Lb,q2,List.append_assoc,show hbas+((i7.toNat:Nat):Int)=aw by omega,ah]
 have t5:w4++[an]=Dv hver hbas r7.size (l.take ae.toNat):=by rw[t2,Ou,←hw,show an=(r7.size:Int)+((Cc hver hbas (l.take i7.toNat)).length:Int)by omega]
 have t6:∀r∈l.take ae.toNat,r.size≤60:=by rw[t2];intro r hr';rcases List.mem_append.1 hr' with h|h;exact am r h;rw[List.mem_singleton.1 h,ag,←af];omega
 exact .go [7,6] (ae,be,ax,ba,ar) (hJ _ ⟨_,_,ay,Jy,au,Jy,by omega,by omega,t4,t5,t6⟩ mlt)
 conv=>cbv
 refine .go fun bg bp=>?_
 conv=>cbv
 generalize ai:Bl (⟨hver,hstr,hbas,hlin⟩:Bb) w4 bg=b2
 have zr12:=Q9 ai
 refine .lnt hP (XbT al (by omega) (fun x hx=>by rw[hw]at hx;have:=Nl (k:=(r7.size:Int)) (by omega) x hx;exact⟨by omega,by omega⟩) (by omega) ai) (.agg (.d rfl (.d rfl (.d rfl (.d rfl .nil)))) (.ref rfl (by rw[←al,List.length_map];first|omega|(simp;omega)) (.d rfl .nil))) ?_
 conv=>cbv
 refine .str aq fun bq b3 ap az=>?_
 conv=>cbv
 refine .go az (hn:=by rw[ap,List.length_append,Array.length_toList];rfl) fun bh a1=>?_
 conv=>cbv
 have t0:l.take i7.toNat=l:=List.take_of_length_le (by omega)
 have e1:L8 ⟨hver,hstr,hbas,hlin⟩ l=w3:=by unfold L8;rw[ak,hz,t0]
 have e2:Dv hver hbas r7.size l=w4:=by rw[hw,t0]
 rw[t0]at am
 have e:bh=Br (⟨hver,hstr,hbas,hlin⟩:Bb) l:=(by unfold Br;rw[if_pos ⟨aj,by omega,by simp only[];omega,am⟩,e1,ak,a1,←Ce,Ms,←ai,←e2];show _=tx w3++Bl _ (Dv hver hbas r7.size l) w3.length;congr 2;omega)
 rw[hr]at e
 subst e
 exact hQ _ _ (.s rfl rfl)
end
section
open Go Go.Proofs
set_option maxRecDepth 20000
set_option maxHeartbeats 4000000
def Wy:List (Nat×TyRow):=[ty4,ty9,Xcf,Zh,Xe7]
theorem V5:Ck Tryz.prog Wy:=Ck.of (by kernel_rfl)
theorem Pv:Setup Tryz.prog Wy:=⟨V5,mixed⟩
def Cb(b:ByteArray):Bb×List ByteArray×Bool:=
 if(A0 b).ok_=true∧(A0 b).marked_=true∧Br (A0 b).head_ (A0 b).records_=b then((A0 b).head_,(A0 b).records_,true)else(⟨0,0,0,0⟩,[],false)
def Gg(b:ByteArray):Bool:=(Cb b).2.2
theorem W8:∀(k:Nat) {h:Bb} {b:ByteArray} {n:Nat} {p:Int},(b.size - p).toNat≤k→0≤p∧p≤b.size→
  (Ee h b n p).2.2.1=p+(Cc h.version_ (h.base_+n) (Ee h b n p).1).length∧(Ee h b n p).2.2.2=C5 h.version_ (h.base_+n+(Ee h b n p).1.length) b (Ee h b n p).2.2.1
 |k,h,b,n,p,hk,hp=>by
  cases hm:C5 h.version_ (h.base_+n) b p
  ·rcases hf:A1 h.version_ (h.base_+n) b p with⟨r,q,ok⟩
   cases ok
   ·rw[H4 hm hf]
    exact⟨by simp[Cc],by simp[hm]⟩
   ·have h2:=Ev hf
    rw[H7 hm hf]
    cases k with
    |zero=>omega
    |succ k=>
     obtain⟨i1,i2⟩:=W8 k (h:=h) (b:=b) (n:=n+1) (p:=q) (by omega) (by omega)
     have e:(Aw h.version_ (h.base_+n) r).data.toList.length=(Aw h.version_ (h.base_+n) r).size:=Array.length_toList
     have e2:h.base_+((n+1:Nat):Int)=h.base_+n+1:=by omega
     rw[e2]at i1 i2
     refine⟨?_,?_⟩
     ·show(Ee h b (n+1) q).2.2.1=_
      rw[i1,Cc,List.length_append,e]
      omega
     ·show(Ee h b (n+1) q).2.2.2=_
      rw[i2,List.length_cons]
      congr 1
      omega
  ·rw[H8 hm]
   exact⟨by simp[Cc],by simp[hm]⟩
theorem So:∀(k:Nat) {h:Bb} {b:ByteArray} {n:Nat} {p:Int},(b.size - p).toNat≤k→0≤p∧p≤b.size→p+(Ee h b n p).1.length≤b.size
 |k,h,b,n,p,hk,hp=>by
  cases hm:C5 h.version_ (h.base_+n) b p
  ·rcases hf:A1 h.version_ (h.base_+n) b p with⟨r,q,ok⟩
   cases ok
   ·rw[H4 hm hf]
    simpa using hp.2
   ·have h2:=Ev hf
    rw[H7 hm hf]
    cases k with
    |zero=>omega
    |succ k=>
     have ih:=So k (h:=h) (b:=b) (n:=n+1) (p:=q) (by omega) (by omega)
     rw[List.length_cons]
     omega
  ·rw[H8 hm]
   simpa using hp.2
theorem Ge{b:ByteArray}:(A0 b).records_.length≤b.size:=by
 unfold A0
 split
 ·rename_i h e
  have h2:=Eb e
  have:=So _ (h:=h) (b:=b) (n:=0) (p:=24) (Nat.le_refl _) (by omega)
  show(Ee h b 0 24).1.length≤_
  omega
 ·simp
theorem X9{v:Int}:∀{l:List ByteArray} {p k:Int},∀x∈Dv v p k l,k≤x
 |[],_,_,x,hx=>by simp[Dv]at hx
 |y::l,p,k,x,hx=>by
  rw[Dv,List.mem_cons]at hx
  rcases hx with rfl|hx
  ·omega
  ·have:=X9 x hx
   omega
theorem Wl{v:Int}:∀{l:List ByteArray} {p k:Int},(Dv v p k l).Pairwise (·≤·)
 |[],_,_=>by rw[Dv];exact .nil
 |y::l,p,k=>by
  rw[Dv,List.pairwise_cons]
  refine⟨fun x hx=>?_,Wl⟩
  have:=X9 x hx
  omega
theorem XfY{s n:Nat}{offs:List Int}(h:offs.Pairwise (·≤·))(hn:n≤offs.length):(Ye s offs n).Pairwise (fun a b=>a.count_≤b.count_∧a.at_≤b.at_):=by
 unfold Ye
 rw[List.pairwise_map]
 refine List.Pairwise.imp_of_mem ?_ (List.Pairwise.filter _ List.pairwise_lt_range)
 intro i j hi hj hij
 have aa:=List.mem_range.1 (List.mem_filter.1 hi).1
 have ab:=List.mem_range.1 (List.mem_filter.1 hj).1
 refine⟨by show(i:Int)≤(j:Int);omega,?_⟩
 show offs.getD i 0≤offs.getD j 0
 rw[←Ob (show i<offs.length by omega),←Ob (show j<offs.length by omega)]
 exact List.pairwise_iff_getElem.1 h i j _ _ hij
theorem Xy{a b:Int}(h:b≤a)(h2:a - b≤1000000000):Fc a b≠tx []:=by
 unfold Fc Bw
 rw[if_pos ⟨h,h2⟩,if_pos (by omega)]
 intro e
 have:=congrArg ByteArray.size e
 rw[A7,A7]at this
 exact P9 _ (List.eq_nil_of_length_eq_zero this)
theorem Vo:∀{l:List Fu} {q:Int×Int},l.Pairwise (fun a b=>a.count_≤b.count_∧a.at_≤b.at_)→(∀p∈l,(q.1≤p.count_∧p.count_≤1000000000)∧q.2≤p.at_∧p.at_≤1000000000)→0≤q.1→0≤q.2→∃t,Gm q l=some t
 |[],q,_,_,_,_=>⟨_,rfl⟩
 |p::l,q,hp,hb,h1,h2=>by
  rw[List.pairwise_cons]at hp
  have aa:=hb p List.mem_cons_self
  obtain⟨t,ht⟩:=Vo (q:=(p.count_,p.at_)) hp.2 (fun x hx=>by
   have a1:=hp.1 x hx
   have a2:=hb x (List.mem_cons_of_mem _ hx)
   exact⟨⟨a1.1,a2.1.2⟩,a1.2,a2.2.2⟩) (by show 0≤p.count_;omega) (by show 0≤p.at_;omega)
  simp only[Gm]
  rw[if_neg (by
   intro h
   rcases h with h|h
   ·exact Xy (by omega) (by omega) h
   ·exact Xy (by omega) (by omega) h),ht]
  exact⟨_,rfl⟩
theorem Xcx{s:Int}{offs:List Int}(h:offs.Pairwise (·≤·))(hb:∀x∈offs,0≤x∧x≤1000000000)(hl:offs.length≤1000):Bh (Bt s offs)≠tx []:=by
 have hlen:=@H1 s offs
 have key:∃t,Gm (0,0) (Bt s offs)=some t:=by
  unfold Bt
  split
  ·exact⟨_,rfl⟩
  ·refine Vo (XfY h (Nat.le_refl _)) ?_ (Int.le_refl _) (Int.le_refl _)
   intro p hp
   unfold Ye at hp
   obtain⟨i,hi,rfl⟩:=List.mem_map.1 hp
   have aa:=List.mem_range.1 (List.mem_filter.1 hi).1
   have:=hb _ (List.getElem_mem aa)
   rw[Ob aa]at this
   exact⟨⟨by show(0:Int)≤(i:Int);omega,by show(i:Int)≤_;omega⟩,this⟩
 obtain⟨t,ht⟩:=key
 unfold Bh
 rw[ht]
 show Bw _++t≠tx []
 intro e
 have e2:=congrArg ByteArray.size e
 unfold Bw at e2
 rw[if_pos (by omega),ByteArray.size_append,A7,A7]at e2
 have:=List.length_pos_iff.2 (P9 (Bt s offs).length)
 simp only[List.length_nil]at e2
 have e3:((Bt s offs).length:Int).toNat=(Bt s offs).length:=by omega
 rw[e3]at e2
 omega
theorem Ui{n:Int}(h:0≤n∧n<4294967296):Az n 4≠tx []:=by
 intro e
 have:=Jj n h
 rw[e,A7]at this
 simp at this
theorem Xbv{a b c d:Int}(ha:0≤a∧a<4294967296)(hb:0≤b∧b<4294967296)(hc:0≤c∧c<4294967296)(hd:0≤d∧d<4294967296):Bc a b c d≠tx []:=by
 unfold Bc
 simp only[Hj,if_neg (Ui ha),if_neg (Ui hb),if_neg (Ui hc),if_neg (Ui hd)]
 intro e
 have:=congrArg ByteArray.size e
 rw[ByteArray.size_append,A7,A7]at this
 simp at this
theorem Xcv{v n:Int}(hv:v=1∨v=2)(hn:0≤n∧n≤1000000000):Bv v n≠tx []:=by
 unfold Bv
 rw[if_pos ⟨hv,hn⟩]
 intro e
 have:=congrArg ByteArray.size e
 split at this
 ·simp[A7]at this
 ·unfold Ko at this
  rw[ByteArray.size_append,Jj _ (by omega),A7]at this
  simp at this
theorem Xga{h:Bb}{l:List ByteArray}(hk:Cd h=true)(hl:l.length≤1000)(hb:h.base_+l.length≤1000000000):∃y,Bl h (Dv h.version_ h.base_ (A9 h).size l) (L8 h l).length=Bv h.version_ (h.base_+l.length)++y:=by
 obtain⟨v,s,bs,lk⟩:=h
 have hh:=Fb hk
 have h2:=G2 (rfl:A9 ⟨v,s,bs,lk⟩=_)
 have h3:=@He v l bs
 have e:(A9 ⟨v,s,bs,lk⟩).data.size=(A9 ⟨v,s,bs,lk⟩).size:=rfl
 have h4:(L8 ⟨v,s,bs,lk⟩ l).length=(A9 ⟨v,s,bs,lk⟩).size+(Cc v bs l).length:=by unfold L8;rw[List.length_append,Array.length_toList];rfl
 unfold Bl
 simp only[]at*
 rw[H9,if_pos ⟨hk,Xcv (by omega) (by omega),Xcx Wl (fun x hx=>by have:=Nl (by omega) x hx;omega) (by rw[H9];exact hl),Xbv (by omega) (by omega) (by omega) (by omega)⟩]
 exact⟨_,by rw[ByteArray.append_assoc,ByteArray.append_assoc]⟩
theorem XcX{h:Bb}{b:ByteArray}(e:Bj b=(h,true)):(A9 h).size=24:=by
 have:=Eb e
 rw[this.2.1,N4 (by omega) (by omega)]
theorem XbZ{l:List UInt8}{m y:ByteArray}:(tx l++(m++y)).extract l.length (l.length+m.size)=m:=by
 rw[Wd,←Ms m,←Ms y,Ce,Ce,Xc7,Nat.add_sub_cancel_left,List.drop_left,A7,List.take_left]
theorem Yp{b:ByteArray}(h1:(A0 b).ok_=true)(h2:Br (A0 b).head_ (A0 b).records_=b):(A0 b).marked_=true:=by
 rcases e:Bj b with⟨h,ok⟩
 cases ok
 ·unfold A0 at h1
  rw[e]at h1
  cases h1
 have hr:=Eb e
 have hs:=XcX e
 obtain⟨a1,a2⟩:=W8 _ (h:=h) (b:=b) (n:=0) (p:=24) (Nat.le_refl _) (by omega)
 have hS:A0 b=⟨true,h,(Ee h b 0 24).1,(Ee h b 0 24).2.1,(Ee h b 0 24).2.2.1,(Ee h b 0 24).2.2.2⟩:=by unfold A0;rw[e]
 rw[hS]at h2⊢
 simp only[]at h2⊢
 generalize(Ee h b 0 24).1=l at*
 generalize(Ee h b 0 24).2.2.1=fin at*
 rw[a2]
 have hc:Cd h=true∧l.length≤1000∧h.base_+l.length≤1000000000∧∀r∈l,r.size≤60:=by
  by_cases hc:Cd h=true∧l.length≤1000∧h.base_+l.length≤1000000000∧∀r∈l,r.size≤60
  ·exact hc
  ·unfold Br at h2
   rw[if_neg hc]at h2
   rw[←h2,A7]at hr
   simp at hr
 obtain⟨y,hy⟩:=Xga hc.1 hc.2.1 hc.2.2.1
 have h3:b=tx (L8 h l)++(Bv h.version_ (h.base_+l.length)++y):=by
  rw[←hy]
  unfold Br at h2
  rw[if_pos hc]at h2
  exact h2.symm
 have e0:h.base_+((0:Nat):Int)=h.base_:=by omega
 rw[e0]at a1⊢
 have h4:((L8 h l).length:Int)=fin:=by
  rw[a1]
  unfold L8
  rw[List.length_append,Array.length_toList]
  have e:(A9 h).data.size=(A9 h).size:=rfl
  omega
 have hv:(h.version_=1∨h.version_=2)∧0≤h.base_∧h.base_≤1000000000:=by
  obtain⟨v,s,bs,lk⟩:=h
  have:=Fb hc.1
  simp only[]
  omega
 unfold C5 E6
 have hb:=congrArg ByteArray.size h3
 rw[ByteArray.size_append,ByteArray.size_append,A7]at hb
 simp only[Bool.and_eq_true,decide_eq_true_eq]
 refine⟨Xcv hv.1 (by omega),⟨by omega,by omega⟩,?_⟩
 rw[show fin.toNat=(L8 h l).length by omega]
 conv=>lhs;rw[h3]
 exact XbZ
variable {b:ByteArray} {oaver oastr oabas oalin:Int} {ob:List ByteArray} {xob:List (List D)} {oc o:Bool}
theorem Xq(hn:b.size<2^40)(hr:Cb b=(⟨oaver,oastr,oabas,oalin⟩,ob,oc))(hob:ob.map cS=xob):Fn Tryz.prog 215 [S b] [] ⟨.tup [.agg [I oaver,I oastr,I oabas,I oalin],.d (.row 1 xob),B oc],[],[]⟩:=by
 refine Fn.go Pv Tryz.func215 fun P hP Q hQ=>?_
 conv=>cbv
 rcases ag:A0 b with⟨al,⟨aa,ab,ac,ad⟩,af,aj,ao,ak⟩
 generalize ae:af.map cS=am
 generalize ah:aj.map cI=an
 refine .dd hP (Lw (by omega) ag ae ah) ?_
 conv=>cbv
 cases al
 conv=>cbv
 have e:((⟨0,0,0,0⟩:Bb),[],false)=Cb b:=(by unfold Cb;rw[ag];simp only[];rw[if_neg];rintro⟨q,_⟩;cases q)
 rw[hr]at e
 simp only[Prod.mk.injEq,Bb.mk.injEq]at e
 obtain⟨⟨rfl,rfl,rfl,rfl⟩,rfl,rfl⟩:=e
 refine hQ _ _ ?_
 exact .many (.inl rfl) rfl rfl (.agg (.d rfl rfl (.d rfl rfl (.d rfl rfl (.d rfl rfl (.nil))))) (.ref rfl rfl (by rw[←hob];rfl) (.d rfl rfl (.nil))))
 conv=>cbv
 cases ak
 conv=>cbv
 have e:((⟨0,0,0,0⟩:Bb),[],false)=Cb b:=(by unfold Cb;rw[ag];simp only[];rw[if_neg];rintro⟨_,q,_⟩;cases q)
 rw[hr]at e
 simp only[Prod.mk.injEq,Bb.mk.injEq]at e
 obtain⟨⟨rfl,rfl,rfl,rfl⟩,rfl,rfl⟩:=e
 refine hQ _ _ ?_
 exact .many (.inl rfl) rfl rfl (.agg (.d rfl rfl (.d rfl rfl (.d rfl rfl (.d rfl rfl (.nil))))) (.ref rfl rfl (by rw[←hob];rfl) (.d rfl rfl (.nil))))
 conv=>cbv
 have zl:=Ge (b:=b)
 rw[ag]at zl
 simp only[]at zl
 generalize ai:Br (⟨aa,ab,ac,ad⟩:Bb) af=r2
 have zr2:=Qh ai
 refine .dd hP (Xbj ae (by omega) ai) ?_
 conv=>cbv
 refine .neq (fun h3=>?_) fun h3=>?_
 conv=>cbv
 have e:((⟨0,0,0,0⟩:Bb),[],false)=Cb b:=(by unfold Cb;rw[ag];simp only[];rw[if_neg];rintro⟨_,_,q⟩;exact h3 (ai.symm.trans q))
 rw[hr]at e
 simp only[Prod.mk.injEq,Bb.mk.injEq]at e
 obtain⟨⟨rfl,rfl,rfl,rfl⟩,rfl,rfl⟩:=e
 refine hQ _ _ ?_
 exact .many (.inl rfl) rfl rfl (.agg (.d rfl rfl (.d rfl rfl (.d rfl rfl (.d rfl rfl (.nil))))) (.ref rfl rfl (by rw[←hob];rfl) (.d rfl rfl (.nil))))
 conv=>cbv
 have e:((⟨aa,ab,ac,ad⟩:Bb),af,true)=Cb b:=(by unfold Cb;rw[ag];simp only[];rw[if_pos ⟨trivial,trivial,ai.trans h3⟩])
 rw[hr]at e
 simp only[Prod.mk.injEq,Bb.mk.injEq]at e
 obtain⟨⟨rfl,rfl,rfl,rfl⟩,rfl,rfl⟩:=e
 refine hQ _ _ ?_
 exact .many (.inl rfl) rfl rfl (.agg (.d rfl rfl (.d rfl rfl (.d rfl rfl (.d rfl rfl (.nil))))) (.d rfl (XgU ae hob) (.d rfl rfl (.nil))))
theorem W2(hn:b.size<2^40)(hr:Cb b=(⟨oaver,oastr,oabas,oalin⟩,ob,oc))(hob:ob.map cS=xob):Fn Tryz.prog 284 [S b] [] ⟨.tup [.agg [I oaver,I oastr,I oabas,I oalin],.d (.row 1 xob),B oc],[],[]⟩:=by
 refine Fn.go Pv Tryz.func284 fun P hP Q hQ=>?_
 conv=>cbv
 rcases af:A0 b with⟨al,⟨aa,ab,ac,ad⟩,ag,aj,ao,ak⟩
 generalize ae:ag.map cS=am
 generalize ai:aj.map cI=an
 refine .dd hP (Ow (by omega) af ae ai) ?_
 conv=>cbv
 cases al
 conv=>cbv
 have e:((⟨0,0,0,0⟩:Bb),[],false)=Cb b:=(by unfold Cb;rw[af];simp only[];rw[if_neg];rintro⟨q,_⟩;cases q)
 rw[hr]at e
 simp only[Prod.mk.injEq,Bb.mk.injEq]at e
 obtain⟨⟨rfl,rfl,rfl,rfl⟩,rfl,rfl⟩:=e
 refine hQ _ _ ?_
 exact .many (.inl rfl) rfl rfl (.agg (.d rfl rfl (.d rfl rfl (.d rfl rfl (.d rfl rfl (.nil))))) (.ref rfl rfl (by rw[←hob];rfl) (.d rfl rfl (.nil))))
 conv=>cbv
 have zl:=Ge (b:=b)
 rw[af]at zl
 simp only[]at zl
 generalize ah:Br (⟨aa,ab,ac,ad⟩:Bb) ag=r2
 have zr2:=Qh ah
 refine .dd hP (XbQ ae (by omega) ah) ?_
 conv=>cbv
 refine .neq (fun h3=>?_) fun h3=>?_
 conv=>cbv
 have e:((⟨0,0,0,0⟩:Bb),[],false)=Cb b:=(by unfold Cb;rw[af];simp only[];rw[if_neg];rintro⟨_,_,q⟩;exact h3 (ah.symm.trans q))
 rw[hr]at e
 simp only[Prod.mk.injEq,Bb.mk.injEq]at e
 obtain⟨⟨rfl,rfl,rfl,rfl⟩,rfl,rfl⟩:=e
 refine hQ _ _ ?_
 exact .many (.inl rfl) rfl rfl (.agg (.d rfl rfl (.d rfl rfl (.d rfl rfl (.d rfl rfl (.nil))))) (.ref rfl rfl (by rw[←hob];rfl) (.d rfl rfl (.nil))))
 conv=>cbv
 have hm:ak=true:=by
  have:=Yp (b:=b) (by rw[af]) (by rw[af];exact ah.trans h3)
  rw[af]at this
  exact this
 have e:((⟨aa,ab,ac,ad⟩:Bb),ag,true)=Cb b:=(by unfold Cb;rw[af];simp only[];rw[if_pos ⟨trivial,hm,ah.trans h3⟩])
 rw[hr]at e
 simp only[Prod.mk.injEq,Bb.mk.injEq]at e
 obtain⟨⟨rfl,rfl,rfl,rfl⟩,rfl,rfl⟩:=e
 refine hQ _ _ ?_
 exact .many (.inl rfl) rfl rfl (.agg (.d rfl rfl (.d rfl rfl (.d rfl rfl (.d rfl rfl (.nil))))) (.d rfl (XgU ae hob) (.d rfl rfl (.nil))))
theorem Xbl(hn:b.size<2^40)(hr:Gg b=o):Fn Tryz.prog 221 [S b] [] ⟨B o,[],[]⟩:=by
 refine Fn.go Pv Tryz.func221 fun P hP Q hQ=>?_
 conv=>cbv
 rcases aa:Cb b with⟨⟨ac,ad,ae,af⟩,ag,ah⟩
 generalize ab:ag.map cS=ai
 refine .dd hP (W2 (by omega) aa ab) ?_
 conv=>cbv
 have e:ah=Gg b:=(by unfold Gg;rw[aa])
 rw[hr]at e
 subst e
 exact hQ _ _ (.b rfl rfl)
theorem XbR(hn:b.size<2^40)(hr:Gg b=o):Fn Tryz.prog 142 [S b] [] ⟨B o,[],[]⟩:=by
 refine Fn.go Pv Tryz.func142 fun P hP Q hQ=>?_
 conv=>cbv
 rcases aa:Cb b with⟨⟨ac,ad,ae,af⟩,ag,ah⟩
 generalize ab:ag.map cS=ai
 refine .dd hP (Xq (by omega) aa ab) ?_
 conv=>cbv
 have e:ah=Gg b:=(by unfold Gg;rw[aa])
 rw[hr]at e
 subst e
 exact hQ _ _ (.b rfl rfl)
end
section
open Go Go.Proofs
set_option maxRecDepth 20000
set_option maxHeartbeats 4000000
def Xae:List (Nat×TyRow):=[ty3,ty9,ty37,XgB,Xfx,XfC,XbA]
theorem Yr:Ck Tryz.prog Xae:=Ck.of (by kernel_rfl)
theorem Er:Setup Tryz.prog Xae:=⟨Yr,mixed⟩
def Xak{α:Type}(p:α→Bool)(l:List α):Int:=if l.findIdx p<l.length then(l.findIdx p:Int)else -1
section
variable {α:Type} {p:α→Bool} {l:List α} {i:Int}
theorem Oj(h0:0≤i)(hi:i.toNat<l.length)(h:p l[i.toNat]=true)(hb:∀(j:Nat) (hj:j<l.length),j<i.toNat→p l[j]=false):i=Xak p l:=by
 have e:l.findIdx p=i.toNat:=(List.findIdx_eq hi).2 ⟨h,fun j hji=>hb j (by omega) hji⟩
 unfold Xak
 rw[e,if_pos hi]
 omega
theorem Jm(hb:∀(j:Nat) (hj:j<l.length),p l[j]=false): -1=Xak p l:=by
 unfold Xak
 rw[if_neg]
 intro hlt
 have:=List.findIdx_getElem (w:=hlt)
 rw[hb _ hlt]at this
 cases this
theorem Xfy(e:Xak p l=i): -1≤i∧i<l.length:=by
 rw[←e]
 unfold Xak
 split<;>omega
theorem Xei(e:Xak p l=i)(h:0≤i):∃hi:i.toNat<l.length,p l[i.toNat]=true:=by
 unfold Xak at e
 split at e
 ·rename_i hlt
  have e2:i.toNat=l.findIdx p:=by omega
  refine⟨by omega,?_⟩
  have:=List.findIdx_getElem (w:=hlt)
  simpa only[e2]using this
 ·omega
theorem Xf7(e:Xak p l=i)(h:i<0):∀x∈l,p x=false:=by
 unfold Xak at e
 split at e
 ·omega
 ·rename_i hlt
  intro x hx
  cases hp:p x
  ·rfl
  ·exact absurd (List.findIdx_lt_length_of_exists ⟨x,hx,hp⟩) hlt
end
def Cn(e:A3)(name:ByteArray):Bool:=decide (e.name_=name)
def Dg(l:List A3)(name:ByteArray):Int:=Xak (fun e=>Cn e name) l
def Da(l:List A3)(name:ByteArray):Int:=Dg l name
def Ds(n:Cm)(id:Int):Bool:=decide (n.id_=id)
def Do(l:List Cm)(id:Int):Int:=Xak (fun n=>Ds n id) l
def Kc(d:As)(id:Int):Int:=Do d.nodes_ id
def Ki(d:As)(id:Int):Int:=Kc d id
def Fy(l:List A3)(name:ByteArray):Int:=if Da l name<0 then 0 else(l.getD (Da l name).toNat ⟨tx [],0⟩).id_
def Lj(l:List A3)(name:ByteArray):Bool:=decide (0≤Da l name)
def Df(d:As)(name:ByteArray):Int:=if Da d.entries_ name<0 then -1 else Kc d (Fy d.entries_ name)
def Cu(d:As)(name:ByteArray):Cm×Bool:=if Df d name<0 then(⟨0,tx [],0⟩,false)else(d.nodes_.getD (Df d name).toNat ⟨0,tx [],0⟩,true)
def Fa(d:As)(name:ByteArray):ByteArray×Bool:=((Cu d name).1.text_,(Cu d name).2)
def okD(d:As):Prop:=d.nodes_.length≤1000000000∧(∀n∈d.nodes_,n.text_.size≤1000000000)∧d.entries_.length≤1000000000∧(∀e∈d.entries_,e.name_.size≤1000000000)∧d.old_.length≤1000000000∧d.steps_.length≤1000000000
theorem gD{α:Type}{l:List α}{k:Nat}{d:α}(h:k<l.length):l[k]=l.getD k d:=by rw[List.getD_eq_getElem?_getD,List.getElem?_eq_getElem h];rfl
theorem Zj{l:List A3}{name:ByteArray}{i:Int}(e:Da l name=i): -1≤i∧i<l.length:=Xfy e
theorem Tj{d:As}{id i:Int}(e:Kc d id=i): -1≤i∧i<d.nodes_.length:=Xfy e
theorem On{d:As}{name:ByteArray}{i:Int}(e:Df d name=i): -1≤i∧i<d.nodes_.length:=by
 unfold Df at e
 split at e
 ·omega
 ·exact Tj e
theorem Yw{d:As}{name t:ByteArray}{ok:Bool}(hd:okD d)(e:Fa d name=(t,ok)):t.size≤1000000000:=by
 have e1:(Cu d name).1.text_=t:=congrArg Prod.fst e
 rw[←e1]
 unfold Cu
 split
 ·simp[A7]
 ·rename_i h
  have h2:=On (rfl:Df d name=_)
  have h3:(Df d name).toNat<d.nodes_.length:=by omega
  rw[←gD h3]
  exact hd.2.1 _ (List.getElem_mem h3)
theorem Mw{d:As}{name:ByteArray}:Cu d name=if Ki d (Fy d.entries_ name)<0∨Lj d.entries_ name=false then(⟨0,tx [],0⟩,false)else(d.nodes_.getD (Ki d (Fy d.entries_ name)).toNat ⟨0,tx [],0⟩,true):=by
 unfold Cu Df Ki Lj
 by_cases h:Da d.entries_ name<0
 ·rw[if_pos h,if_pos (by omega),if_pos (.inr (by simp;omega))]
 ·rw[if_neg h]
  by_cases h2:Kc d (Fy d.entries_ name)<0
  ·rw[if_pos h2,if_pos (.inl h2)]
  ·rw[if_neg h2,if_neg]
   rintro(h3|h3)
   ·exact h2 h3
   ·simp at h3;omega
variable {name oatex oa:ByteArray} {o id Ch Cf oaid oasur:Int} {l Bo Cg:List A3} {xl Dz D0 Dy D1:List (List D)} {B4:List Cm} {Ci:List ByteArray} {ob:Bool}
theorem Zc{enam:ByteArray}{eid:Int}{o:Bool}(hr:Cn (⟨enam,eid⟩:A3) name=o):Fn Tryz.prog 322 [.agg [S enam,I eid],.ptr 0 0 0] [.box 9 [S name]] ⟨B o,[],[]⟩:=by
 refine Fn.goR Er Tryz.func322 fun P hP Q hQ=>?_
 conv=>cbv
 refine .eql (fun h1=>?_) fun h1=>?_
 conv=>cbv
 have e:true=Cn (⟨enam,eid⟩:A3) name:=(by unfold Cn;symm;rw[decide_eq_true_eq];exact h1)
 rw[hr]at e
 subst e
 exact hQ _ _ (.of [] (.inl rfl) rfl rfl rfl rfl)
 conv=>cbv
 have e:false=Cn (⟨enam,eid⟩:A3) name:=(by unfold Cn;symm;rw[decide_eq_false_iff_not];exact h1)
 rw[hr]at e
 subst e
 exact hQ _ _ (.of [] (.inl rfl) rfl rfl rfl rfl)
theorem Rt{nid:Int}{ntex:ByteArray}{nsur:Int}{o:Bool}(hr:Ds (⟨nid,ntex,nsur⟩:Cm) id=o):Fn Tryz.prog 303 [.agg [I nid,S ntex,I nsur],.ptr 0 0 0] [.box 3 [I id]] ⟨B o,[],[]⟩:=by
 refine Fn.goR Er Tryz.func303 fun P hP Q hQ=>?_
 conv=>cbv
 refine .eql (fun h1=>?_) fun h1=>?_
 conv=>cbv
 have e:true=Ds (⟨nid,ntex,nsur⟩:Cm) id:=(by unfold Ds;symm;rw[decide_eq_true_eq];exact h1)
 rw[hr]at e
 subst e
 exact hQ _ _ (.of [] (.inl rfl) rfl rfl rfl rfl)
 conv=>cbv
 have e:false=Ds (⟨nid,ntex,nsur⟩:Cm) id:=(by unfold Ds;symm;rw[decide_eq_false_iff_not];exact h1)
 rw[hr]at e
 subst e
 exact hQ _ _ (.of [] (.inl rfl) rfl rfl rfl rfl)
theorem Lh(hl:l.map A2=xl)(hn:l.length<2^40)(hr:Dg l name=o):Fn Tryz.prog 301 [.d (.row 2 xl),.clo 322 [.ptr 0 0 0]] [.box 9 [S name]] ⟨I o,[],[]⟩:=by
 refine Fn.goR Er Tryz.func301 fun P hP Q hQ=>?_
 conv=>cbv
 refine .go hl fun v1 af=>?_
 conv=>cbv
 refine LoopW.lp (κ:=Int) Er hP [] [0,1,7] (fun i8=>[(8,I i8)]) (fun i8=>[])
  (fun i8=>0≤i8∧i8≤l.length∧∀(j:Nat) (hj:j<l.length),j<i8.toNat→Cn l[j] name=false)
  (fun i8=>(l.length - i8).toNat) (0) ⟨by omega,by omega,fun j _ h=>by simp at h⟩ ⟨rfl,trivial⟩ rfl ?_
 rintro i8 J ⟨h0,h1,hb⟩ hJ
 conv=>cbv
 refine .lss (fun h2=>?_) fun h2=>?_
 conv=>cbv
 refine .go i8.toNat hl fun ae ⟨aa,ac⟩ ad=>?_
 conv=>cbv
 generalize ab:Cn (⟨aa,ac⟩:A3) name=r4
 refine .bx [0] [] hP (Zc ab) rfl rfl rfl rfl ?_
 cases r4
 conv=>cbv
 refine .add fun v5 ag=>?_
 conv=>cbv
 exact .go [] (v5) (hJ _ ⟨by omega,by omega,fun j hj h=>if e:j=i8.toNat then by subst e;rw[←ad];exact ab else hb j hj (by omega)⟩ mlt)
 conv=>cbv
 have e:i8=Dg l name:=(by exact Oj (p:=fun x=>Cn x name) h0 (by omega) (ad▸ab) hb)
 rw[hr]at e
 subst e
 exact hQ _ _ (.of [] (.inl rfl) rfl rfl rfl rfl)
 conv=>cbv
 have e:(-1)=Dg l name:=(by exact Jm (p:=fun x=>Cn x name) fun j hj=>hb j hj (by omega))
 rw[hr]at e
 subst e
 exact hQ _ _ (.of [] (.inl rfl) rfl rfl rfl rfl)
theorem L9{l:List Cm}(hl:l.map Cs=xl)(hn:l.length<2^40)(hr:Do l id=o):Fn Tryz.prog 302 [.d (.row 3 xl),.clo 303 [.ptr 0 0 0]] [.box 3 [I id]] ⟨I o,[],[]⟩:=by
 refine Fn.goR Er Tryz.func302 fun P hP Q hQ=>?_
 conv=>cbv
 refine .go hl fun v1 ag=>?_
 conv=>cbv
 refine LoopW.lp (κ:=Int) Er hP [] [0,1,7] (fun i8=>[(8,I i8)]) (fun i8=>[])
  (fun i8=>0≤i8∧i8≤l.length∧∀(j:Nat) (hj:j<l.length),j<i8.toNat→Ds l[j] id=false)
  (fun i8=>(l.length - i8).toNat) (0) ⟨by omega,by omega,fun j _ h=>by simp at h⟩ ⟨rfl,trivial⟩ rfl ?_
 rintro i8 J ⟨h0,h1,hb⟩ hJ
 conv=>cbv
 refine .lss (fun h2=>?_) fun h2=>?_
 conv=>cbv
 refine .go i8.toNat hl fun af ⟨ad,aa,ab⟩ ae=>?_
 conv=>cbv
 generalize ac:Ds (⟨ad,aa,ab⟩:Cm) id=r4
 refine .bx [0] [] hP (Rt ac) rfl rfl rfl rfl ?_
 cases r4
 conv=>cbv
 refine .add fun v5 ah=>?_
 conv=>cbv
 exact .go [] (v5) (hJ _ ⟨by omega,by omega,fun j hj h=>if e:j=i8.toNat then by subst e;rw[←ae];exact ac else hb j hj (by omega)⟩ mlt)
 conv=>cbv
 have e:i8=Do l id:=(by exact Oj (p:=fun x=>Ds x id) h0 (by omega) (ae▸ac) hb)
 rw[hr]at e
 subst e
 exact hQ _ _ (.of [] (.inl rfl) rfl rfl rfl rfl)
 conv=>cbv
 have e:(-1)=Do l id:=(by exact Jm (p:=fun x=>Ds x id) fun j hj=>hb j hj (by omega))
 rw[hr]at e
 subst e
 exact hQ _ _ (.of [] (.inl rfl) rfl rfl rfl rfl)
theorem XdP(hl:l.map A2=xl)(hn:l.length<2^40)(hr:Da l name=o):Fn Tryz.prog 280 [.d (.row 2 xl),S name] [] ⟨I o,[],[]⟩:=by
 refine Fn.go Er Tryz.func280 fun P hP Q hQ=>?_
 conv=>cbv
 generalize aa:Dg l name=r1
 refine .bx [0] [] hP (Lh hl (by omega) aa) rfl rfl rfl rfl ?_
 conv=>cbv
 have e:r1=Da l name:=(by unfold Da;exact aa.symm)
 rw[hr]at e
 subst e
 exact hQ _ _ (.i rfl rfl)
theorem Ve(Du:B4.map Cs=Dz)(Dc:Bo.map A2=D0)(Ef:Cg.map A2=Dy)(Eh:Ci.map cS=D1)(hn:B4.length<2^40)(hr:Kc (⟨B4,Bo,Cg,Ci,Ch,Cf⟩:As) id=o):Fn Tryz.prog 249 [.agg [.d (.row 3 Dz),.d (.row 2 D0),.d (.row 2 Dy),.d (.row 1 D1),I Ch,I Cf],I id] [] ⟨I o,[],[]⟩:=by
 refine Fn.go Er Tryz.func249 fun P hP Q hQ=>?_
 conv=>cbv
 generalize aa:Do B4 id=r1
 refine .bx [1] [] hP (L9 Du (by omega) aa) rfl rfl rfl rfl ?_
 conv=>cbv
 have e:r1=Kc (⟨B4,Bo,Cg,Ci,Ch,Cf⟩:As) id:=(by unfold Kc;exact aa.symm)
 rw[hr]at e
 subst e
 exact hQ _ _ (.i rfl rfl)
theorem T5(Du:B4.map Cs=Dz)(Dc:Bo.map A2=D0)(Ef:Cg.map A2=Dy)(Eh:Ci.map cS=D1)(hd:okD ⟨B4,Bo,Cg,Ci,Ch,Cf⟩)(hr:Df (⟨B4,Bo,Cg,Ci,Ch,Cf⟩:As) name=o):Fn Tryz.prog 217 [.agg [.d (.row 3 Dz),.d (.row 2 D0),.d (.row 2 Dy),.d (.row 1 D1),I Ch,I Cf],S name] [] ⟨I o,[],[]⟩:=by
 refine Fn.go Er Tryz.func217 fun P hP Q hQ=>?_
 conv=>cbv
 obtain⟨d1,d2,d3,d4,d5,d6⟩:=hd
 simp only[]at d1 d2 d3 d4 d5 d6
 generalize aa:Da Bo name=r1
 refine .dd hP (XdP Dc (by omega) aa) ?_
 conv=>cbv
 have hb:=Zj aa
 refine .lss (fun h2=>?_) fun h2=>?_
 conv=>cbv
 have e:(-1)=Df (⟨B4,Bo,Cg,Ci,Ch,Cf⟩:As) name:=(by unfold Df;rw[if_pos (by simp only[];omega)])
 rw[hr]at e
 subst e
 exact hQ _ _ (.i rfl rfl)
 conv=>cbv
 refine .go r1.toNat Dc fun ab ⟨ae,ac⟩ af=>?_
 conv=>cbv
 generalize ad:Kc (⟨B4,Bo,Cg,Ci,Ch,Cf⟩:As) ac=r4
 refine .dd hP (Ve Du Dc Ef Eh (by omega) ad) ?_
 conv=>cbv
 have e:r4=Df (⟨B4,Bo,Cg,Ci,Ch,Cf⟩:As) name:=(by unfold Df Fy;simp only[];rw[aa,if_neg (by omega),if_neg (by omega),←gD ab,←af];exact ad.symm)
 rw[hr]at e
 subst e
 exact hQ _ _ (.i rfl rfl)
theorem Xba(Du:B4.map Cs=Dz)(Dc:Bo.map A2=D0)(Ef:Cg.map A2=Dy)(Eh:Ci.map cS=D1)(hd:okD ⟨B4,Bo,Cg,Ci,Ch,Cf⟩)(hr:Cu (⟨B4,Bo,Cg,Ci,Ch,Cf⟩:As) name=(⟨oaid,oatex,oasur⟩,ob)):Fn Tryz.prog 147 [.agg [.d (.row 3 Dz),.d (.row 2 D0),.d (.row 2 Dy),.d (.row 1 D1),I Ch,I Cf],S name] [] ⟨.tup [.agg [I oaid,S oatex,I oasur],B ob],[],[]⟩:=by
 refine Fn.go Er Tryz.func147 fun P hP Q hQ=>?_
 conv=>cbv
 generalize aa:Df (⟨B4,Bo,Cg,Ci,Ch,Cf⟩:As) name=r1
 refine .dd hP (T5 Du Dc Ef Eh hd aa) ?_
 conv=>cbv
 have hb:=On aa
 simp only[]at hb
 refine .lss (fun h2=>?_) fun h2=>?_
 conv=>cbv
 have e:((⟨0,tx [],0⟩:Cm),false)=Cu (⟨B4,Bo,Cg,Ci,Ch,Cf⟩:As) name:=(by unfold Cu;rw[if_pos (by rw[aa];omega)])
 rw[hr]at e
 simp only[Prod.mk.injEq,Cm.mk.injEq]at e
 obtain⟨⟨rfl,rfl,rfl⟩,rfl⟩:=e
 refine hQ _ _ ?_
 exact .many (.inl rfl) rfl rfl (.agg (.d rfl rfl (.d rfl rfl (.d rfl rfl (.nil)))) (.d rfl rfl (.nil)))
 conv=>cbv
 refine .go r1.toNat Du fun af ⟨ad,ab,ac⟩ ae=>?_
 conv=>cbv
 have e:((⟨ad,ab,ac⟩:Cm),true)=Cu (⟨B4,Bo,Cg,Ci,Ch,Cf⟩:As) name:=(by unfold Cu;rw[aa,if_neg (by omega)];simp only[];rw[←gD (show r1.toNat<B4.length by omega)];rw[←ae])
 rw[hr]at e
 simp only[Prod.mk.injEq,Cm.mk.injEq]at e
 obtain⟨⟨rfl,rfl,rfl⟩,rfl⟩:=e
 refine hQ _ _ ?_
 exact .many (.inl rfl) rfl rfl (.agg (.d rfl rfl (.d rfl rfl (.d rfl rfl (.nil)))) (.d rfl rfl (.nil)))
theorem Xb1(Du:B4.map Cs=Dz)(Dc:Bo.map A2=D0)(Ef:Cg.map A2=Dy)(Eh:Ci.map cS=D1)(hd:okD ⟨B4,Bo,Cg,Ci,Ch,Cf⟩)(hr:Fa (⟨B4,Bo,Cg,Ci,Ch,Cf⟩:As) name=(oa,ob)):Fn Tryz.prog 261 [.agg [.d (.row 3 Dz),.d (.row 2 D0),.d (.row 2 Dy),.d (.row 1 D1),I Ch,I Cf],S name] [] ⟨.tup [S oa,B ob],[],[]⟩:=by
 refine Fn.go Er Tryz.func261 fun P hP Q hQ=>?_
 conv=>cbv
 rcases ab:Cu (⟨B4,Bo,Cg,Ci,Ch,Cf⟩:As) name with⟨⟨ad,aa,ac⟩,ae⟩
 refine .dd hP (Xba Du Dc Ef Eh hd ab) ?_
 conv=>cbv
 have e:(aa,ae)=Fa (⟨B4,Bo,Cg,Ci,Ch,Cf⟩:As) name:=(by unfold Fa;rw[ab])
 rw[hr]at e
 simp only[Prod.mk.injEq]at e
 obtain⟨rfl,rfl⟩:=e
 refine hQ _ _ ?_
 exact .many (.inl rfl) rfl rfl (.d rfl rfl (.d rfl rfl (.nil)))
theorem Xcy(hl:l.map A2=xl)(hn:l.length<2^40)(hr:Fy l name=o):Fn Tryz.prog 213 [.d (.row 2 xl),S name] [] ⟨I o,[],[]⟩:=by
 refine Fn.go Er Tryz.func213 fun P hP Q hQ=>?_
 conv=>cbv
 refine LoopW.lp (κ:=Int) Er hP [] [0,1] (fun i5=>[(5,I i5)]) (fun i5=>[])
  (fun i5=>0≤i5∧i5≤l.length∧∀(j:Nat) (hj:j<l.length),j<i5.toNat→Cn l[j] name=false)
  (fun i5=>(l.length - i5).toNat) (0) ⟨by omega,by omega,fun j _ h=>by simp at h⟩ ⟨rfl,trivial⟩ rfl ?_
 rintro i5 J ⟨h0,h1,hb⟩ hJ
 conv=>cbv
 refine .go hl fun v1 ai=>?_
 conv=>cbv
 refine .lss (fun h2=>?_) fun h2=>?_
 conv=>cbv
 refine .go i5.toNat hl fun ag ⟨ad,ah⟩ aa=>?_
 conv=>cbv
 refine .eql (fun h4=>?_) fun h4=>?_
 conv=>cbv
 refine .go i5.toNat hl fun ab ⟨ae,ac⟩ af=>?_
 conv=>cbv
 have e:ac=Fy l name:=(by have e2:Da l name=i5:=(Oj (p:=fun x=>Cn x name) (l:=l) h0 (by omega) (by rw[←aa];unfold Cn;rw[decide_eq_true_eq];exact h4) hb).symm;unfold Fy;rw[e2,if_neg (by omega),←gD ab,←af])
 rw[hr]at e
 subst e
 exact hQ _ _ (.i rfl rfl)
 conv=>cbv
 refine .add fun v5 aj=>?_
 conv=>cbv
 exact .go [] (v5) (hJ _ ⟨by omega,by omega,fun j hj h=>if e:j=i5.toNat then by subst e;rw[←aa];unfold Cn;rw[decide_eq_false_iff_not];exact h4 else hb j hj (by omega)⟩ mlt)
 conv=>cbv
 have e:0=Fy l name:=(by have e2:Da l name= -1:=(Jm (p:=fun x=>Cn x name) fun j hj=>hb j hj (by omega)).symm;unfold Fy;rw[e2,if_pos (by omega)])
 rw[hr]at e
 subst e
 exact hQ _ _ (.i rfl rfl)
theorem XcT(Du:B4.map Cs=Dz)(Dc:Bo.map A2=D0)(Ef:Cg.map A2=Dy)(Eh:Ci.map cS=D1)(hn:B4.length<2^40)(hr:Ki (⟨B4,Bo,Cg,Ci,Ch,Cf⟩:As) id=o):Fn Tryz.prog 212 [.agg [.d (.row 3 Dz),.d (.row 2 D0),.d (.row 2 Dy),.d (.row 1 D1),I Ch,I Cf],I id] [] ⟨I o,[],[]⟩:=by
 refine Fn.go Er Tryz.func212 fun P hP Q hQ=>?_
 conv=>cbv
 refine LoopW.lp (κ:=Int) Er hP [] [1,2] (fun i5=>[(5,I i5)]) (fun i5=>[])
  (fun i5=>0≤i5∧i5≤B4.length∧∀(j:Nat) (hj:j<B4.length),j<i5.toNat→Ds B4[j] id=false)
  (fun i5=>(B4.length - i5).toNat) (0) ⟨by omega,by omega,fun j _ h=>by simp at h⟩ ⟨rfl,trivial⟩ rfl ?_
 rintro i5 J ⟨h0,h1,hb⟩ hJ
 conv=>cbv
 refine .go Du fun v1 af=>?_
 conv=>cbv
 refine .lss (fun h2=>?_) fun h2=>?_
 conv=>cbv
 refine .go i5.toNat Du fun ad ⟨ae,ab,ac⟩ aa=>?_
 conv=>cbv
 refine .eql (fun h4=>?_) fun h4=>?_
 conv=>cbv
 have e:i5=Ki (⟨B4,Bo,Cg,Ci,Ch,Cf⟩:As) id:=(by exact Oj (p:=fun x=>Ds x id) (l:=B4) h0 (by omega) (by rw[←aa];unfold Ds;rw[decide_eq_true_eq];exact h4) hb)
 rw[hr]at e
 subst e
 exact hQ _ _ (.i rfl rfl)
 conv=>cbv
 refine .add fun v5 ag=>?_
 conv=>cbv
 exact .go [] (v5) (hJ _ ⟨by omega,by omega,fun j hj h=>if e:j=i5.toNat then by subst e;rw[←aa];unfold Ds;rw[decide_eq_false_iff_not];exact h4 else hb j hj (by omega)⟩ mlt)
 conv=>cbv
 have e:(-1)=Ki (⟨B4,Bo,Cg,Ci,Ch,Cf⟩:As) id:=(by exact Jm (p:=fun x=>Ds x id) (l:=B4) fun j hj=>hb j hj (by omega))
 rw[hr]at e
 subst e
 exact hQ _ _ (.i rfl rfl)
theorem Xe6{o:Bool}(hl:l.map A2=xl)(hn:l.length<2^40)(hr:Lj l name=o):Fn Tryz.prog 214 [.d (.row 2 xl),S name] [] ⟨B o,[],[]⟩:=by
 refine Fn.go Er Tryz.func214 fun P hP Q hQ=>?_
 conv=>cbv
 refine LoopW.lp (κ:=Int) Er hP [] [0,1] (fun i5=>[(5,I i5)]) (fun i5=>[])
  (fun i5=>0≤i5∧i5≤l.length∧∀(j:Nat) (hj:j<l.length),j<i5.toNat→Cn l[j] name=false)
  (fun i5=>(l.length - i5).toNat) (0) ⟨by omega,by omega,fun j _ h=>by simp at h⟩ ⟨rfl,trivial⟩ rfl ?_
 rintro i5 J ⟨h0,h1,hb⟩ hJ
 conv=>cbv
 refine .go hl fun v1 ae=>?_
 conv=>cbv
 refine .lss (fun h2=>?_) fun h2=>?_
 conv=>cbv
 refine .go i5.toNat hl fun ac ⟨ab,ad⟩ aa=>?_
 conv=>cbv
 refine .eql (fun h4=>?_) fun h4=>?_
 conv=>cbv
 have e:true=Lj l name:=(by have e2:Da l name=i5:=(Oj (p:=fun x=>Cn x name) (l:=l) h0 (by omega) (by rw[←aa];unfold Cn;rw[decide_eq_true_eq];exact h4) hb).symm;unfold Lj;rw[e2];symm;rw[decide_eq_true_eq];omega)
 rw[hr]at e
 subst e
 exact hQ _ _ (.b rfl rfl)
 conv=>cbv
 refine .add fun v5 af=>?_
 conv=>cbv
 exact .go [] (v5) (hJ _ ⟨by omega,by omega,fun j hj h=>if e:j=i5.toNat then by subst e;rw[←aa];unfold Cn;rw[decide_eq_false_iff_not];exact h4 else hb j hj (by omega)⟩ mlt)
 conv=>cbv
 have e:false=Lj l name:=(by have e2:Da l name= -1:=(Jm (p:=fun x=>Cn x name) fun j hj=>hb j hj (by omega)).symm;unfold Lj;rw[e2];rfl)
 rw[hr]at e
 subst e
 exact hQ _ _ (.b rfl rfl)
theorem XaF(Du:B4.map Cs=Dz)(Dc:Bo.map A2=D0)(Ef:Cg.map A2=Dy)(Eh:Ci.map cS=D1)(hd:okD ⟨B4,Bo,Cg,Ci,Ch,Cf⟩)(hr:Cu (⟨B4,Bo,Cg,Ci,Ch,Cf⟩:As) name=(⟨oaid,oatex,oasur⟩,ob)):Fn Tryz.prog 135 [.agg [.d (.row 3 Dz),.d (.row 2 D0),.d (.row 2 Dy),.d (.row 1 D1),I Ch,I Cf],S name] [] ⟨.tup [.agg [I oaid,S oatex,I oasur],B ob],[],[]⟩:=by
 refine Fn.go Er Tryz.func135 fun P hP Q hQ=>?_
 conv=>cbv
 obtain⟨d1,d2,d3,d4,d5,d6⟩:=hd
 simp only[]at d1 d2 d3 d4 d5 d6
 generalize ab:Fy Bo name=r1
 refine .dd hP (Xcy Dc (by omega) ab) ?_
 conv=>cbv
 generalize aa:Ki (⟨B4,Bo,Cg,Ci,Ch,Cf⟩:As) r1=r2
 refine .dd hP (XcT Du Dc Ef Eh (by omega) aa) ?_
 conv=>cbv
 have hb:=Tj (d:=⟨B4,Bo,Cg,Ci,Ch,Cf⟩) (id:=r1) aa
 simp only[]at hb
 refine .lss (fun h3=>?_) fun h3=>?_
 conv=>cbv
 have e:((⟨0,tx [],0⟩:Cm),false)=Cu (⟨B4,Bo,Cg,Ci,Ch,Cf⟩:As) name:=(by rw[Mw,if_pos (.inl (by simp only[];rw[ab,aa];omega))])
 rw[hr]at e
 simp only[Prod.mk.injEq,Cm.mk.injEq]at e
 obtain⟨⟨rfl,rfl,rfl⟩,rfl⟩:=e
 refine hQ _ _ ?_
 exact .many (.inl rfl) rfl rfl (.agg (.d rfl rfl (.d rfl rfl (.d rfl rfl (.nil)))) (.d rfl rfl (.nil)))
 conv=>cbv
 generalize ac:Lj Bo name=r4
 refine .dd hP (Xe6 Dc (by omega) ac) ?_
 cases r4
 conv=>cbv
 have e:((⟨0,tx [],0⟩:Cm),false)=Cu (⟨B4,Bo,Cg,Ci,Ch,Cf⟩:As) name:=(by rw[Mw,if_pos (.inr ac)])
 rw[hr]at e
 simp only[Prod.mk.injEq,Cm.mk.injEq]at e
 obtain⟨⟨rfl,rfl,rfl⟩,rfl⟩:=e
 refine hQ _ _ ?_
 exact .many (.inl rfl) rfl rfl (.agg (.d rfl rfl (.d rfl rfl (.d rfl rfl (.nil)))) (.d rfl rfl (.nil)))
 conv=>cbv
 refine .go r2.toNat Du fun ah ⟨af,ad,ae⟩ ag=>?_
 conv=>cbv
 have e:((⟨af,ad,ae⟩:Cm),true)=Cu (⟨B4,Bo,Cg,Ci,Ch,Cf⟩:As) name:=(by rw[Mw,if_neg (by simp only[];rw[ab,aa,ac];rintro(h|h);omega;cases h)];simp only[];rw[ab,aa,←gD (show r2.toNat<B4.length by omega),←ag])
 rw[hr]at e
 simp only[Prod.mk.injEq,Cm.mk.injEq]at e
 obtain⟨⟨rfl,rfl,rfl⟩,rfl⟩:=e
 refine hQ _ _ ?_
 exact .many (.inl rfl) rfl rfl (.agg (.d rfl rfl (.d rfl rfl (.d rfl rfl (.nil)))) (.d rfl rfl (.nil)))
theorem Xbx(Du:B4.map Cs=Dz)(Dc:Bo.map A2=D0)(Ef:Cg.map A2=Dy)(Eh:Ci.map cS=D1)(hd:okD ⟨B4,Bo,Cg,Ci,Ch,Cf⟩)(hr:Fa (⟨B4,Bo,Cg,Ci,Ch,Cf⟩:As) name=(oa,ob)):Fn Tryz.prog 186 [.agg [.d (.row 3 Dz),.d (.row 2 D0),.d (.row 2 Dy),.d (.row 1 D1),I Ch,I Cf],S name] [] ⟨.tup [S oa,B ob],[],[]⟩:=by
 refine Fn.go Er Tryz.func186 fun P hP Q hQ=>?_
 conv=>cbv
 rcases ab:Cu (⟨B4,Bo,Cg,Ci,Ch,Cf⟩:As) name with⟨⟨ad,aa,ac⟩,ae⟩
 refine .dd hP (XaF Du Dc Ef Eh hd ab) ?_
 conv=>cbv
 have e:(aa,ae)=Fa (⟨B4,Bo,Cg,Ci,Ch,Cf⟩:As) name:=(by unfold Fa;rw[ab])
 rw[hr]at e
 simp only[Prod.mk.injEq]at e
 obtain⟨rfl,rfl⟩:=e
 refine hQ _ _ ?_
 exact .many (.inl rfl) rfl rfl (.d rfl rfl (.d rfl rfl (.nil)))
end
section
open Go.Proofs
open Go.Shelf
def Tryz.lays172_ren:Go.Shelf.Ren:=⟨fun|172=>305|244=>331|245=>324|247=>354|279=>346|280=>347|281=>348|282=>349|287=>323|316=>362|171=>216|205=>363|321=>344|322=>345|243=>279|246=>314|283=>335|284=>336|285=>337|286=>338|129=>357|317=>356|318=>358|319=>359|320=>360|337=>367|338=>368|n=>n,fun|9=>9|3=>3|75=>221|76=>222|4=>4|5=>5|167=>273|37=>135|0=>0|85=>279|2=>2|168=>275|53=>228|175=>229|46=>196|210=>287|127=>249|145=>294|143=>292|21=>21|171=>262|173=>265|212=>282|51=>260|20=>20|213=>283|232=>295|233=>296|80=>225|n=>n,fun|15=>2|16=>3|17=>1|18=>4|19=>5|n=>n⟩
def Tryz.laysM246_ren:Go.Shelf.Ren:=⟨fun|246=>314|283=>335|284=>336|285=>337|286=>338|129=>357|317=>356|318=>358|319=>359|320=>360|337=>367|338=>368|n=>n,fun|2=>2|3=>3|9=>9|4=>4|171=>262|0=>0|53=>228|37=>135|5=>5|173=>265|212=>282|51=>260|20=>20|213=>283|46=>196|232=>295|233=>296|n=>n,fun|17=>1|18=>4|19=>5|n=>n⟩
def Tryz.laysM243_ren:Go.Shelf.Ren:=⟨fun|243=>279|246=>314|283=>335|284=>336|285=>337|286=>338|129=>357|317=>356|318=>358|319=>359|320=>360|337=>367|338=>368|n=>n,fun|3=>3|9=>9|2=>2|4=>4|171=>262|0=>0|53=>228|37=>135|5=>5|173=>265|212=>282|51=>260|20=>20|213=>283|46=>196|232=>295|233=>296|n=>n,fun|17=>1|18=>4|19=>5|n=>n⟩
def Tryz.laysM171_ren:Go.Shelf.Ren:=⟨fun|171=>216|243=>279|246=>314|283=>335|284=>336|285=>337|286=>338|129=>357|317=>356|318=>358|319=>359|320=>360|337=>367|338=>368|n=>n,fun|3=>3|9=>9|2=>2|4=>4|171=>262|0=>0|53=>228|37=>135|5=>5|173=>265|212=>282|51=>260|20=>20|213=>283|46=>196|232=>295|233=>296|n=>n,fun|17=>1|18=>4|19=>5|n=>n⟩
theorem Tryz.laysM171:Go.Proofs.LaysM.n171 Tryz.prog Tryz.laysM171_ren:={
 mixed:=by kernel_rfl
 f129:=Tryz.func357.trans (congrArg some (by kernel_rfl))
 f171:=Tryz.func216.trans (congrArg some (by kernel_rfl))
 f243:=Tryz.func279.trans (congrArg some (by kernel_rfl))
 f246:=Tryz.func314.trans (congrArg some (by kernel_rfl))
 f283:=Tryz.func335.trans (congrArg some (by kernel_rfl))
 f284:=Tryz.func336.trans (congrArg some (by kernel_rfl))
 f285:=Tryz.func337.trans (congrArg some (by kernel_rfl))
 f286:=Tryz.func338.trans (congrArg some (by kernel_rfl))
 f317:=Tryz.func356.trans (congrArg some (by kernel_rfl))
 f318:=Tryz.func358.trans (congrArg some (by kernel_rfl))
 f319:=Tryz.func359.trans (congrArg some (by kernel_rfl))
 f320:=Tryz.func360.trans (congrArg some (by kernel_rfl))
 f337:=Tryz.func367.trans (congrArg some (by kernel_rfl))
 f338:=Tryz.func368.trans (congrArg some (by kernel_rfl))
 t0:=Tryz.underlying0
 a0:=Tryz.isAgg0
 z0:=Tryz.sizeOf0
 v0:=Tryz.zeroValue0
 t2:=Tryz.underlying2
 a2:=Tryz.isAgg2
 z2:=Tryz.sizeOf2
 v2:=Tryz.zeroValue2
 t3:=Tryz.underlying3
 a3:=Tryz.isAgg3
 z3:=Tryz.sizeOf3
 v3:=Tryz.zeroValue3
 t4:=Tryz.underlying4
 a4:=Tryz.isAgg4
 z4:=Tryz.sizeOf4
 v4:=Tryz.zeroValue4
 t5:=Tryz.underlying5
 a5:=Tryz.isAgg5
 z5:=Tryz.sizeOf5
 v5:=Tryz.zeroValue5
 t9:=Tryz.underlying9
 a9:=Tryz.isAgg9
 z9:=Tryz.sizeOf9
 v9:=Tryz.zeroValue9
 t20:=Tryz.underlying20
 a20:=Tryz.isAgg20
 z20:=Tryz.sizeOf20
 v20:=Tryz.zeroValue20
 t37:=Tryz.underlying135
 a37:=Tryz.isAgg135
 z37:=Tryz.sizeOf135
 v37:=Tryz.zeroValue135
 t46:=Tryz.underlying196
 a46:=Tryz.isAgg196
 z46:=Tryz.sizeOf196
 v46:=Tryz.zeroValue196
 t51:=Tryz.underlying260
 a51:=Tryz.isAgg260
 z51:=Tryz.sizeOf260
 v51:=Tryz.zeroValue260
 t53:=Tryz.underlying228
 a53:=Tryz.isAgg228
 z53:=Tryz.sizeOf228
 v53:=Tryz.zeroValue228
 t171:=Tryz.underlying262
 a171:=Tryz.isAgg262
 z171:=Tryz.sizeOf262
 v171:=Tryz.zeroValue262
 t173:=Tryz.underlying265
 a173:=Tryz.isAgg265
 z173:=Tryz.sizeOf265
 v173:=Tryz.zeroValue265
 t212:=Tryz.underlying282
 a212:=Tryz.isAgg282
 z212:=Tryz.sizeOf282
 v212:=Tryz.zeroValue282
 t213:=Tryz.underlying283
 a213:=Tryz.isAgg283
 z213:=Tryz.sizeOf283
 t232:=Tryz.underlying295
 a232:=Tryz.isAgg295
 z232:=Tryz.sizeOf295
 v232:=Tryz.zeroValue295
 t233:=Tryz.underlying296
 a233:=Tryz.isAgg296
 z233:=Tryz.sizeOf296
 v233:=Tryz.zeroValue296
 g17:=by kernel_rfl
 g18:=by kernel_rfl
 g19:=by kernel_rfl
 i0:=by kernel_rfl
 i2:=by kernel_rfl
 i3:=by kernel_rfl
 i4:=by kernel_rfl
 i5:=by kernel_rfl
 i9:=by kernel_rfl
 i20:=by kernel_rfl
 i37:=by kernel_rfl
 i46:=by kernel_rfl
 i51:=by kernel_rfl
 i53:=by kernel_rfl
 i171:=by kernel_rfl
 i173:=by kernel_rfl
 i212:=by kernel_rfl
 i232:=by kernel_rfl
 i233:=by kernel_rfl
 m17:=by kernel_rfl
 m18:=by kernel_rfl
 m19:=by kernel_rfl}
open Go.RowKit Go.Sort Go.Lib in
theorem Tryz.strconv_Itoa(n:Int)(h0: -9223372036854775808≤n)(h1:n≤9223372036854775807)(w:World)(htab:Lib.TabIs Tryz.prog w "internal/strconv.uint64pow10" .u64 Lib.pow10Tab):
  Calls Tryz.prog 216 #[.int .i64 n] w fun e w'=>e= .returned (.string ⟨(Lib.itoa n).toArray⟩)∧∃k os,w'=grow (w.drewN k) os:=Any.strconv_Itoa Tryz.laysM171 n h0 h1 w htab
def Tryz.laysC245_ren:Go.Shelf.Ren:=⟨fun|245=>324|279=>346|280=>347|281=>348|282=>349|316=>362|171=>216|205=>363|243=>279|246=>314|283=>335|284=>336|285=>337|286=>338|129=>357|317=>356|318=>358|319=>359|320=>360|337=>367|338=>368|n=>n,fun|9=>9|3=>3|75=>221|167=>273|4=>4|168=>275|210=>287|37=>135|0=>0|127=>249|145=>294|143=>292|2=>2|171=>262|53=>228|5=>5|173=>265|212=>282|51=>260|20=>20|213=>283|46=>196|232=>295|233=>296|80=>225|n=>n,fun|15=>2|16=>3|17=>1|18=>4|19=>5|n=>n⟩
theorem Tryz.laysC245:Go.Proofs.LaysC.n245 Tryz.prog Tryz.laysC245_ren:={
 mixed:=by kernel_rfl
 f129:=Tryz.func357.trans (congrArg some (by kernel_rfl))
 f171:=Tryz.func216.trans (congrArg some (by kernel_rfl))
 f205:=Tryz.func363.trans (congrArg some (by kernel_rfl))
 f243:=Tryz.func279.trans (congrArg some (by kernel_rfl))
 f245:=Tryz.func324.trans (congrArg some (by kernel_rfl))
 f246:=Tryz.func314.trans (congrArg some (by kernel_rfl))
 f279:=Tryz.func346.trans (congrArg some (by kernel_rfl))
 f280:=Tryz.func347.trans (congrArg some (by kernel_rfl))
 f281:=Tryz.func348.trans (congrArg some (by kernel_rfl))
 f282:=Tryz.func349.trans (congrArg some (by kernel_rfl))
 f283:=Tryz.func335.trans (congrArg some (by kernel_rfl))
 f284:=Tryz.func336.trans (congrArg some (by kernel_rfl))
 f285:=Tryz.func337.trans (congrArg some (by kernel_rfl))
 f286:=Tryz.func338.trans (congrArg some (by kernel_rfl))
 f316:=Tryz.func362.trans (congrArg some (by kernel_rfl))
 f317:=Tryz.func356.trans (congrArg some (by kernel_rfl))
 f318:=Tryz.func358.trans (congrArg some (by kernel_rfl))
 f319:=Tryz.func359.trans (congrArg some (by kernel_rfl))
 f320:=Tryz.func360.trans (congrArg some (by kernel_rfl))
 f337:=Tryz.func367.trans (congrArg some (by kernel_rfl))
 f338:=Tryz.func368.trans (congrArg some (by kernel_rfl))
 t0:=Tryz.underlying0
 a0:=Tryz.isAgg0
 z0:=Tryz.sizeOf0
 v0:=Tryz.zeroValue0
 t2:=Tryz.underlying2
 a2:=Tryz.isAgg2
 z2:=Tryz.sizeOf2
 v2:=Tryz.zeroValue2
 t3:=Tryz.underlying3
 a3:=Tryz.isAgg3
 z3:=Tryz.sizeOf3
 v3:=Tryz.zeroValue3
 t4:=Tryz.underlying4
 a4:=Tryz.isAgg4
 z4:=Tryz.sizeOf4
 v4:=Tryz.zeroValue4
 t5:=Tryz.underlying5
 a5:=Tryz.isAgg5
 z5:=Tryz.sizeOf5
 v5:=Tryz.zeroValue5
 t9:=Tryz.underlying9
 a9:=Tryz.isAgg9
 z9:=Tryz.sizeOf9
 v9:=Tryz.zeroValue9
 t20:=Tryz.underlying20
 a20:=Tryz.isAgg20
 z20:=Tryz.sizeOf20
 v20:=Tryz.zeroValue20
 t37:=Tryz.underlying135
 a37:=Tryz.isAgg135
 z37:=Tryz.sizeOf135
 v37:=Tryz.zeroValue135
 t46:=Tryz.underlying196
 a46:=Tryz.isAgg196
 z46:=Tryz.sizeOf196
 v46:=Tryz.zeroValue196
 t51:=Tryz.underlying260
 a51:=Tryz.isAgg260
 z51:=Tryz.sizeOf260
 v51:=Tryz.zeroValue260
 t53:=Tryz.underlying228
 a53:=Tryz.isAgg228
 z53:=Tryz.sizeOf228
 v53:=Tryz.zeroValue228
 t75:=Tryz.underlying221
 a75:=Tryz.isAgg221
 z75:=Tryz.sizeOf221
 v75:=Tryz.zeroValue221
 t127:=Tryz.underlying249
 a127:=Tryz.isAgg249
 z127:=Tryz.sizeOf249
 v127:=Tryz.zeroValue249
 t143:=Tryz.underlying292
 a143:=Tryz.isAgg292
 z143:=Tryz.sizeOf292
 v143:=Tryz.zeroValue292
 t145:=Tryz.underlying294
 a145:=Tryz.isAgg294
 z145:=Tryz.sizeOf294
 v145:=Tryz.zeroValue294
 t167:=Tryz.underlying273
 a167:=Tryz.isAgg273
 z167:=Tryz.sizeOf273
 v167:=Tryz.zeroValue273
 t168:=Tryz.underlying275
 a168:=Tryz.isAgg275
 z168:=Tryz.sizeOf275
 v168:=Tryz.zeroValue275
 t171:=Tryz.underlying262
 a171:=Tryz.isAgg262
 z171:=Tryz.sizeOf262
 v171:=Tryz.zeroValue262
 t173:=Tryz.underlying265
 a173:=Tryz.isAgg265
 z173:=Tryz.sizeOf265
 v173:=Tryz.zeroValue265
 t210:=Tryz.underlying287
 a210:=Tryz.isAgg287
 z210:=Tryz.sizeOf287
 v210:=Tryz.zeroValue287
 t212:=Tryz.underlying282
 a212:=Tryz.isAgg282
 z212:=Tryz.sizeOf282
 v212:=Tryz.zeroValue282
 t213:=Tryz.underlying283
 a213:=Tryz.isAgg283
 z213:=Tryz.sizeOf283
 t232:=Tryz.underlying295
 a232:=Tryz.isAgg295
 z232:=Tryz.sizeOf295
 v232:=Tryz.zeroValue295
 t233:=Tryz.underlying296
 a233:=Tryz.isAgg296
 z233:=Tryz.sizeOf296
 v233:=Tryz.zeroValue296
 g15:=by kernel_rfl
 g16:=by kernel_rfl
 g17:=by kernel_rfl
 g18:=by kernel_rfl
 g19:=by kernel_rfl
 t80:=Tryz.underlying225
 a80:=Tryz.isAgg225
 z80:=Tryz.sizeOf225
 v80:=Tryz.zeroValue225
 i0:=by kernel_rfl
 i2:=by kernel_rfl
 i3:=by kernel_rfl
 i4:=by kernel_rfl
 i5:=by kernel_rfl
 i9:=by kernel_rfl
 i20:=by kernel_rfl
 i37:=by kernel_rfl
 i46:=by kernel_rfl
 i51:=by kernel_rfl
 i53:=by kernel_rfl
 i75:=by kernel_rfl
 i80:=by kernel_rfl
 i127:=by kernel_rfl
 i143:=by kernel_rfl
 i145:=by kernel_rfl
 i167:=by kernel_rfl
 i168:=by kernel_rfl
 i171:=by kernel_rfl
 i173:=by kernel_rfl
 i210:=by kernel_rfl
 i212:=by kernel_rfl
 i232:=by kernel_rfl
 i233:=by kernel_rfl
 m15:=by kernel_rfl
 m16:=by kernel_rfl
 m17:=by kernel_rfl
 m18:=by kernel_rfl
 m19:=by kernel_rfl
 c0:=by kernel_rfl
 c2:=by kernel_rfl
 c3:=by kernel_rfl
 c4:=by kernel_rfl
 c5:=by kernel_rfl
 c9:=by kernel_rfl
 c20:=by kernel_rfl
 c37:=by kernel_rfl
 c46:=by kernel_rfl
 c51:=by kernel_rfl
 c53:=by kernel_rfl
 c75:=by kernel_rfl
 c80:=by kernel_rfl
 c127:=by kernel_rfl
 c143:=by kernel_rfl
 c145:=by kernel_rfl
 c167:=by kernel_rfl
 c168:=by kernel_rfl
 c171:=by kernel_rfl
 c173:=by kernel_rfl
 c210:=by kernel_rfl
 c212:=by kernel_rfl
 c213:=by kernel_rfl
 c232:=by kernel_rfl
 c233:=by kernel_rfl}
open Go.RowKit in
theorem Tryz.strconv_toError_syntax(fn s:ByteArray)(base bits:Int)(ev:Value)(w:World)(hlim:s.size≤281474976710656)(hv:w.cell? ⟨2,0,none⟩=some ev)(hev:ev= .nilIface∨∃te pe,ev= .iface te pe):
  Calls Tryz.prog 324 #[.string fn,.string s,.int .i64 base,.int .i64 bits,.iface 273 (.int .i64 2)] w fun e w'=>∃N,e= .returned (.iface 275 (.pointer (some ⟨N,0,none⟩)))∧w.heap.size≤N∧w'.heap[N]? =some (.cells #[.string fn,.string s,ev] 287 (0,0))∧Below w.heap.size w w':=Any.strconv_toError_syntax Tryz.laysC245 fn s base bits ev w hlim hv hev
def Tryz.lays287_ren:Go.Shelf.Ren:=⟨fun|287=>323|321=>344|322=>345|n=>n,fun|9=>9|3=>3|53=>228|75=>221|4=>4|167=>273|5=>5|46=>196|37=>135|0=>0|21=>21|80=>225|n=>n,fun|n=>n⟩
theorem Tryz.lays287:Go.Proofs.Lays.n287 Tryz.prog Tryz.lays287_ren:={
 mixed:=by kernel_rfl
 f287:=Tryz.func323.trans (congrArg some (by kernel_rfl))
 f321:=Tryz.func344.trans (congrArg some (by kernel_rfl))
 f322:=Tryz.func345.trans (congrArg some (by kernel_rfl))
 t0:=Tryz.underlying0
 a0:=Tryz.isAgg0
 z0:=Tryz.sizeOf0
 v0:=Tryz.zeroValue0
 t3:=Tryz.underlying3
 a3:=Tryz.isAgg3
 z3:=Tryz.sizeOf3
 v3:=Tryz.zeroValue3
 t4:=Tryz.underlying4
 a4:=Tryz.isAgg4
 z4:=Tryz.sizeOf4
 v4:=Tryz.zeroValue4
 t5:=Tryz.underlying5
 a5:=Tryz.isAgg5
 z5:=Tryz.sizeOf5
 v5:=Tryz.zeroValue5
 t9:=Tryz.underlying9
 a9:=Tryz.isAgg9
 z9:=Tryz.sizeOf9
 v9:=Tryz.zeroValue9
 t21:=Tryz.underlying21
 a21:=Tryz.isAgg21
 z21:=Tryz.sizeOf21
 v21:=Tryz.zeroValue21
 t37:=Tryz.underlying135
 a37:=Tryz.isAgg135
 z37:=Tryz.sizeOf135
 v37:=Tryz.zeroValue135
 t46:=Tryz.underlying196
 a46:=Tryz.isAgg196
 z46:=Tryz.sizeOf196
 v46:=Tryz.zeroValue196
 t53:=Tryz.underlying228
 a53:=Tryz.isAgg228
 z53:=Tryz.sizeOf228
 v53:=Tryz.zeroValue228
 t75:=Tryz.underlying221
 a75:=Tryz.isAgg221
 z75:=Tryz.sizeOf221
 v75:=Tryz.zeroValue221
 t167:=Tryz.underlying273
 a167:=Tryz.isAgg273
 z167:=Tryz.sizeOf273
 v167:=Tryz.zeroValue273}
def Tryz.lays105_ren:Go.Shelf.Ren:=⟨fun|105=>267|212=>315|99=>316|165=>317|166=>271|170=>272|169=>273|263=>339|264=>340|206=>341|240=>319|241=>342|276=>343|277=>361|n=>n,fun|9=>9|3=>3|4=>4|20=>20|0=>0|46=>196|109=>244|5=>5|72=>219|76=>222|51=>260|146=>267|53=>228|148=>269|70=>217|37=>135|75=>221|127=>249|164=>271|80=>225|n=>n,fun|n=>n⟩
theorem Tryz.lays105:Go.Proofs.Lays.n105 Tryz.prog Tryz.lays105_ren:={
 mixed:=by kernel_rfl
 f99:=Tryz.func316.trans (congrArg some (by kernel_rfl))
 f105:=Tryz.func267.trans (congrArg some (by kernel_rfl))
 f165:=Tryz.func317.trans (congrArg some (by kernel_rfl))
 f166:=Tryz.func271.trans (congrArg some (by kernel_rfl))
 f169:=Tryz.func273.trans (congrArg some (by kernel_rfl))
 f170:=Tryz.func272.trans (congrArg some (by kernel_rfl))
 f206:=Tryz.func341.trans (congrArg some (by kernel_rfl))
 f212:=Tryz.func315.trans (congrArg some (by kernel_rfl))
 f240:=Tryz.func319.trans (congrArg some (by kernel_rfl))
 f241:=Tryz.func342.trans (congrArg some (by kernel_rfl))
 f263:=Tryz.func339.trans (congrArg some (by kernel_rfl))
 f264:=Tryz.func340.trans (congrArg some (by kernel_rfl))
 f276:=Tryz.func343.trans (congrArg some (by kernel_rfl))
 f277:=Tryz.func361.trans (congrArg some (by kernel_rfl))
 t0:=Tryz.underlying0
 a0:=Tryz.isAgg0
 z0:=Tryz.sizeOf0
 v0:=Tryz.zeroValue0
 t3:=Tryz.underlying3
 a3:=Tryz.isAgg3
 z3:=Tryz.sizeOf3
 v3:=Tryz.zeroValue3
 t4:=Tryz.underlying4
 a4:=Tryz.isAgg4
 z4:=Tryz.sizeOf4
 v4:=Tryz.zeroValue4
 t5:=Tryz.underlying5
 a5:=Tryz.isAgg5
 z5:=Tryz.sizeOf5
 v5:=Tryz.zeroValue5
 t9:=Tryz.underlying9
 a9:=Tryz.isAgg9
 z9:=Tryz.sizeOf9
 v9:=Tryz.zeroValue9
 t20:=Tryz.underlying20
 a20:=Tryz.isAgg20
 z20:=Tryz.sizeOf20
 v20:=Tryz.zeroValue20
 t37:=Tryz.underlying135
 a37:=Tryz.isAgg135
 z37:=Tryz.sizeOf135
 v37:=Tryz.zeroValue135
 t46:=Tryz.underlying196
 a46:=Tryz.isAgg196
 z46:=Tryz.sizeOf196
 v46:=Tryz.zeroValue196
 t51:=Tryz.underlying260
 a51:=Tryz.isAgg260
 z51:=Tryz.sizeOf260
 v51:=Tryz.zeroValue260
 t53:=Tryz.underlying228
 a53:=Tryz.isAgg228
 z53:=Tryz.sizeOf228
 v53:=Tryz.zeroValue228
 t70:=Tryz.underlying217
 a70:=Tryz.isAgg217
 z70:=Tryz.sizeOf217
 v70:=Tryz.zeroValue217
 t72:=Tryz.underlying219
 a72:=Tryz.isAgg219
 z72:=Tryz.sizeOf219
 v72:=Tryz.zeroValue219
 t75:=Tryz.underlying221
 a75:=Tryz.isAgg221
 z75:=Tryz.sizeOf221
 v75:=Tryz.zeroValue221
 t76:=Tryz.underlying222
 a76:=Tryz.isAgg222
 z76:=Tryz.sizeOf222
 v76:=Tryz.zeroValue222
 t109:=Tryz.underlying244
 a109:=Tryz.isAgg244
 z109:=Tryz.sizeOf244
 v109:=Tryz.zeroValue244
 t127:=Tryz.underlying249
 a127:=Tryz.isAgg249
 z127:=Tryz.sizeOf249
 v127:=Tryz.zeroValue249
 t146:=Tryz.underlying267
 a146:=Tryz.isAgg267
 z146:=Tryz.sizeOf267
 v146:=Tryz.zeroValue267
 t148:=Tryz.underlying269
 a148:=Tryz.isAgg269
 z148:=Tryz.sizeOf269
 v148:=Tryz.zeroValue269
 t164:=Tryz.underlying271
 a164:=Tryz.isAgg271
 z164:=Tryz.sizeOf271
 v164:=Tryz.zeroValue271}
theorem Tryz.Builder_Extra_105:Builder.Extra Tryz.prog Tryz.lays105_ren:={
 sizeBuilder:=by kernel_rfl
 liesBuilder:=by kernel_rfl
 t5:=Tryz.underlying5
 a5:=Tryz.isAgg5
 z5:=Tryz.sizeOf5
 v5:=Tryz.zeroValue5
 infoByte:=by kernel_rfl
 cellsByte:=by kernel_rfl
 sizeByte:=by kernel_rfl
 neB5:=by decide}
open Go.RowKit Go.Lib in
theorem Tryz.strings_Repeat(s:ByteArray)(c:Nat)(w:World)(hc:c≤9223372036854775807)(hlen:s.size*c≤140737488355328):
  Calls Tryz.prog 267 #[.string s,.int .i64 c] w fun e w'=>e= .returned (.string ⟨(Lib.repeatL s.data.toList c).toArray⟩)∧Below w.heap.size w w':=Any.strings_Repeat Tryz.lays105 Tryz.Builder_Extra_105 s c w hc hlen
end
end Go.Proofs.YtgdmjbcllgmepaaGreatDoor.Ab
