/- What functions of the program come to, for all arguments in the given bounds. -/
import Derived.Test.YtjbmpmmffjgedaaGreatDoorCch01a
import Derived.Shelf.Strings.Builder1
import Derived.Shelf.Strings.Builder2
import Derived.Shelf.Strings.BuilderF
import Derived.Shelf.Strings.BuilderK
import Derived.Shelf.Strings.Builder2Cap
import Derived.Shelf.Strconv.Atoi
import Derived.Shelf.Strconv.Itoa0
import Derived.Shelf.Strconv.Itoa1
import Derived.Shelf.LaysM
import Derived.Shelf.Strconv.Itoa2
import Derived.Shelf.Strconv.Itoa3
import Derived.Shelf.Strconv.Itoa4
import Derived.Shelf.Strconv.AtoiErrFast
import Derived.Shelf.Strconv.ParseIntEmpty
import Derived.Shelf.Strconv.AtoiFail
import Derived.Shelf.Strconv.Clone
import Derived.Shelf.Strconv.SyntaxError
import Derived.Shelf.LaysC
import Derived.Shelf.Strconv.ToError
import Derived.Shelf.Strconv.Lower
import Derived.Shelf.Strconv.ParseUint10
import Derived.Shelf.Strconv.ParseUint10Empty
import Derived.Shelf.Strconv.ParseUint10Any
import Derived.Shelf.Strconv.ParseInt10
import Derived.Shelf.Strconv.AtoiLong
import Derived.Shelf.Strconv.AtoiInnerAll
import Derived.Shelf.Strconv.RangeError
import Derived.Shelf.Strconv.ToErrorRange
import Derived.Shelf.Strconv.AtoiAll
import Derived.Shelf.Strings.Search1
import Derived.Shelf.Strings.Search2
import Derived.Shelf.Strings.Cut
import Derived.Shelf.Strings.Shaped
import Derived.Shelf.Strings.Prefix
import Derived.Shelf.Bits.Mul64
import Derived.Shelf.Strings.Repeat
import Derived.Shelf.Strings.BuilderCap
import Derived.Ground.Names2Prog
import Derived.Shelf.Slices.Clone
import Derived.Test.YtjbmpmmffjgedaaGreatDoorProg
set_option linter.unusedVariables false
set_option linter.unusedSimpArgs false
namespace Go.Proofs.YtjbmpmmffjgedaaGreatDoor.Ab
section
open Go Go.Proofs
set_option maxRecDepth 20000
set_option maxHeartbeats 4000000
def XdN:List (Nat×TyRow):=[ty3,ty4,ty9,Zy,Xb7,XfJ,Xku]
theorem XcM:B3 Tryz.prog XdN:=B3.of (by kernel_rfl)
theorem Pd:Setup Tryz.prog XdN:=⟨XcM,mixed⟩
def Ek(h:Az)(b:ByteArray)(n:Nat)(p:Int):List ByteArray×List Int×Int×Bool:=
 if Db h.version_ (h.base_+n) b p=true then([],[],p,true)
 else match Ap h.version_ (h.base_+n) b p with
  |(r,q,true)=>if p<q∧q≤b.size then(r::(Ek h b (n+1) q).1,p::(Ek h b (n+1) q).2.1,(Ek h b (n+1) q).2.2)else([],[],p,false)
  |_=>([],[],p,false)
termination_by (b.size - p).toNat
decreasing_by all_goals omega
def Ac(b:ByteArray):K0:=match A0 b with
 |(h,true)=>⟨true,h,(Ek h b 0 24).1,(Ek h b 0 24).2.1,(Ek h b 0 24).2.2.1,(Ek h b 0 24).2.2.2⟩
 |_=>⟨false,⟨0,0,0,0⟩,[],[],0,false⟩
theorem Wj{v n:Int}{r t:ByteArray}(e:Ai v n r=t)(h:t≠tx []):5≤t.size:=by
 unfold Ai at e
 split at e
 ·rename_i hh
  have h4:=M6 _ (T2 r)
  have h1:1≤(if v=2 then Mt n r.size else B7 r.size).size:=by
   split
   ·unfold Mt
    rw[ByteArray.size_append,M6 _ (by omega)]
    omega
   ·unfold B7
    rw[if_pos (by omega),A4]
    exact List.length_pos_iff.2 (Vk _)
  rw[←e,ByteArray.size_append,ByteArray.size_append]
  omega
 ·exact absurd e.symm h
theorem E7{v n p q:Int}{b r:ByteArray}(h:Ap v n b p=(r,q,true)):0≤p∧p+5≤q∧q≤b.size∧r.size≤60∧(v=1∨v=2)∧0≤n∧n≤1000000000∧q=p+(Ai v n r).size∧F6 b p (Ai v n r)=true:=by
 have key:∀{x s:Int},0≤s→0≤x→Hv v n b p x s=(r,q,true)→0≤p∧p+5≤q∧q≤b.size∧r.size≤60∧(v=1∨v=2)∧0≤n∧n≤1000000000∧q=p+(Ai v n r).size∧F6 b p (Ai v n r)=true:=by
  intro x s hs hx e
  unfold Hv at e
  split at e
  ·rename_i hh
   obtain⟨h1,h2,h3,h4⟩:=hh
   simp only[Prod.mk.injEq,and_true]at e
   obtain⟨rfl,rfl⟩:=e
   have h5:=Wj rfl h3
   have h6:=of_decide_eq_true h4
   have h7:(b.extract s.toNat (s+x).toNat).size=x.toNat:=by rw[Qc (by omega) (by omega)];omega
   have h8:(v=1∨v=2)∧0≤n∧n≤1000000000:=by
    by_cases hh:(v=1∨v=2)∧0≤n∧n≤1000000000
    ·exact hh
    ·exact absurd (J0 hh) h3
   exact⟨h6.1.1,by omega,by omega,by omega,h8.1,h8.2.1,h8.2.2,rfl,h4⟩
  ·simp at e
 rcases h1:Bq b p 4 with⟨x,ok⟩
 rcases h2:Cj b p with⟨y,s,ok2⟩
 by_cases hv:v=2
 ·rw[Jw hv h1]at h
  cases ok
  ·simp at h
  ·have:=Md h1
   exact key (by omega) (by omega) h
 ·rw[J6 hv h2]at h
  cases ok2
  ·simp at h
  ·have:=Mc h2
   exact key (by omega) (by omega) h
theorem H3{h:Az}{b:ByteArray}{n:Nat}{p:Int}(hm:Db h.version_ (h.base_+n) b p=true):Ek h b n p=([],[],p,true):=by rw[Ek,if_pos hm]
theorem H5{h:Az}{b:ByteArray}{n:Nat}{p:Int}{r:ByteArray}{q:Int}(hm:Db h.version_ (h.base_+n) b p=false)(hf:Ap h.version_ (h.base_+n) b p=(r,q,false)):Ek h b n p=([],[],p,false):=by rw[Ek,if_neg (by rw[hm];simp),hf]
theorem H9{h:Az}{b:ByteArray}{n:Nat}{p:Int}{r:ByteArray}{q:Int}(hm:Db h.version_ (h.base_+n) b p=false)(hf:Ap h.version_ (h.base_+n) b p=(r,q,true)):Ek h b n p=(r::(Ek h b (n+1) q).1,p::(Ek h b (n+1) q).2.1,(Ek h b (n+1) q).2.2):=by
 have:=E7 hf
 rw[Ek,if_neg (by rw[hm];simp),hf]
 simp only[]
 rw[if_pos (by omega)]
def Ba(b:ByteArray):Int:=(Ac b).end_
theorem Z1:∀(k:Nat) {h:Az} {b:ByteArray} {n:Nat} {p:Int},(b.size - p).toNat≤k→0≤p∧p≤b.size→p≤(Ek h b n p).2.2.1∧(Ek h b n p).2.2.1≤b.size
 |k,h,b,n,p,hk,hp=>by
  cases hm:Db h.version_ (h.base_+n) b p
  ·rcases hf:Ap h.version_ (h.base_+n) b p with⟨r,q,ok⟩
   cases ok
   ·rw[H5 hm hf]
    exact⟨Int.le_refl _,hp.2⟩
   ·have h2:=E7 hf
    rw[H9 hm hf]
    cases k with
    |zero=>omega
    |succ k=>
     have ih:=Z1 k (h:=h) (b:=b) (n:=n+1) (p:=q) (by omega) (by omega)
     show p≤(Ek h b (n+1) q).2.2.1∧(Ek h b (n+1) q).2.2.1≤b.size
     exact⟨by omega,ih.2⟩
  ·rw[H3 hm]
   exact⟨Int.le_refl _,hp.2⟩
theorem Iv{b:ByteArray}:0≤(Ac b).end_∧(Ac b).end_≤b.size:=by
 unfold Ac
 split
 ·rename_i h e
  have h2:=Cu e
  have:=Z1 _ (h:=h) (b:=b) (n:=0) (p:=24) (Nat.le_refl _) (by omega)
  exact⟨by show 0≤(Ek h b 0 24).2.2.1;omega,this.2⟩
 ·exact⟨by simp,by simp⟩
def Sc(b:ByteArray):ByteArray:=b.extract (Ba b).toNat b.size
variable {b:ByteArray} {ook omar:Bool} {oheaver oheastr oheabas ohealin oend o:Int} {orec:List ByteArray} {xorec xooff:List (List D)} {ooff:List Int}
theorem Lo(hs:b.size<2^47)(hr:Ac b=⟨ook,⟨oheaver,oheastr,oheabas,ohealin⟩,orec,ooff,oend,omar⟩)(horec:orec.map cS=xorec)(hooff:ooff.map cI=xooff):Fn Tryz.prog 162 [S b] [] ⟨.agg [B ook,I oheaver,I oheastr,I oheabas,I ohealin,.d (.row 1 xorec),.d (.row 1 xooff),I oend,B omar],[],[]⟩:=by
 refine Fn.go Pd Tryz.func162 fun P hP Q hQ=>?_
 conv=>cbv
 rcases ak:A0 b with⟨⟨aa,ac,ab,ad⟩,ap⟩
 refine .dd hP (Xz (by omega) ak) ?_
 conv=>cbv
 cases ap
 conv=>cbv
 have e:(⟨false,⟨0,0,0,0⟩,[],[],0,false⟩:K0)=Ac b:=(by unfold Ac;rw[ak])
 rw[hr]at e
 simp only[Az.mk.injEq,K0.mk.injEq]at e
 obtain⟨rfl,⟨rfl,rfl,rfl,rfl⟩,rfl,rfl,rfl,rfl⟩:=e
 exact hQ _ _ (.one (.inl rfl) rfl (.agg (.d rfl rfl (.d rfl rfl (.d rfl rfl (.d rfl rfl (.d rfl rfl (.ref rfl rfl (by rw[←horec];rfl) (.ref rfl rfl (by rw[←hooff];rfl) (.d rfl rfl (.d rfl rfl (.nil)))))))))) .nil))
 conv=>cbv
 refine LoopW.lp (κ:=Int×(List (List D))×Nat×(List (List D))×Nat) Pd hP [4,5] [0,2,3,5] (fun(ae,al,am,af,ag)=>[]) (fun(ae,al,am,af,ag)=>[(8,.box 92 [B true,I aa,I ac,I ab,I ad,.ref 9 0 am,.ref 10 0 ag,I ae,B false]),(9,.row 1 false al),(10,.row 1 false af)])
  (fun(ae,al,am,af,ag)=>∃(w9:List ByteArray) (ai:List Int),w9.map cS=al∧am=w9.length∧ai.map cI=af∧ag=ai.length∧(24≤ae∧ae≤b.size∧w9.length=ai.length∧5*(w9.length:Int)+24≤ae)∧Ek ⟨aa,ac,ab,ad⟩ b 0 24=(w9++(Ek ⟨aa,ac,ab,ad⟩ b w9.length ae).1,ai++(Ek ⟨aa,ac,ab,ad⟩ b w9.length ae).2.1,(Ek ⟨aa,ac,ab,ad⟩ b w9.length ae).2.2))
  (fun(ae,al,am,af,ag)=>(b.size - ae).toNat) (24,[],0,[],0) ⟨[],[],rfl,rfl,rfl,rfl,by have:=Cu ak;simp;omega,rfl⟩ trivial rfl ?_
 rintro⟨ae,al,am,af,ag⟩ J ⟨w9,ai,ao,a2,ah,aq,hb,hS⟩ hJ
 have hd:=Dw (Cu ak).2.2
 conv=>cbv
 refine .go fun v2 a8=>?_
 conv=>cbv
 refine .add fun v3 ba=>?_
 conv=>cbv
 have e3:v3=ab+(w9.length:Int):=by omega
 generalize aj:Db aa v3 b ae=r4
 refine .dd hP (Xia (by omega) (by omega) aj) ?_
 cases r4
 conv=>cbv
 rcases an:Ap aa v3 b ae with⟨ar,au,aw⟩
 refine .dd hP (XcW (by omega) (by omega) an) ?_
 conv=>cbv
 cases aw
 conv=>cbv
 have e:(⟨true,⟨aa,ac,ab,ad⟩,w9,ai,ae,false⟩:K0)=Ac b:=(by rw[e3]at aj an;unfold Ac;rw[ak];simp only[];rw[hS,H5 (h:=⟨aa,ac,ab,ad⟩) aj an];simp)
 rw[hr]at e
 simp only[Az.mk.injEq,K0.mk.injEq]at e
 obtain⟨rfl,⟨rfl,rfl,rfl,rfl⟩,rfl,rfl,rfl,rfl⟩:=e
 exact hQ _ _ (.one (.inl rfl) rfl (.agg (.d rfl rfl (.d rfl rfl (.d rfl rfl (.d rfl rfl (.d rfl rfl (.ref rfl (by rw[←ao,List.length_map];first|omega|(simp;omega)) (by rw[←ao,←horec]) (.ref rfl (by rw[←ah,List.length_map];first|omega|(simp;omega)) (by rw[←ah,←hooff]) (.d rfl rfl (.d rfl rfl (.nil)))))))))) .nil))
 conv=>cbv
 have hf:=E7 an
 refine .one ar ao rfl fun ax z6 a6 ay=>?_
 conv=>cbv
 refine .one ae ah rfl fun az z7 a7 a1=>?_
 conv=>cbv
 exact .go [12,14] (au,z6,ax,z7,az) (hJ _ ⟨_,_,ay,D4,a1,D4,by simp;omega,by rw[e3]at aj an;rw[hS,H9 (h:=⟨aa,ac,ab,ad⟩) aj an];simp[List.append_assoc]⟩ mlt)
 conv=>cbv
 have e:(⟨true,⟨aa,ac,ab,ad⟩,w9,ai,ae,true⟩:K0)=Ac b:=(by rw[e3]at aj;unfold Ac;rw[ak];simp only[];rw[hS,H3 (h:=⟨aa,ac,ab,ad⟩) aj];simp)
 rw[hr]at e
 simp only[Az.mk.injEq,K0.mk.injEq]at e
 obtain⟨rfl,⟨rfl,rfl,rfl,rfl⟩,rfl,rfl,rfl,rfl⟩:=e
 exact hQ _ _ (.one (.inl rfl) rfl (.agg (.d rfl rfl (.d rfl rfl (.d rfl rfl (.d rfl rfl (.d rfl rfl (.ref rfl (by rw[←ao,List.length_map];first|omega|(simp;omega)) (by rw[←ao,←horec]) (.ref rfl (by rw[←ah,List.length_map];first|omega|(simp;omega)) (by rw[←ah,←hooff]) (.d rfl rfl (.d rfl rfl (.nil)))))))))) .nil))
theorem Jt(hs:b.size<2^47)(hr:Ac b=⟨ook,⟨oheaver,oheastr,oheabas,ohealin⟩,orec,ooff,oend,omar⟩)(horec:orec.map cS=xorec)(hooff:ooff.map cI=xooff):Fn Tryz.prog 74 [S b] [] ⟨.agg [B ook,I oheaver,I oheastr,I oheabas,I ohealin,.d (.row 1 xorec),.d (.row 1 xooff),I oend,B omar],[],[]⟩:=by
 refine Fn.go Pd Tryz.func74 fun P hP Q hQ=>?_
 conv=>cbv
 rcases ak:A0 b with⟨⟨aa,ac,ab,ad⟩,ap⟩
 refine .dd hP (R7 (by omega) ak) ?_
 conv=>cbv
 cases ap
 conv=>cbv
 have e:(⟨false,⟨0,0,0,0⟩,[],[],0,false⟩:K0)=Ac b:=(by unfold Ac;rw[ak])
 rw[hr]at e
 simp only[Az.mk.injEq,K0.mk.injEq]at e
 obtain⟨rfl,⟨rfl,rfl,rfl,rfl⟩,rfl,rfl,rfl,rfl⟩:=e
 exact hQ _ _ (.one (.inl rfl) rfl (.agg (.d rfl rfl (.d rfl rfl (.d rfl rfl (.d rfl rfl (.d rfl rfl (.ref rfl rfl (by rw[←horec];rfl) (.ref rfl rfl (by rw[←hooff];rfl) (.d rfl rfl (.d rfl rfl (.nil)))))))))) .nil))
 conv=>cbv
 refine LoopW.lp (κ:=Int×(List (List D))×Nat×(List (List D))×Nat) Pd hP [4,5] [0,2,3,5] (fun(ae,al,am,af,ag)=>[]) (fun(ae,al,am,af,ag)=>[(8,.box 92 [B true,I aa,I ac,I ab,I ad,.ref 9 0 am,.ref 10 0 ag,I ae,B false]),(9,.row 1 false al),(10,.row 1 false af)])
  (fun(ae,al,am,af,ag)=>∃(w9:List ByteArray) (ai:List Int),w9.map cS=al∧am=w9.length∧ai.map cI=af∧ag=ai.length∧(24≤ae∧ae≤b.size∧w9.length=ai.length∧5*(w9.length:Int)+24≤ae)∧Ek ⟨aa,ac,ab,ad⟩ b 0 24=(w9++(Ek ⟨aa,ac,ab,ad⟩ b w9.length ae).1,ai++(Ek ⟨aa,ac,ab,ad⟩ b w9.length ae).2.1,(Ek ⟨aa,ac,ab,ad⟩ b w9.length ae).2.2))
  (fun(ae,al,am,af,ag)=>(b.size - ae).toNat) (24,[],0,[],0) ⟨[],[],rfl,rfl,rfl,rfl,by have:=Cu ak;simp;omega,rfl⟩ trivial rfl ?_
 rintro⟨ae,al,am,af,ag⟩ J ⟨w9,ai,ao,a2,ah,aq,hb,hS⟩ hJ
 have hd:=Dw (Cu ak).2.2
 conv=>cbv
 refine .go fun v2 a8=>?_
 conv=>cbv
 refine .add fun v3 ba=>?_
 conv=>cbv
 have e3:v3=ab+(w9.length:Int):=by omega
 generalize aj:Db aa v3 b ae=r4
 refine .dd hP (XiE (by omega) (by omega) aj) ?_
 cases r4
 conv=>cbv
 rcases an:Ap aa v3 b ae with⟨ar,au,aw⟩
 refine .dd hP (Xc6 (by omega) (by omega) an) ?_
 conv=>cbv
 cases aw
 conv=>cbv
 have e:(⟨true,⟨aa,ac,ab,ad⟩,w9,ai,ae,false⟩:K0)=Ac b:=(by rw[e3]at aj an;unfold Ac;rw[ak];simp only[];rw[hS,H5 (h:=⟨aa,ac,ab,ad⟩) aj an];simp)
 rw[hr]at e
 simp only[Az.mk.injEq,K0.mk.injEq]at e
 obtain⟨rfl,⟨rfl,rfl,rfl,rfl⟩,rfl,rfl,rfl,rfl⟩:=e
 exact hQ _ _ (.one (.inl rfl) rfl (.agg (.d rfl rfl (.d rfl rfl (.d rfl rfl (.d rfl rfl (.d rfl rfl (.ref rfl (by rw[←ao,List.length_map];first|omega|(simp;omega)) (by rw[←ao,←horec]) (.ref rfl (by rw[←ah,List.length_map];first|omega|(simp;omega)) (by rw[←ah,←hooff]) (.d rfl rfl (.d rfl rfl (.nil)))))))))) .nil))
 conv=>cbv
 have hf:=E7 an
 refine .one ar ao rfl fun ax z6 a6 ay=>?_
 conv=>cbv
 refine .one ae ah rfl fun az z7 a7 a1=>?_
 conv=>cbv
 exact .go [12,14] (au,z6,ax,z7,az) (hJ _ ⟨_,_,ay,D4,a1,D4,by simp;omega,by rw[e3]at aj an;rw[hS,H9 (h:=⟨aa,ac,ab,ad⟩) aj an];simp[List.append_assoc]⟩ mlt)
 conv=>cbv
 have e:(⟨true,⟨aa,ac,ab,ad⟩,w9,ai,ae,true⟩:K0)=Ac b:=(by rw[e3]at aj;unfold Ac;rw[ak];simp only[];rw[hS,H3 (h:=⟨aa,ac,ab,ad⟩) aj];simp)
 rw[hr]at e
 simp only[Az.mk.injEq,K0.mk.injEq]at e
 obtain⟨rfl,⟨rfl,rfl,rfl,rfl⟩,rfl,rfl,rfl,rfl⟩:=e
 exact hQ _ _ (.one (.inl rfl) rfl (.agg (.d rfl rfl (.d rfl rfl (.d rfl rfl (.d rfl rfl (.d rfl rfl (.ref rfl (by rw[←ao,List.length_map];first|omega|(simp;omega)) (by rw[←ao,←horec]) (.ref rfl (by rw[←ah,List.length_map];first|omega|(simp;omega)) (by rw[←ah,←hooff]) (.d rfl rfl (.d rfl rfl (.nil)))))))))) .nil))
theorem Ya(hs:b.size<2^47)(hr:Ba b=o):Fn Tryz.prog 150 [S b] [] ⟨I o,[],[]⟩:=by
 refine Fn.go Pd Tryz.func150 fun P hP Q hQ=>?_
 conv=>cbv
 rcases aj:Ac b with⟨an,⟨af,ag,ah,ai⟩,ac,ad,ae,am⟩
 generalize aa:ac.map cS=ak
 generalize ab:ad.map cI=al
 refine .dd hP (Lo (by omega) aj aa ab) ?_
 conv=>cbv
 have e:ae=Ba b:=(by unfold Ba;rw[aj])
 rw[hr]at e
 subst e
 exact hQ _ _ (.i rfl rfl)
theorem Qb(hs:b.size<2^47)(hr:Ba b=o):Fn Tryz.prog 81 [S b] [] ⟨I o,[],[]⟩:=by
 refine Fn.go Pd Tryz.func81 fun P hP Q hQ=>?_
 conv=>cbv
 rcases aj:Ac b with⟨an,⟨af,ag,ah,ai⟩,ac,ad,ae,am⟩
 generalize aa:ac.map cS=ak
 generalize ab:ad.map cI=al
 refine .dd hP (Jt (by omega) aj aa ab) ?_
 conv=>cbv
 have e:ae=Ba b:=(by unfold Ba;rw[aj])
 rw[hr]at e
 subst e
 exact hQ _ _ (.i rfl rfl)
theorem XiO{o:ByteArray}(hs:b.size<2^47)(hr:Sc b=o):Fn Tryz.prog 73 [S b] [] ⟨S o,[],[]⟩:=by
 refine Fn.go Pd Tryz.func73 fun P hP Q hQ=>?_
 conv=>cbv
 generalize aa:Ba b=r1
 refine .dd hP (Ya (by omega) aa) ?_
 conv=>cbv
 have hb:=Iv (b:=b)
 have hb2:r1=(Ac b).end_:=aa.symm
 refine .lo fun s2 ab=>?_
 conv=>cbv
 have e:s2=Sc b:=(by rw[ab,←aa];rfl)
 rw[hr]at e
 subst e
 exact hQ _ _ (.s rfl rfl)
end
section
open Go Go.Proofs
set_option maxRecDepth 20000
set_option maxHeartbeats 4000000
def Xd2:List (Nat×TyRow):=[ty3,ty9,Xb7,Xig,Xkl,XkL]
theorem XcB:B3 Tryz.prog Xd2:=B3.of (by kernel_rfl)
theorem Iy:Setup Tryz.prog Xd2:=⟨XcB,mixed⟩
def Ws(s:Nat)(offs:List Int)(n:Nat):List Cx:=((List.range n).filter (fun i=>i% s=0)).map (fun(i:Nat)=>⟨(i:Int),offs.getD i 0⟩)
def A9(stride:Int)(offs:List Int):List Cx:=if stride<1 then[]else Ws stride.toNat offs offs.length
theorem Ni{s n:Nat}{offs:List Int}:Ws s offs (n+1)=Ws s offs n++(if n% s=0 then[⟨(n:Int),offs.getD n 0⟩]else[]):=by
 unfold Ws
 rw[List.range_succ,List.filter_append,List.map_append]
 congr 1
 by_cases h:n% s=0<;>simp[h]
theorem Y4{s n:Nat}{offs:List Int}:(Ws s offs n).length≤n:=by
 unfold Ws
 rw[List.length_map]
 exact Nat.le_trans (List.length_filter_le _ _) (by simp)
theorem Ze{s k:Nat}{offs:List Int}(hk:k% s=0):∀(d:Nat),d<s→Ws s offs (k+1+d)=Ws s offs k++[⟨(k:Int),offs.getD k 0⟩]
 |0,_=>by rw[Nat.add_zero,Ni,if_pos hk]
 |d+1,h=>by
  rw[←Nat.add_assoc,Ni,Ze hk d (by omega),if_neg,List.append_nil]
  have:k+1+d=k+(d+1):=by omega
  rw[this,Nat.add_mod,hk,Nat.zero_add,Nat.mod_mod,Nat.mod_eq_of_lt h]
  omega
theorem Se{l:List Int}{k:Nat}(h:k<l.length):l[k]=l.getD k 0:=by rw[List.getD_eq_getElem?_getD,List.getElem?_eq_getElem h];rfl
def Gg(a b:Int):ByteArray:=if b≤a∧a - b≤1000000000 then B7 (a - b)else tx []
theorem Tf{a b:Int}{o:ByteArray}(h:Gg a b=o):o.size≤5:=by
 rw[←h]
 unfold Gg
 split
 ·exact Ib _
 ·simp[A4]
def Hw(a b:Int):Int:=if b≤a∧a - b<9223372036854775808 then a - b else -1
theorem X6(a b:Int):B7 (Hw a b)=Gg a b:=by
 unfold Hw Gg
 by_cases h:b≤a∧a - b≤1000000000
 ·rw[if_pos h,if_pos (by omega)]
 ·rw[if_neg h]
  unfold B7
  split
  ·rw[if_neg (by omega)]
  ·rfl
def Hn:Int×Int→List Cx→Option ByteArray
 |_,[]=>some (tx [])
 |q,p::l=>if Gg p.count_ q.1=tx []∨Gg p.at_ q.2=tx []then none else(Hn (p.count_,p.at_) l).map fun t=>(Gg p.count_ q.1++Gg p.at_ q.2)++t
def Bn(l:List Cx):ByteArray:=match Hn (0,0) l with
 |some t=>B7 l.length++t
 |none=>tx []
theorem Vz:∀{l:List Cx} {q:Int×Int} {t:ByteArray},Hn q l=some t→t.size≤10*l.length
 |[],q,t,h=>by cases h;simp[A4]
 |p::l,q,t,h=>by
  simp only[Hn]at h
  split at h
  ·cases h
  ·obtain⟨u,hu,rfl⟩:=Option.map_eq_some_iff.1 h
   have:=Vz hu
   have h1:=Tf (rfl:Gg p.count_ q.1=_)
   have h2:=Tf (rfl:Gg p.at_ q.2=_)
   rw[ByteArray.size_append,ByteArray.size_append,List.length_cons]
   omega
theorem Ow(l:List Cx):(Bn l).size≤5+10*l.length:=by
 unfold Bn
 split
 ·rename_i t h
  have h1:=Vz h
  have h2:=Ib l.length
  rw[ByteArray.size_append]
  omega
 ·simp[A4]
theorem Px{l:List Cx}{o:ByteArray}(h:Bn l=o):o.size≤5+10*l.length:=by rw[←h];exact Ow l
theorem XfZ(s:ByteArray):tx []++s=s:=by rw[←Pb s,C6];rfl
theorem Zg(s:ByteArray):s++tx []=s:=by rw[←Pb s,C6,List.append_nil]
theorem Xc7{n w:Int}(h:Ao n w≠tx []):(Ao n w).size=w.toNat:=by
 by_cases hh:0≤n∧1≤w∧w≤8∧n.toNat/2^ (8*w.toNat)=0
 ·exact Q4 hh
 ·exact absurd (if_neg hh) h
def wfPl(l:List Cx):Prop:=∀p∈l,wfI p.count_∧wfI p.at_
def Iq(acc:ByteArray):List Int→Option ByteArray
 |[]=>some acc
 |x::l=>if Ao x 4=tx []then none else Iq (acc++Ao x 4) l
def Bc(a b c d:Int):ByteArray:=match Iq (tx []) [a,b,c,d]with
 |some t=>t++tx [73,68,88,33]
 |none=>tx []
theorem U4:∀{l:List Int} {acc t:ByteArray},Iq acc l=some t→t.size≤acc.size+8*l.length
 |[],acc,t,h=>by cases h;simp
 |x::l,acc,t,h=>by
  simp only[Iq]at h
  split at h
  ·cases h
  ·have:=U4 h
   have h1:=@Fb x 4
   rw[ByteArray.size_append]at this
   rw[List.length_cons]
   omega
theorem Gy{a b c d:Int}{o:ByteArray}(h:Bc a b c d=o):o.size≤36:=by
 rw[←h]
 unfold Bc
 split
 ·rename_i t ht
  have:=U4 ht
  simp only[A4,List.length_cons,List.length_nil]at this
  rw[ByteArray.size_append,A4]
  simp only[List.length_cons,List.length_nil]
  omega
 ·simp[A4]
theorem XaW:∀{l:List Int} {acc t:ByteArray},Iq acc l=some t→t.size=acc.size+4*l.length
 |[],acc,t,h=>by cases h;simp
 |x::l,acc,t,h=>by
  simp only[Iq]at h
  split at h
  ·cases h
  ·rename_i hx
   have:=XaW h
   have h1:=Xc7 hx
   rw[ByteArray.size_append,h1]at this
   rw[List.length_cons,this]
   simp
   omega
theorem Nw{a b c d:Int}(h:Bc a b c d≠tx []):(Bc a b c d).size=20:=by
 unfold Bc at h⊢
 split
 ·rename_i t ht
  have:=XaW ht
  simp only[A4,List.length_cons,List.length_nil]at this
  rw[ByteArray.size_append,A4,this]
  rfl
 ·rename_i ht
  rw[ht]at h
  exact absurd rfl h
def Bu(h:Az)(offs:List Int)(fin:Int):ByteArray:=
 if Ci h=true∧B8 h.version_ (h.base_+offs.length)≠tx []∧Bn (A9 h.stride_ offs)≠tx []∧Bc fin offs.length h.stride_ 0≠tx []then
  (B8 h.version_ (h.base_+offs.length)++Bn (A9 h.stride_ offs))++Bc fin offs.length h.stride_ (F1 ((B8 h.version_ (h.base_+offs.length)++Bn (A9 h.stride_ offs))++(Bc fin offs.length h.stride_ 0).extract 0 12))else tx []
theorem Gq{s:Int}{offs:List Int}:(A9 s offs).length≤offs.length:=by
 unfold A9
 split
 ·simp
 ·exact Y4
theorem S4{s:Int}{offs:List Int}(h:∀x∈offs,wfI x)(hl:offs.length<2^40):wfPl (A9 s offs):=by
 unfold A9
 split
 ·intro p hp;simp at hp
 ·intro p hp
  unfold Ws at hp
  obtain⟨i,hi,rfl⟩:=List.mem_map.1 hp
  have aa:=List.mem_range.1 (List.mem_filter.1 hi).1
  refine⟨⟨by show -9223372036854775808≤(i:Int);omega,by show(i:Int)<9223372036854775808;omega⟩,?_⟩
  show wfI (offs.getD i 0)
  rw[←Se aa]
  exact h _ (List.getElem_mem aa)
theorem Sq(h:Az)(offs:List Int)(fin:Int):(Bu h offs fin).size≤57+10*offs.length:=by
 unfold Bu
 split
 ·rw[ByteArray.size_append,ByteArray.size_append]
  have h1:=Lp (rfl:B8 h.version_ (h.base_+offs.length)=_)
  have h2:=Ow (A9 h.stride_ offs)
  have h3:=@Gq h.stride_ offs
  have h4:=Gy (rfl:Bc fin offs.length h.stride_ (F1 ((B8 h.version_ (h.base_+offs.length)++Bn (A9 h.stride_ offs))++(Bc fin offs.length h.stride_ 0).extract 0 12))=_)
  omega
 ·simp[A4]
variable {stride mark count sum a b:Int} {offs:List Int} {xoffs xo:List (List D)} {o:ByteArray}
theorem Xj{o:List Cx}(hoffs:offs.map cI=xoffs)(hl:offs.length<2^40)(hr:A9 stride offs=o)(ho:o.map I4=xo):Fn Tryz.prog 171 [I stride,.d (.row 1 xoffs)] [] ⟨.d (.row 2 xo),[],[]⟩:=by
 refine Fn.go Iy Tryz.func171 fun P hP Q hQ=>?_
 conv=>cbv
 refine LoopW.lp (κ:=Int×(List (List D))×Nat) Iy hP [1] [0,1] (fun(i6,aa,ab)=>[(5,.ref 2 0 ab),(6,I i6)]) (fun(i6,aa,ab)=>[(2,.row 2 false aa)])
  (fun(i6,aa,ab)=>∃(w2:List Cx),w2.map I4=aa∧ab=w2.length∧∃k:Nat,i6=(k:Int)∧k≤offs.length∧(1≤stride∨k=0)∧w2=Ws stride.toNat offs k)
  (fun(i6,aa,ab)=>(offs.length - i6).toNat) (0,[],0) ⟨[],rfl,rfl,0,rfl,by omega,by omega,by simp[Ws]⟩ ⟨rfl,rfl,trivial⟩ rfl ?_
 rintro⟨i6,aa,ab⟩ J ⟨w2,ac,ah,k,hi,hk,hs,hw⟩ hJ
 have hwl:w2.length≤k:=by rw[hw];exact Y4
 conv=>cbv
 refine .go hoffs fun v1 ak=>?_
 conv=>cbv
 refine .lss (fun h2=>?_) fun h2=>?_
 conv=>cbv
 refine .geq (fun h3=>?_) fun h3=>?_
 conv=>cbv
 refine .rem fun v4 ad=>?_
 conv=>cbv
 refine .eql (fun h5=>?_) fun h5=>?_
 conv=>cbv
 refine .go i6.toNat hoffs fun ai e6 ae=>?_
 conv=>cbv
 have em0:((k% stride.toNat:Nat):Int)=0:=by rw[Int.natCast_emod,Int.toNat_of_nonneg (by omega),←hi,←ad];exact h5
 have em:k% stride.toNat=0:=by omega
 have e1:(⟨i6,e6⟩:Cx)=⟨(k:Int),offs.getD k 0⟩:=by rw[ae,Se];simp only[hi,Int.toNat_natCast]
 refine .one (⟨i6,e6⟩:Cx) ac rfl fun af z7 aj ag=>?_
 conv=>cbv
 refine .add fun v8 al=>?_
 conv=>cbv
 exact .go [4] (v8,z7,af) (hJ _ ⟨_,ag,D4,k+1,by omega,by omega,by omega,by rw[Ni,if_pos em,hw,e1]⟩ mlt)
 conv=>cbv
 have em:¬k% stride.toNat=0:=by intro e;refine h5 ?_;rw[ad,hi,show stride=((stride.toNat:Nat):Int)by omega,←Int.natCast_emod,e];rfl
 refine .add fun v6 am=>?_
 conv=>cbv
 exact .go [2] (v6,aa,ab) (hJ _ ⟨_,ac,D4,k+1,by omega,by omega,by omega,by rw[Ni,if_neg em,hw];simp⟩ mlt)
 conv=>cbv
 have e:w2=A9 stride offs:=(by rw[hw,show k=0 by omega];unfold A9;rw[if_pos (by omega)];rfl)
 rw[hr]at e
 subst e
 exact hQ _ _ (.r rfl rfl (by rw[←ac,List.length_map];first|omega|(simp;omega)) (by rw[←ac,←ho]))
 conv=>cbv
 have e:w2=A9 stride offs:=(by rw[hw];unfold A9;split;rw[show k=0 by omega];rfl;rw[show k=offs.length by omega])
 rw[hr]at e
 subst e
 exact hQ _ _ (.r rfl rfl (by rw[←ac,List.length_map];first|omega|(simp;omega)) (by rw[←ac,←ho]))
theorem Wv{o:List Cx}(hoffs:offs.map cI=xoffs)(hl:offs.length<2^40)(hr:A9 stride offs=o)(ho:o.map I4=xo):Fn Tryz.prog 232 [I stride,.d (.row 1 xoffs)] [] ⟨.d (.row 2 xo),[],[]⟩:=by
 refine Fn.go Iy Tryz.func232 fun P hP Q hQ=>?_
 conv=>cbv
 refine .lss (fun h1=>?_) fun h1=>?_
 conv=>cbv
 have e:[]=A9 stride offs:=(by unfold A9;rw[if_pos (by omega)])
 rw[hr]at e
 subst e
 exact hQ _ _ (.r rfl rfl rfl (by rw[←ho];rfl))
 conv=>cbv
 refine LoopW.lp (κ:=Int×(List (List D))×Nat) Iy hP [1] [0,1] (fun(i6,aa,ab)=>[(5,.ref 2 0 ab),(6,I i6)]) (fun(i6,aa,ab)=>[(2,.row 2 false aa)])
  (fun(i6,aa,ab)=>∃(w2:List Cx),w2.map I4=aa∧ab=w2.length∧∃k:Nat,i6=(k:Int)∧k≤offs.length∧k% stride.toNat=0∧w2=Ws stride.toNat offs k)
  (fun(i6,aa,ab)=>(offs.length - i6).toNat) (0,[],0) ⟨[],rfl,rfl,0,rfl,by omega,by simp,by simp[Ws]⟩ ⟨rfl,rfl,trivial⟩ rfl ?_
 rintro⟨i6,aa,ab⟩ J ⟨w2,ac,ag,k,hi,hk,hs,hw⟩ hJ
 have hwl:w2.length≤k:=by rw[hw];exact Y4
 conv=>cbv
 refine .go hoffs fun v2 aj=>?_
 conv=>cbv
 refine .lss (fun h3=>?_) fun h3=>?_
 conv=>cbv
 refine .go i6.toNat hoffs fun ah e4 ae=>?_
 conv=>cbv
 have e1:(⟨i6,e4⟩:Cx)=⟨(k:Int),offs.getD k 0⟩:=by rw[ae,Se];simp only[hi,Int.toNat_natCast]
 refine .one (⟨i6,e4⟩:Cx) ac rfl fun af z5 ai ad=>?_
 conv=>cbv
 refine .go hoffs fun v6 ak=>?_
 conv=>cbv
 refine .sub fun v7 al=>?_
 conv=>cbv
 refine .gtr (fun h8=>?_) fun h8=>?_
 conv=>cbv
 have e:(w2++[(⟨i6,e4⟩:Cx)])=A9 stride offs:=(by unfold A9;rw[if_neg (by omega),show offs.length=k+1+(offs.length - 1 - k)by omega,Ze hs _ (by omega),hw,e1])
 rw[hr]at e
 subst e
 exact hQ _ _ (.r rfl rfl (by rw[←ad,List.length_map];first|omega|(simp;omega)) (by rw[←ad,←ho]))
 conv=>cbv
 refine .add fun v9 am=>?_
 conv=>cbv
 exact .go [4] (v9,z5,af) (hJ _ ⟨_,ad,D4,k+stride.toNat,by omega,by omega,by rw[Nat.add_mod_right];exact hs,by rw[show k+stride.toNat=k+1+(stride.toNat - 1)by omega,Ze hs _ (by omega),hw,e1]⟩ mlt)
 conv=>cbv
 have e:w2=A9 stride offs:=(by unfold A9;rw[if_neg (by omega),hw,show k=offs.length by omega])
 rw[hr]at e
 subst e
 exact hQ _ _ (.r rfl rfl (by rw[←ac,List.length_map];first|omega|(simp;omega)) (by rw[←ac,←ho]))
theorem Qj(k1:mark<9223372036854775808)(k2:count<9223372036854775808)(k3:stride<9223372036854775808)(k4:sum<9223372036854775808)(hr:Bc mark count stride sum=o):Fn Tryz.prog 300 [I mark,I count,I stride,I sum] [] ⟨S o,[],[]⟩:=by
 refine Fn.go Iy Tryz.func300 fun P hP Q hQ=>?_
 conv=>cbv
 refine .go fun v1 ah=>?_
 conv=>cbv
 refine LoopW.lp (κ:=ByteArray×Int) Iy hP [] [17,18] (fun(s9,aa)=>[(9,S s9),(19,I aa)]) (fun(s9,aa)=>[])
  (fun(s9,aa)=>∃k:Nat,aa=(k:Int)∧k≤4∧s9.size≤8*k∧Iq (tx []) [mark,count,stride,sum]=Iq s9 ([mark,count,stride,sum].drop k))
  (fun(s9,aa)=>(4 - aa).toNat) (tx [],0) ⟨0,rfl,by omega,by simp[A4],rfl⟩ ⟨rfl,rfl,trivial⟩ rfl ?_
 rintro⟨s9,aa⟩ J ⟨k,hi,hk,hz,hf⟩ hJ
 conv=>cbv
 refine .lss (fun h2=>?_) fun h2=>?_
 conv=>cbv
 refine .go aa.toNat fun p3 ai af=>?_
 conv=>cbv
 refine .go (l:=[mark,count,stride,sum]) (c:=cI) rfl fun ag e4 ac=>?_
 conv=>cbv
 have eE:[mark,count,stride,sum][k]'(by simp;omega)=e4:=by rw[ac];congr 1;omega
 have hE:e4<9223372036854775808:=by
  rw[←eE]
  have aj:k<4:=by omega
  rcases k with _|_|_|_|k
  ·exact k1
  ·exact k2
  ·exact k3
  ·exact k4
  ·omega
 generalize ab:Ao e4 4=r5
 have zr5:=Bv ab
 refine .dd hP (Fl (by omega) ab) ?_
 conv=>cbv
 refine .eql (fun h6=>?_) fun h6=>?_
 conv=>cbv
 have e:(tx [])=Bc mark count stride sum:=(by unfold Bc;rw[hf,List.drop_eq_getElem_cons (by simp;omega)];simp only[Iq];rw[eE,if_pos (by rw[ab];exact h6)])
 rw[hr]at e
 subst e
 exact hQ _ _ (.s rfl rfl)
 conv=>cbv
 refine .go fun s7 ad ak=>?_
 conv=>cbv
 refine .add fun v8 al=>?_
 conv=>cbv
 exact .go [] (s7,v8) (hJ _ ⟨k+1,by omega,by omega,by omega,by rw[hf,List.drop_eq_getElem_cons (by simp;omega)];simp only[Iq];rw[eE,if_neg];rw[ad];rw[ab];exact fun e=>h6 (ab.symm.trans e)⟩ mlt)
 conv=>cbv
 refine .litR 4 fun s3 ae am=>?_
 conv=>cbv
 have e:s3=Bc mark count stride sum:=(by unfold Bc;rw[hf,List.drop_of_length_le (by simp;omega)];simp only[Iq];exact ae)
 rw[hr]at e
 subst e
 exact hQ _ _ (.s rfl rfl)
theorem P5(k1:mark<9223372036854775808)(k2:count<9223372036854775808)(k3:stride<9223372036854775808)(k4:sum<9223372036854775808)(hr:Bc mark count stride sum=o):Fn Tryz.prog 172 [I mark,I count,I stride,I sum] [] ⟨S o,[],[]⟩:=by
 refine Fn.go Iy Tryz.func172 fun P hP Q hQ=>?_
 conv=>cbv
 refine LoopW.lp (κ:=ByteArray×Int) Iy hP [] [10] (fun(s9,aa)=>[(9,S s9),(11,I aa)]) (fun(s9,aa)=>[])
  (fun(s9,aa)=>∃k:Nat,aa=(k:Int)∧k≤4∧s9.size≤8*k∧Iq (tx []) [mark,count,stride,sum]=Iq s9 ([mark,count,stride,sum].drop k))
  (fun(s9,aa)=>(4 - aa).toNat) (tx [],0) ⟨0,rfl,by omega,by simp[A4],rfl⟩ ⟨rfl,rfl,trivial⟩ rfl ?_
 rintro⟨s9,aa⟩ J ⟨k,hi,hk,hz,hf⟩ hJ
 conv=>cbv
 refine .lss (fun h1=>?_) fun h1=>?_
 conv=>cbv
 refine .go aa.toNat fun p2 ah af=>?_
 conv=>cbv
 refine .go (l:=[mark,count,stride,sum]) (c:=cI) rfl fun ag e3 ac=>?_
 conv=>cbv
 have eE:[mark,count,stride,sum][k]'(by simp;omega)=e3:=by rw[ac];congr 1;omega
 have hE:e3<9223372036854775808:=by
  rw[←eE]
  have ai:k<4:=by omega
  rcases k with _|_|_|_|k
  ·exact k1
  ·exact k2
  ·exact k3
  ·exact k4
  ·omega
 generalize ab:Ao e3 4=r4
 have zr4:=Bv ab
 refine .dd hP (E8 (by omega) ab) ?_
 conv=>cbv
 refine .eql (fun h5=>?_) fun h5=>?_
 conv=>cbv
 have e:(tx [])=Bc mark count stride sum:=(by unfold Bc;rw[hf,List.drop_eq_getElem_cons (by simp;omega)];simp only[Iq];rw[eE,if_pos (by rw[ab];exact h5)])
 rw[hr]at e
 subst e
 exact hQ _ _ (.s rfl rfl)
 conv=>cbv
 refine .go fun s6 ad aj=>?_
 conv=>cbv
 refine .add fun v7 ak=>?_
 conv=>cbv
 exact .go [] (s6,v7) (hJ _ ⟨k+1,by omega,by omega,by omega,by rw[hf,List.drop_eq_getElem_cons (by simp;omega)];simp only[Iq];rw[eE,if_neg];rw[ad];rw[ab];exact fun e=>h5 (ab.symm.trans e)⟩ mlt)
 conv=>cbv
 refine .litR 4 fun s2 ae al=>?_
 conv=>cbv
 have e:s2=Bc mark count stride sum:=(by unfold Bc;rw[hf,List.drop_of_length_le (by simp;omega)];simp only[Iq];exact ae)
 rw[hr]at e
 subst e
 exact hQ _ _ (.s rfl rfl)
theorem XbR{o:Int}(ha:wfI a)(hb:wfI b)(hr:Hw a b=o):Fn Tryz.prog 236 [I a,I b] [] ⟨I o,[],[]⟩:=by
 refine Fn.go Iy Tryz.func236 fun P hP Q hQ=>?_
 conv=>cbv
 refine .subW fun v1 aa=>?_
 conv=>cbv
 refine .lss (fun h2=>?_) fun h2=>?_
 conv=>cbv
 have e:(-1)=Hw a b:=(by unfold Hw;rw[Lj]at aa;obtain⟨ab,ac⟩:=ha;obtain⟨ad,hb2⟩:=hb;rw[if_neg (by omega)])
 rw[hr]at e
 subst e
 exact hQ _ _ (.i rfl rfl)
 conv=>cbv
 refine .lss (fun h3=>?_) fun h3=>?_
 conv=>cbv
 have e:(-1)=Hw a b:=(by unfold Hw;rw[Lj]at aa;obtain⟨ab,ac⟩:=ha;obtain⟨ad,hb2⟩:=hb;rw[if_neg (by omega)])
 rw[hr]at e
 subst e
 exact hQ _ _ (.i rfl rfl)
 conv=>cbv
 have e:v1=Hw a b:=(by unfold Hw;rw[Lj]at aa;obtain⟨ab,ac⟩:=ha;obtain⟨ad,hb2⟩:=hb;rw[if_pos (by omega)];omega)
 rw[hr]at e
 subst e
 exact hQ _ _ (.i rfl rfl)
theorem XhO(ha:wfI a)(hb:wfI b)(hr:Gg a b=o):Fn Tryz.prog 326 [I a,I b] [] ⟨S o,[],[]⟩:=by
 refine Fn.go Iy Tryz.func326 fun P hP Q hQ=>?_
 conv=>cbv
 refine .lss (fun h1=>?_) fun h1=>?_
 conv=>cbv
 have e:(tx [])=Gg a b:=(by unfold Gg;rw[if_neg (by omega)])
 rw[hr]at e
 subst e
 exact hQ _ _ (.s rfl rfl)
 conv=>cbv
 refine .go fun v2 ab=>?_
 conv=>cbv
 refine .go fun v3 ac=>?_
 conv=>cbv
 refine .subW fun v4 ad=>?_
 conv=>cbv
 have e4:v4=a - b:=by rw[ad,ab,ac,F7,F7,F7];obtain⟨af,ag⟩:=ha;obtain⟨ah,hb2⟩:=hb;omega
 refine .gtr (fun h5=>?_) fun h5=>?_
 conv=>cbv
 have e:(tx [])=Gg a b:=(by unfold Gg;rw[if_neg (by omega)])
 rw[hr]at e
 subst e
 exact hQ _ _ (.s rfl rfl)
 conv=>cbv
 refine .sub fun v6 ae=>?_
 conv=>cbv
 generalize aa:B7 v6=r7
 have zr7:=Hc aa
 refine .dd hP (Uj aa) ?_
 conv=>cbv
 have e:r7=Gg a b:=(by unfold Gg;rw[if_pos (by omega),←aa,ae])
 rw[hr]at e
 subst e
 exact hQ _ _ (.s rfl rfl)
theorem Xbd{l:List Cx}{xl:List (List D)}(hl:l.map I4=xl)(hn:l.length<2^40)(hw:wfPl l)(hr:Bn l=o):Fn Tryz.prog 170 [.d (.row 2 xl)] [] ⟨S o,[],[]⟩:=by
 refine Fn.go Iy Tryz.func170 fun P hP Q hQ=>?_
 conv=>cbv
 refine .go hl fun v1 ao=>?_
 conv=>cbv
 generalize ae:B7 v1=r2
 have zr2:=Hc ae
 refine .dd hP (Nq ae) ?_
 conv=>cbv
 refine LoopW.lp (κ:=ByteArray×Int×Int×Int) Iy hP [] [0,4] (fun(s3,i5,ab,ac)=>[(3,S s3),(5,I i5)]) (fun(s3,i5,ab,ac)=>[(0,.box 162 [I ab,I ac])])
  (fun(s3,i5,ab,ac)=>∃(k:Nat) (pr:ByteArray),i5=(k:Int)∧k≤l.length∧s3=B7 l.length++pr∧pr.size≤10*k∧wfI ab∧wfI ac∧Hn (0,0) l=(Hn (ab,ac) (l.drop k)).map fun t=>pr++t)
  (fun(s3,i5,ab,ac)=>(l.length - i5).toNat) (r2,0,0,0) ⟨0,tx [],rfl,by omega,by rw[←ae,ao,Zg],by simp[A4],by constructor<;>omega,by constructor<;>omega,by simp[XfZ]⟩ ⟨rfl,rfl,trivial⟩ rfl ?_
 rintro⟨s3,i5,ab,ac⟩ J ⟨k,pr,hi,hk,hs,hz,hwa,hwb,hp⟩ hJ
 have ay:s3.size≤5+10*k:=by rw[hs,ByteArray.size_append];have:=Ib l.length;omega
 conv=>cbv
 refine .go hl fun v3 az=>?_
 conv=>cbv
 refine .lss (fun h4=>?_) fun h4=>?_
 conv=>cbv
 refine .go i5.toNat hl fun ar ⟨aa,ad⟩ ah=>?_
 conv=>cbv
 have hkl:k<l.length:=by omega
 have hd:l.drop k=⟨aa,ad⟩::l.drop (k+1):=by rw[List.drop_eq_getElem_cons hkl,ah];congr 2;omega
 obtain⟨ai,aj⟩:=hw ⟨aa,ad⟩ (by rw[ah];exact List.getElem_mem _)
 simp only[]at ai aj
 generalize ak:Hw aa ab=r6
 refine .dd hP (XbR (by assumption) (by assumption) ak) ?_
 conv=>cbv
 generalize af:B7 r6=r7
 have zr7:=Hc af
 refine .dd hP (Nq af) ?_
 conv=>cbv
 generalize al:Hw ad ac=r8
 refine .dd hP (XbR (by assumption) (by assumption) al) ?_
 conv=>cbv
 generalize ag:B7 r8=r9
 have zr9:=Hc ag
 refine .dd hP (Nq ag) ?_
 conv=>cbv
 have ea:Gg aa ab=r7:=by rw[←af,←ak,X6]
 have eb:Gg ad ac=r9:=by rw[←ag,←al,X6]
 refine .eql (fun h10=>?_) fun h10=>?_
 conv=>cbv
 have e:(tx [])=Bn l:=(by unfold Bn;rw[hp,hd];simp only[Hn];rw[ea,eb,if_pos (.inl h10)];rfl)
 rw[hr]at e
 subst e
 exact hQ _ _ (.s rfl rfl)
 conv=>cbv
 refine .eql (fun h11=>?_) fun h11=>?_
 conv=>cbv
 have e:(tx [])=Bn l:=(by unfold Bn;rw[hp,hd];simp only[Hn];rw[ea,eb,if_pos (.inr h11)];rfl)
 rw[hr]at e
 subst e
 exact hQ _ _ (.s rfl rfl)
 conv=>cbv
 refine .go fun a1 am au=>?_
 conv=>cbv
 refine .go fun ap an aw=>?_
 conv=>cbv
 refine .add fun aq ax=>?_
 conv=>cbv
 exact .go [] (ap,aq,aa,ad) (hJ _ ⟨k+1,pr++(r7++r9),by omega,by omega,by rw[an,am,hs];simp only[ByteArray.append_assoc],by rw[ByteArray.size_append,ByteArray.size_append];omega,ai,aj,by rw[hp,hd];simp only[Hn];rw[ea,eb,if_neg (by intro h;rcases h with h|h;exact h10 h;exact h11 h),Option.map_map];congr 1;funext t;simp only[Function.comp,ByteArray.append_assoc]⟩ mlt)
 conv=>cbv
 have e:s3=Bn l:=(by unfold Bn;rw[hp,List.drop_of_length_le (by omega),hs];simp[Hn,Zg])
 rw[hr]at e
 subst e
 exact hQ _ _ (.s rfl rfl)
end
section
open Go Go.Proofs
set_option maxRecDepth 20000
set_option maxHeartbeats 4000000
def Xam:List (Nat×TyRow):=[ty3,ty9,Xig,Xkl,Xkc]
theorem Xa7:B3 Tryz.prog Xam:=B3.of (by kernel_rfl)
theorem Xd5:Setup Tryz.prog Xam:=⟨Xa7,mixed⟩
theorem Xby{l:List Cx}{xl:List (List D)}{o:ByteArray}(hl:l.map I4=xl)(hn:l.length≤1000000000)(hw:wfPl l)(hr:Bn l=o):Fn Tryz.prog 299 [.d (.row 2 xl)] [] ⟨S o,[],[]⟩:=by
 refine Fn.go Xd5 Tryz.func299 fun P hP Q hQ=>?_
 conv=>cbv
 refine .go hl fun v1 az=>?_
 conv=>cbv
 generalize al:B7 v1=r2
 have zr2:=Hc al
 refine .dd hP (Uj al) ?_
 conv=>cbv
 obtain⟨nb3,hnb3⟩:∃m,([]:List UInt8).length+r2.size=m:=⟨_,rfl⟩
 obtain⟨b3,am⟩:∃m,[]++r2.data.toList=m:=⟨_,rfl⟩
 obtain⟨kb3,aq⟩:∃m,(r2.size:Int)=m:=⟨_,rfl⟩
 have lb3:nb3=b3.length:=by rw[←am,List.length_append,Array.length_toList];exact hnb3.symm
 refine .bx [2,0] [0] hP (Xd0 rfl (by first|omega|(simp;omega)) hnb3 am aq) rfl rfl rfl rfl ?_
 conv=>cbv
 refine .go hl fun v4 a8=>?_
 conv=>cbv
 refine LoopW.lp (κ:=Int×Int×Int×(List UInt8)×Nat) Xd5 hP [3] [3,4,15,16] (fun(ac,ad,ae,aa,ag)=>[(17,I ac)]) (fun(ac,ad,ae,aa,ag)=>[(2,.box 216 [.ptr 2 0 0,.ref 5 0 ag]),(4,.box 162 [I ad,I ae]),(5,.buf 5 false aa)])
  (fun(ac,ad,ae,aa,ag)=>ag=aa.length∧∃(k:Nat) (pr:ByteArray),ac=(k:Int)∧k≤l.length∧aa=(B7 l.length++pr).data.toList∧pr.size≤10*k∧wfI ad∧wfI ae∧Hn (0,0) l=(Hn (ad,ae) (l.drop k)).map fun t=>pr++t)
  (fun(ac,ad,ae,aa,ag)=>(l.length - ac).toNat) (0,0,0,b3,nb3) ⟨lb3,0,tx [],rfl,by omega,by rw[←am,Zg,←az,al];rfl,by simp[A4],by constructor<;>omega,by constructor<;>omega,by simp[XfZ]⟩ ⟨rfl,trivial⟩ rfl ?_
 rintro⟨ac,ad,ae,aa,ag⟩ J ⟨ak,k,pr,hi,hk,hs,hz,hwa,hwb,hp⟩ hJ
 have z1:1≤(B7 l.length).size:=by unfold B7;rw[if_pos (by omega),A4];exact List.length_pos_iff.2 (Vk _)
 have zv:=Ib l.length
 have zl:aa.length=(B7 l.length).size+pr.size:=by rw[hs,Array.length_toList];exact ByteArray.size_append
 conv=>cbv
 refine .lss (fun h5=>?_) fun h5=>?_
 conv=>cbv
 refine .go ac.toNat hl fun a2 ⟨ab,af⟩ ar=>?_
 conv=>cbv
 have hkl:k<l.length:=by omega
 have hd:l.drop k=⟨ab,af⟩::l.drop (k+1):=by rw[List.drop_eq_getElem_cons hkl,ar];congr 2;omega
 obtain⟨au,aw⟩:=hw ⟨ab,af⟩ (by rw[ar];exact List.getElem_mem _)
 simp only[]at au aw
 generalize ah:Gg ab ad=r7
 have zr7:=Tf ah
 refine .dd hP (XhO (by assumption) (by assumption) ah) ?_
 conv=>cbv
 generalize ai:Gg af ae=r8
 have zr8:=Tf ai
 refine .dd hP (XhO (by assumption) (by assumption) ai) ?_
 conv=>cbv
 refine .eql (fun h9=>?_) fun h9=>?_
 conv=>cbv
 have e:(tx [])=Bn l:=(by unfold Bn;rw[hp,hd];simp only[Hn];rw[ah,ai,if_pos (.inl h9)];rfl)
 rw[hr]at e
 subst e
 exact hQ _ _ (.s rfl rfl)
 conv=>cbv
 refine .eql (fun h10=>?_) fun h10=>?_
 conv=>cbv
 have e:(tx [])=Bn l:=(by unfold Bn;rw[hp,hd];simp only[Hn];rw[ah,ai,if_pos (.inr h10)];rfl)
 rw[hr]at e
 subst e
 exact hQ _ _ (.s rfl rfl)
 conv=>cbv
 refine .go fun an ax a6=>?_
 conv=>cbv
 obtain⟨nb12,hnb12⟩:∃m,(aa:List UInt8).length+an.size=m:=⟨_,rfl⟩
 obtain⟨ay,aj⟩:∃m,aa++an.data.toList=m:=⟨_,rfl⟩
 obtain⟨kb12,ao⟩:∃m,(an.size:Int)=m:=⟨_,rfl⟩
 have lb12:nb12=ay.length:=by rw[←aj,List.length_append,Array.length_toList];exact hnb12.symm
 refine .bx [2,5] [5] hP (Xea ak (by first|omega|(simp;omega)) hnb12 aj ao) rfl rfl rfl rfl ?_
 conv=>cbv
 refine .add fun a1 a7=>?_
 conv=>cbv
 exact .go [7] (a1,ab,af,ay,nb12) (hJ _ ⟨D4,k+1,pr++(r7++r8),by omega,by omega,by rw[←aj,hs,ax];simp[ByteArray.data_append,List.append_assoc],by rw[ByteArray.size_append,ByteArray.size_append];omega,au,aw,by rw[hp,hd];simp only[Hn];rw[ah,ai,if_neg (by intro h;rcases h with h|h;exact h9 h;exact h10 h),Option.map_map];congr 1;funext t;simp only[Function.comp,ByteArray.append_assoc]⟩ mlt)
 conv=>cbv
 obtain⟨b6,ap⟩:∃m,tx aa=m:=⟨_,rfl⟩
 have zb6:b6.size=aa.length:=by rw[←ap,A4]
 refine .bx [2,5] [5] hP (XdE (x:=.ptr 0 0 0) ak (by intro e;rw[e]at zl;simp at zl;omega) (by first|omega|(simp;omega)) ap) rfl rfl rfl rfl ?_
 conv=>cbv
 have e:b6=Bn l:=(by unfold Bn;rw[hp,List.drop_of_length_le (by omega)];simp only[Hn,Option.map_some,Zg];rw[←ap,hs,Pb])
 rw[hr]at e
 subst e
 exact hQ _ _ (.s rfl rfl)
end
section
open Go Go.Proofs
set_option maxRecDepth 20000
set_option maxHeartbeats 4000000
def XbH:List (Nat×TyRow):=[ty3,ty9,Xb7,XfJ,Xig]
theorem XbL:B3 Tryz.prog XbH:=B3.of (by kernel_rfl)
theorem XdA:Setup Tryz.prog XbH:=⟨XbL,mixed⟩
theorem Ut{h:Az}{offs:List Int}{fin:Int}{o:ByteArray}(e:Bu h offs fin=o):o.size≤57+10*offs.length:=by rw[←e];exact Sq _ _ _
variable {hver hstr hbas hlin fin:Int} {offs:List Int} {xoffs:List (List D)} {o:ByteArray}
theorem XeS(hoffs:offs.map cI=xoffs)(hl:offs.length≤1000000000)(hwo:∀x∈offs,wfI x)(hf:fin<9223372036854775808)(hr:Bu (⟨hver,hstr,hbas,hlin⟩:Az) offs fin=o):Fn Tryz.prog 255 [.agg [I hver,I hstr,I hbas,I hlin],.d (.row 1 xoffs),I fin] [] ⟨S o,[],[]⟩:=by
 refine Fn.go XdA Tryz.func255 fun P hP Q hQ=>?_
 conv=>cbv
 generalize ag:Ci (⟨hver,hstr,hbas,hlin⟩:Az)=r1
 refine .dd hP (Y8 ag) ?_
 cases r1
 conv=>cbv
 have e:(tx [])=Bu (⟨hver,hstr,hbas,hlin⟩:Az) offs fin:=(by unfold Bu;rw[if_neg];rintro⟨q1,q2,q3,q4⟩;simp only[]at q1 q2 q3 q4;rw[ag]at q1;cases q1)
 rw[hr]at e
 subst e
 exact hQ _ _ (.s rfl rfl)
 conv=>cbv
 have hh:=Dw ag
 refine .go hoffs fun v2 aj=>?_
 conv=>cbv
 refine .add fun v3 ak=>?_
 conv=>cbv
 generalize ac:B8 hver v3=r4
 have zr4:=Lp ac
 refine .dd hP (Xa4 ac) ?_
 conv=>cbv
 generalize ab:A9 hstr offs=l5
 generalize al:l5.map I4=a7
 refine .dd hP (Wv hoffs (by omega) ab al) ?_
 conv=>cbv
 have zl5:l5.length≤offs.length:=ab▸Gq
 generalize ad:Bn l5=r6
 have zr6:=Px ad
 refine .dd hP (Xby al (by omega) (ab▸S4 hwo (by omega)) ad) ?_
 conv=>cbv
 refine .go hoffs fun v7 am=>?_
 conv=>cbv
 generalize aa:Bc fin v7 hstr 0=r8
 have zr8:=Gy aa
 refine .dd hP (Qj (by omega) (by omega) (by omega) (by omega) aa) ?_
 conv=>cbv
 refine .eql (fun h9=>?_) fun h9=>?_
 conv=>cbv
 have e:(tx [])=Bu (⟨hver,hstr,hbas,hlin⟩:Az) offs fin:=(by unfold Bu;rw[if_neg];rintro⟨q1,q2,q3,q4⟩;simp only[]at q1 q2 q3 q4;rw[←aj,←ak,ac]at q2;exact q2 h9)
 rw[hr]at e
 subst e
 exact hQ _ _ (.s rfl rfl)
 conv=>cbv
 refine .eql (fun h10=>?_) fun h10=>?_
 conv=>cbv
 have e:(tx [])=Bu (⟨hver,hstr,hbas,hlin⟩:Az) offs fin:=(by unfold Bu;rw[if_neg];rintro⟨q1,q2,q3,q4⟩;simp only[]at q1 q2 q3 q4;rw[ab,ad]at q3;exact q3 h10)
 rw[hr]at e
 subst e
 exact hQ _ _ (.s rfl rfl)
 conv=>cbv
 refine .eql (fun h11=>?_) fun h11=>?_
 conv=>cbv
 have e:(tx [])=Bu (⟨hver,hstr,hbas,hlin⟩:Az) offs fin:=(by unfold Bu;rw[if_neg];rintro⟨q1,q2,q3,q4⟩;simp only[]at q1 q2 q3 q4;rw[←am,aa]at q4;exact q4 h11)
 rw[hr]at e
 subst e
 exact hQ _ _ (.s rfl rfl)
 conv=>cbv
 refine .go fun a8 ah ay=>?_
 conv=>cbv
 have z8:r8.size=20:=by rw[←aa];exact Nw (by rw[aa];exact h11)
 refine .hi fun ar ai=>?_
 conv=>cbv
 have ba:ar.size=12:=by rw[ai,Qc (by omega) (by omega)];rfl
 refine .go fun au an az=>?_
 conv=>cbv
 generalize ae:F1 au=aw
 have zr15:=In ae
 refine .dd hP (V1 (by omega) ae) ?_
 conv=>cbv
 refine .go fun bb ao a1=>?_
 conv=>cbv
 refine .go hoffs fun ap a2=>?_
 conv=>cbv
 generalize af:Bc fin ap hstr aw=bc
 have zr18:=Gy af
 refine .dd hP (Qj (by omega) (by omega) (by omega) (by omega) af) ?_
 conv=>cbv
 refine .go fun ax aq a6=>?_
 conv=>cbv
 have e:ax=Bu (⟨hver,hstr,hbas,hlin⟩:Az) offs fin:=(by have q:Bu ⟨hver,hstr,hbas,hlin⟩ offs fin=_:=if_pos ⟨ag,by simp only[];rw[←aj,←ak,ac];exact h9,by simp only[];rw[ab,ad];exact h10,by simp only[];rw[←am,aa];exact h11⟩;rw[q];simp only[];rw[←aj,←ak,ac,ab,ad,show(v2:Int)=v7 by omega,aa,←ah,aq,ao,←ah,←af,←ae,an,ai,show ap=v7 by omega];rfl)
 rw[hr]at e
 subst e
 exact hQ _ _ (.s rfl rfl)
theorem XeM(hoffs:offs.map cI=xoffs)(hl:offs.length≤1000000000)(hwo:∀x∈offs,wfI x)(hf:fin<9223372036854775808)(hr:Bu (⟨hver,hstr,hbas,hlin⟩:Az) offs fin=o):Fn Tryz.prog 89 [.agg [I hver,I hstr,I hbas,I hlin],.d (.row 1 xoffs),I fin] [] ⟨S o,[],[]⟩:=by
 refine Fn.go XdA Tryz.func89 fun P hP Q hQ=>?_
 conv=>cbv
 generalize ag:Ci (⟨hver,hstr,hbas,hlin⟩:Az)=r1
 refine .dd hP (Ys ag) ?_
 cases r1
 conv=>cbv
 have e:(tx [])=Bu (⟨hver,hstr,hbas,hlin⟩:Az) offs fin:=(by unfold Bu;rw[if_neg];rintro⟨q1,q2,q3,q4⟩;simp only[]at q1 q2 q3 q4;rw[ag]at q1;cases q1)
 rw[hr]at e
 subst e
 exact hQ _ _ (.s rfl rfl)
 conv=>cbv
 have hh:=Dw ag
 refine .go hoffs fun v2 aj=>?_
 conv=>cbv
 refine .add fun v3 ak=>?_
 conv=>cbv
 generalize ac:B8 hver v3=r4
 have zr4:=Lp ac
 refine .dd hP (XaA ac) ?_
 conv=>cbv
 generalize ab:A9 hstr offs=l5
 generalize al:l5.map I4=a7
 refine .dd hP (Xj hoffs (by omega) ab al) ?_
 conv=>cbv
 have zl5:l5.length≤offs.length:=ab▸Gq
 generalize ad:Bn l5=r6
 have zr6:=Px ad
 refine .dd hP (Xbd al (by omega) (ab▸S4 hwo (by omega)) ad) ?_
 conv=>cbv
 refine .go hoffs fun v7 am=>?_
 conv=>cbv
 generalize aa:Bc fin v7 hstr 0=r8
 have zr8:=Gy aa
 refine .dd hP (P5 (by omega) (by omega) (by omega) (by omega) aa) ?_
 conv=>cbv
 refine .eql (fun h9=>?_) fun h9=>?_
 conv=>cbv
 have e:(tx [])=Bu (⟨hver,hstr,hbas,hlin⟩:Az) offs fin:=(by unfold Bu;rw[if_neg];rintro⟨q1,q2,q3,q4⟩;simp only[]at q1 q2 q3 q4;rw[←aj,←ak,ac]at q2;exact q2 h9)
 rw[hr]at e
 subst e
 exact hQ _ _ (.s rfl rfl)
 conv=>cbv
 refine .eql (fun h10=>?_) fun h10=>?_
 conv=>cbv
 have e:(tx [])=Bu (⟨hver,hstr,hbas,hlin⟩:Az) offs fin:=(by unfold Bu;rw[if_neg];rintro⟨q1,q2,q3,q4⟩;simp only[]at q1 q2 q3 q4;rw[ab,ad]at q3;exact q3 h10)
 rw[hr]at e
 subst e
 exact hQ _ _ (.s rfl rfl)
 conv=>cbv
 refine .eql (fun h11=>?_) fun h11=>?_
 conv=>cbv
 have e:(tx [])=Bu (⟨hver,hstr,hbas,hlin⟩:Az) offs fin:=(by unfold Bu;rw[if_neg];rintro⟨q1,q2,q3,q4⟩;simp only[]at q1 q2 q3 q4;rw[←am,aa]at q4;exact q4 h11)
 rw[hr]at e
 subst e
 exact hQ _ _ (.s rfl rfl)
 conv=>cbv
 refine .go fun a8 ah ay=>?_
 conv=>cbv
 have z8:r8.size=20:=by rw[←aa];exact Nw (by rw[aa];exact h11)
 refine .hi fun ar ai=>?_
 conv=>cbv
 have ba:ar.size=12:=by rw[ai,Qc (by omega) (by omega)];rfl
 refine .go fun au an az=>?_
 conv=>cbv
 generalize ae:F1 au=aw
 have zr15:=In ae
 refine .dd hP (Vo (by omega) ae) ?_
 conv=>cbv
 refine .go fun bb ao a1=>?_
 conv=>cbv
 refine .go hoffs fun ap a2=>?_
 conv=>cbv
 generalize af:Bc fin ap hstr aw=bc
 have zr18:=Gy af
 refine .dd hP (P5 (by omega) (by omega) (by omega) (by omega) af) ?_
 conv=>cbv
 refine .go fun ax aq a6=>?_
 conv=>cbv
 have e:ax=Bu (⟨hver,hstr,hbas,hlin⟩:Az) offs fin:=(by have q:Bu ⟨hver,hstr,hbas,hlin⟩ offs fin=_:=if_pos ⟨ag,by simp only[];rw[←aj,←ak,ac];exact h9,by simp only[];rw[ab,ad];exact h10,by simp only[];rw[←am,aa];exact h11⟩;rw[q];simp only[];rw[←aj,←ak,ac,ab,ad,show(v2:Int)=v7 by omega,aa,←ah,aq,ao,←ah,←af,←ae,an,ai,show ap=v7 by omega];rfl)
 rw[hr]at e
 subst e
 exact hQ _ _ (.s rfl rfl)
end
section
open Go Go.Proofs
set_option maxRecDepth 20000
set_option maxHeartbeats 4000000
def Xet:List (Nat×TyRow):=[ty3,ty9,XhT,Zy,Xb7,XfJ,Xkc]
theorem XcY:B3 Tryz.prog Xet:=B3.of (by kernel_rfl)
theorem Nh:Setup Tryz.prog Xet:=⟨XcY,mixed⟩
def Cg(v:Int):Int→List ByteArray→List UInt8
 |_,[]=>[]
 |p,r::l=>(Ai v p r).data.toList++Cg v (p+1) l
def Ez(v:Int):Int→Int→List ByteArray→List Int
 |_,_,[]=>[]
 |p,k,r::l=>k::Ez v (p+1) (k+(Ai v p r).size) l
def Oj(h:Az)(l:List ByteArray):List UInt8:=(A7 h).data.toList++Cg h.version_ h.base_ l
def Bh(h:Az)(l:List ByteArray):ByteArray:=
 if Ci h=true∧l.length≤1000∧h.base_+l.length≤1000000000∧∀r∈l,r.size≤60 then
  tx (Oj h l)++Bu h (Ez h.version_ h.base_ (A7 h).size l) (Oj h l).length
 else tx []
theorem M9{v:Int}:∀{l:List ByteArray} {p:Int} {r:ByteArray},Cg v p (l++[r])=Cg v p l++(Ai v (p+l.length) r).data.toList
 |[],p,r=>by simp[Cg]
 |x::l,p,r=>by
  rw[List.cons_append,Cg,Cg,M9,List.append_assoc,List.length_cons,show p+1+(l.length:Int)=p+((l.length+1:Nat):Int)by omega]
theorem Rt{v:Int}:∀{l:List ByteArray} {p k:Int} {r:ByteArray},Ez v p k (l++[r])=Ez v p k l++[k+(Cg v p l).length]
 |[],p,k,r=>by simp[Cg,Ez]
 |x::l,p,k,r=>by
  have e:(Ai v p x).data.toList.length=(Ai v p x).size:=Array.length_toList
  rw[List.cons_append,Ez,Ez,Rt,Cg,List.cons_append,List.length_append,e,show k+((Ai v p x).size:Int)+((Cg v (p+1) l).length:Int)=k+(((Ai v p x).size+(Cg v (p+1) l).length:Nat):Int)by omega]
theorem Jr{v:Int}:∀{l:List ByteArray} {p k:Int},(Ez v p k l).length=l.length
 |[],_,_=>rfl
 |x::l,p,k=>by rw[Ez,List.length_cons,List.length_cons,Jr]
theorem Iu{v:Int}:∀{l:List ByteArray} {p:Int},(Cg v p l).length≤84*l.length
 |[],_=>by simp[Cg]
 |x::l,p=>by
  have:=@Iu v l (p+1)
  have h:=Eb (rfl:Ai v p x=_)
  have e:(Ai v p x).data.size=(Ai v p x).size:=rfl
  rw[Cg,List.length_append,Array.length_toList,List.length_cons]
  omega
theorem Q3{v:Int}:∀{l:List ByteArray} {p k:Int},0≤k→∀x∈Ez v p k l,0≤x∧x≤k+84*l.length
 |[],_,_,_,x,hx=>by simp[Ez]at hx
 |y::l,p,k,hk,x,hx=>by
  rw[Ez,List.mem_cons]at hx
  have h:=Eb (rfl:Ai v p y=_)
  rcases hx with rfl|hx
  ·rw[List.length_cons];omega
  ·have:=@Q3 v l (p+1) (k+(Ai v p y).size) (by omega) x hx
   rw[List.length_cons];omega
theorem G5{h:Az}{l:List ByteArray}{o:ByteArray}(e:Bh h l=o):o.size≤200000:=by
 rw[←e]
 unfold Bh
 split
 ·rename_i hc
  have h1:=Sq h (Ez h.version_ h.base_ (A7 h).size l) (Oj h l).length
  have h2:=Gj (rfl:A7 h=_)
  have h3:=@Iu h.version_ l h.base_
  rw[ByteArray.size_append,A4]
  rw[Jr]at h1
  have e:(A7 h).data.size=(A7 h).size:=rfl
  have h4:(Oj h l).length=(A7 h).size+(Cg h.version_ h.base_ l).length:=by unfold Oj;rw[List.length_append,Array.length_toList];rfl
  omega
 ·simp[A4]
def Cn(s:ByteArray):Bool:=decide (60<s.size)
def Bs(l:List ByteArray):Int:=if l.findIdx Cn<l.length then(l.findIdx Cn:Int)else -1
def B2(l:List ByteArray):Bool:=l.any Cn
theorem XkD{l:List ByteArray}{i:Int}(h0:0≤i)(hi:i.toNat<l.length)(h:Cn l[i.toNat]=true)(hb:∀(j:Nat) (hj:j<l.length),j<i.toNat→Cn l[j]=false):i=Bs l:=by
 have e:l.findIdx Cn=i.toNat:=(List.findIdx_eq hi).2 ⟨h,fun j hji=>hb j (by omega) hji⟩
 unfold Bs
 rw[e,if_pos hi]
 omega
theorem XiT{l:List ByteArray}(hb:∀(j:Nat) (hj:j<l.length),Cn l[j]=false): -1=Bs l:=by
 unfold Bs
 rw[if_neg]
 intro hlt
 have:=List.findIdx_getElem (w:=hlt)
 rw[hb _ hlt]at this
 cases this
theorem XfS{l:List ByteArray}:B2 l=decide (0≤Bs l):=by
 unfold B2 Bs
 by_cases h:l.findIdx Cn<l.length
 ·rw[if_pos h]
  have:=List.findIdx_getElem (w:=h)
  rw[List.any_eq_true.2 ⟨_,List.getElem_mem h,this⟩]
  simp
 ·rw[if_neg h]
  have:l.any Cn=false:=by
   rw[List.any_eq_false]
   intro x hx hp
   exact h (List.findIdx_lt_length_of_exists ⟨x,hx,hp⟩)
  rw[this]
  rfl
theorem XaX{l:List ByteArray}(h:B2 l=false):∀r∈l,r.size≤60:=by
 intro r hr
 have:=List.any_eq_false.1 h r hr
 simp[Cn]at this
 exact this
theorem Xhc{l:List ByteArray}(h:B2 l=true):¬∀r∈l,r.size≤60:=by
 intro hh
 obtain⟨r,hr,h'⟩:=List.any_eq_true.1 h
 have:=hh r hr
 simp[Cn]at h'
 omega
variable {o:Bool} {l:List ByteArray} {xl:List (List D)} {hver hstr hbas hlin:Int}
theorem Z2{s:ByteArray}(hr:Cn s=o):Fn Tryz.prog 249 [S s] [] ⟨B o,[],[]⟩:=by
 refine Fn.go Nh Tryz.func249 fun P hP Q hQ=>?_
 conv=>cbv
 refine .go fun v1 aa=>?_
 conv=>cbv
 refine .gtr (fun h2=>?_) fun h2=>?_
 conv=>cbv
 have e:true=Cn s:=(by unfold Cn;rw[eq_comm,decide_eq_true_iff];omega)
 rw[hr]at e
 subst e
 exact hQ _ _ (.b rfl rfl)
 conv=>cbv
 have e:false=Cn s:=(by unfold Cn;rw[eq_comm,decide_eq_false_iff_not];omega)
 rw[hr]at e
 subst e
 exact hQ _ _ (.b rfl rfl)
theorem M1{o:Int}(hl:l.map cS=xl)(hn:l.length<2^40)(hr:Bs l=o):Fn Tryz.prog 228 [.d (.row 1 xl),.clo 249 []] [] ⟨I o,[],[]⟩:=by
 refine Fn.go Nh Tryz.func228 fun P hP Q hQ=>?_
 conv=>cbv
 refine .go hl fun v1 ad=>?_
 conv=>cbv
 refine LoopW.lp (κ:=Int) Nh hP [] [0,1,7] (fun i8=>[(8,I i8)]) (fun i8=>[])
  (fun i8=>0≤i8∧i8≤l.length∧∀(j:Nat) (hj:j<l.length),j<i8.toNat→Cn l[j]=false)
  (fun i8=>(l.length - i8).toNat) (0) ⟨by omega,by omega,fun j _ h=>by simp at h⟩ ⟨rfl,trivial⟩ rfl ?_
 rintro i8 J ⟨h0,h1,hb⟩ hJ
 conv=>cbv
 refine .lss (fun h2=>?_) fun h2=>?_
 conv=>cbv
 refine .go i8.toNat hl fun ac e3 ab=>?_
 conv=>cbv
 generalize aa:Cn e3=r4
 refine .dd hP (Z2 aa) ?_
 cases r4
 conv=>cbv
 refine .add fun v5 ae=>?_
 conv=>cbv
 exact .go [] (v5) (hJ _ ⟨by omega,by omega,fun j hj h=>if e:j=i8.toNat then by subst e;rw[←ab];exact aa else hb j hj (by omega)⟩ mlt)
 conv=>cbv
 have e:i8=Bs l:=(by exact XkD h0 (by omega) (ab▸aa) hb)
 rw[hr]at e
 subst e
 exact hQ _ _ (.i rfl rfl)
 conv=>cbv
 have e:(-1)=Bs l:=(by exact XiT fun j hj=>hb j hj (by omega))
 rw[hr]at e
 subst e
 exact hQ _ _ (.i rfl rfl)
theorem Lc(hl:l.map cS=xl)(hn:l.length<2^40)(hr:B2 l=o):Fn Tryz.prog 248 [.d (.row 1 xl),.clo 249 []] [] ⟨B o,[],[]⟩:=by
 refine Fn.go Nh Tryz.func248 fun P hP Q hQ=>?_
 conv=>cbv
 generalize aa:Bs l=r1
 refine .dd hP (M1 hl hn aa) ?_
 conv=>cbv
 refine .geq (fun h2=>?_) fun h2=>?_
 conv=>cbv
 have e:true=B2 l:=(by rw[XfS,aa,eq_comm,decide_eq_true_iff];omega)
 rw[hr]at e
 subst e
 exact hQ _ _ (.b rfl rfl)
 conv=>cbv
 have e:false=B2 l:=(by rw[XfS,aa,eq_comm,decide_eq_false_iff_not];omega)
 rw[hr]at e
 subst e
 exact hQ _ _ (.b rfl rfl)
theorem Y5{h:Az}(hk:Ci h=true):0<(A7 h).size:=by
 unfold A7
 rw[if_pos hk,ByteArray.size_append]
 have:0<(XcA h).size:=by
  unfold XcA
  simp only[ByteArray.size_append,A4,List.length_cons]
  omega
 omega
theorem XeZ{o:ByteArray}(hl:l.map cS=xl)(hn:l.length<2^40)(hr:Bh (⟨hver,hstr,hbas,hlin⟩:Az) l=o):Fn Tryz.prog 206 [.agg [I hver,I hstr,I hbas,I hlin],.d (.row 1 xl)] [] ⟨S o,[],[]⟩:=by
 refine Fn.go Nh Tryz.func206 fun P hP Q hQ=>?_
 conv=>cbv
 generalize ag:Ci (⟨hver,hstr,hbas,hlin⟩:Az)=r1
 refine .dd hP (Y8 ag) ?_
 cases r1
 conv=>cbv
 have e:(tx [])=Bh (⟨hver,hstr,hbas,hlin⟩:Az) l:=(by unfold Bh;rw[if_neg];rintro⟨q,_⟩;rw[ag]at q;cases q)
 rw[hr]at e
 subst e
 exact hQ _ _ (.s rfl rfl)
 conv=>cbv
 refine .go hl fun v2 bk=>?_
 conv=>cbv
 refine .gtr (fun h3=>?_) fun h3=>?_
 conv=>cbv
 have e:(tx [])=Bh (⟨hver,hstr,hbas,hlin⟩:Az) l:=(by unfold Bh;rw[if_neg];rintro⟨_,q,_⟩;omega)
 rw[hr]at e
 subst e
 exact hQ _ _ (.s rfl rfl)
 conv=>cbv
 refine .go hl fun v4 bl=>?_
 conv=>cbv
 have hh:=Dw ag
 refine .add fun v5 bm=>?_
 conv=>cbv
 generalize aq:Bl v5=r6
 refine .dd hP (F3 aq) ?_
 cases r6
 simp only[Bl,decide_eq_true_eq,decide_eq_false_iff_not]at aq
 conv=>cbv
 have e:(tx [])=Bh (⟨hver,hstr,hbas,hlin⟩:Az) l:=(by unfold Bh;rw[if_neg];rintro⟨_,_,q,_⟩;simp only[]at q;omega)
 rw[hr]at e
 subst e
 exact hQ _ _ (.s rfl rfl)
 simp only[Bl,decide_eq_true_eq,decide_eq_false_iff_not]at aq
 conv=>cbv
 generalize an:B2 l=r7
 refine .dd hP (Lc hl (by omega) an) ?_
 cases r7
 conv=>cbv
 generalize ah:A7 (⟨hver,hstr,hbas,hlin⟩:Az)=r8
 have zr8:=Gj ah
 refine .dd hP (Xk ah) ?_
 conv=>cbv
 have zp:=Y5 ag;rw[ah]at zp
 obtain⟨nb9,hnb9⟩:∃m,([]:List UInt8).length+r8.size=m:=⟨_,rfl⟩
 obtain⟨b9,ar⟩:∃m,[]++r8.data.toList=m:=⟨_,rfl⟩
 obtain⟨kb9,a1⟩:∃m,(r8.size:Int)=m:=⟨_,rfl⟩
 have lb9:nb9=b9.length:=by rw[←ar,List.length_append,Array.length_toList];exact hnb9.symm
 refine .bx [3,1] [1] hP (Xd0 rfl (by first|omega|(simp;omega)) hnb9 ar a1) rfl rfl rfl rfl ?_
 conv=>cbv
 refine .go hl fun bn bf=>?_
 conv=>cbv
 refine LoopW.lp (κ:=Int×(List UInt8)×Nat×(List (List D))×Nat) Nh hP [4,5] [2,5,35,36] (fun(aa,ab,ac,ae,af)=>[(6,.ref 7 0 af),(37,I aa)]) (fun(aa,ab,ac,ae,af)=>[(3,.box 216 [.ptr 3 0 0,.ref 6 0 ac]),(6,.buf 5 false ab),(7,.row 1 false ae)])
  (fun(aa,ab,ac,ae,af)=>∃(w7:List Int),ac=ab.length∧w7.map cI=ae∧af=w7.length∧0≤aa∧aa≤l.length∧ab=r8.data.toList++Cg hver hbas (l.take aa.toNat)∧w7=Ez hver hbas r8.size (l.take aa.toNat))
  (fun(aa,ab,ac,ae,af)=>(l.length - aa).toNat) (0,b9,nb9,[],0) ⟨[],lb9,rfl,rfl,by omega,by omega,by rw[←ar];simp[Cg],by simp[Ez]⟩ ⟨rfl,rfl,trivial⟩ rfl ?_
 rintro⟨aa,ab,ac,ae,af⟩ J ⟨w7,ao,au,bg,h0,h1,hz,hw⟩ hJ
 have q1:=@Iu hver (l.take aa.toNat) hbas
 have q2:(l.take aa.toNat).length=aa.toNat:=by rw[List.length_take];omega
 have q4:ab.length=r8.size+(Cg hver hbas (l.take aa.toNat)).length:=by rw[hz,List.length_append,Array.length_toList];rfl
 have q5:w7.length=aa.toNat:=by rw[hw,Jr,q2]
 conv=>cbv
 refine .lss (fun h11=>?_) fun h11=>?_
 conv=>cbv
 refine .go aa.toNat hl fun ba aw ap=>?_
 conv=>cbv
 obtain⟨kb13,ad⟩:∃m,((ac:Nat):Int)=m:=⟨_,rfl⟩
 refine .bx [3,6] [6] hP (Xk0 (bs:=ab) ad) rfl rfl rfl rfl ?_
 conv=>cbv
 refine .one kb13 au rfl fun a2 bb bc a6=>?_
 conv=>cbv
 have ze:=XaX an aw (ap▸List.getElem_mem _)
 refine .add fun a7 bh=>?_
 conv=>cbv
 generalize ai:Ai hver a7 aw=ax
 have zr16:=Eb ai
 refine .dd hP (O5 (by omega) ai) ?_
 conv=>cbv
 obtain⟨nb17,hnb17⟩:∃m,(ab:List UInt8).length+ax.size=m:=⟨_,rfl⟩
 obtain⟨ay,aj⟩:∃m,ab++ax.data.toList=m:=⟨_,rfl⟩
 obtain⟨kb17,az⟩:∃m,(ax.size:Int)=m:=⟨_,rfl⟩
 have lb17:nb17=ay.length:=by rw[←aj,List.length_append,Array.length_toList];exact hnb17.symm
 refine .bx [3,6] [6] hP (Xea ao (by first|omega|(simp;omega)) hnb17 aj az) rfl rfl rfl rfl ?_
 conv=>cbv
 refine .add fun ak bi=>?_
 conv=>cbv
 have t1:ak.toNat=aa.toNat+1:=by omega
 have t2:l.take ak.toNat=l.take aa.toNat++[aw]:=by rw[t1,ap,List.take_append_getElem]
 have t4:ay=r8.data.toList++Cg hver hbas (l.take ak.toNat):=by rw[←aj,hz,t2,M9,q2,List.append_assoc,show hbas+((aa.toNat:Nat):Int)=a7 by omega,ai]
 have t5:w7++[kb13]=Ez hver hbas r8.size (l.take ak.toNat):=by rw[t2,Rt,←hw,show kb13=(r8.size:Int)+((Cg hver hbas (l.take aa.toNat)).length:Int)by omega]
 exact .go [10,9] (ak,ay,nb17,bb,a2) (hJ _ ⟨_,D4,a6,D4,by omega,by omega,t4,t5⟩ mlt)
 conv=>cbv
 obtain⟨bd,al⟩:∃m,tx ab=m:=⟨_,rfl⟩
 have zb12:bd.size=ab.length:=by rw[←al,A4]
 refine .bx [3,6] [6] hP (XdE (x:=.ptr 0 0 0) ao (by intro e;rw[e]at q4;simp at q4;omega) (by first|omega|(simp;omega)) al) rfl rfl rfl rfl ?_
 conv=>cbv
 obtain⟨kb13,ad⟩:∃m,((ac:Nat):Int)=m:=⟨_,rfl⟩
 refine .bx [3,6] [6] hP (Xk0 (bs:=ab) ad) rfl rfl rfl rfl ?_
 conv=>cbv
 generalize am:Bu (⟨hver,hstr,hbas,hlin⟩:Az) w7 kb13=bo
 have zr14:=Ut am
 refine .lnt hP (XeS au (by omega) (fun x hx=>by rw[hw]at hx;have:=Q3 (k:=(r8.size:Int)) (by omega) x hx;exact⟨by omega,by omega⟩) (by omega) am) (.agg (.d rfl (.d rfl (.d rfl (.d rfl .nil)))) (.ref rfl (by rw[←au,List.length_map];first|omega|(simp;omega)) (.d rfl .nil))) ?_
 conv=>cbv
 refine .go fun be a8 bj=>?_
 conv=>cbv
 have t0:l.take aa.toNat=l:=List.take_of_length_le (by omega)
 have e1:Oj ⟨hver,hstr,hbas,hlin⟩ l=ab:=by unfold Oj;rw[ah,hz,t0]
 have e2:Ez hver hbas r8.size l=w7:=by rw[hw,t0]
 have e:be=Bh (⟨hver,hstr,hbas,hlin⟩:Az) l:=(by unfold Bh;rw[if_pos ⟨ag,by omega,by simp only[];omega,XaX an⟩,e1,ah,a8,←al,←am,←e2];show _=tx ab++Bu _ (Ez hver hbas r8.size l) ab.length;congr 2;omega)
 rw[hr]at e
 subst e
 exact hQ _ _ (.s rfl rfl)
 conv=>cbv
 have e:(tx [])=Bh (⟨hver,hstr,hbas,hlin⟩:Az) l:=(by unfold Bh;rw[if_neg];rintro⟨_,_,_,q⟩;exact Xhc an q)
 rw[hr]at e
 subst e
 exact hQ _ _ (.s rfl rfl)
theorem Lh{o:ByteArray}(hl:l.map cS=xl)(hn:l.length<2^40)(hr:Bh (⟨hver,hstr,hbas,hlin⟩:Az) l=o):Fn Tryz.prog 28 [.agg [I hver,I hstr,I hbas,I hlin],.d (.row 1 xl)] [] ⟨S o,[],[]⟩:=by
 refine Fn.go Nh Tryz.func28 fun P hP Q hQ=>?_
 conv=>cbv
 generalize aj:Ci (⟨hver,hstr,hbas,hlin⟩:Az)=r1
 refine .dd hP (Ys aj) ?_
 cases r1
 conv=>cbv
 have e:(tx [])=Bh (⟨hver,hstr,hbas,hlin⟩:Az) l:=(by unfold Bh;rw[if_neg];rintro⟨q,_⟩;rw[aj]at q;cases q)
 rw[hr]at e
 subst e
 exact hQ _ _ (.s rfl rfl)
 conv=>cbv
 refine .go hl fun v2 bt=>?_
 conv=>cbv
 refine .gtr (fun h3=>?_) fun h3=>?_
 conv=>cbv
 have e:(tx [])=Bh (⟨hver,hstr,hbas,hlin⟩:Az) l:=(by unfold Bh;rw[if_neg];rintro⟨_,q,_⟩;omega)
 rw[hr]at e
 subst e
 exact hQ _ _ (.s rfl rfl)
 conv=>cbv
 refine .go hl fun v4 bu=>?_
 conv=>cbv
 have hh:=Dw aj
 refine .add fun v5 bv=>?_
 conv=>cbv
 refine .gtr (fun h6=>?_) fun h6=>?_
 conv=>cbv
 have e:(tx [])=Bh (⟨hver,hstr,hbas,hlin⟩:Az) l:=(by unfold Bh;rw[if_neg];rintro⟨_,_,q,_⟩;simp only[]at q;omega)
 rw[hr]at e
 subst e
 exact hQ _ _ (.s rfl rfl)
 conv=>cbv
 generalize ak:A7 (⟨hver,hstr,hbas,hlin⟩:Az)=r7
 have zr7:=Gj ak
 refine .dd hP (Rf ak) ?_
 conv=>cbv
 refine .go fun a2 z8 bi a6=>?_
 conv=>cbv
 refine LoopW.lp (κ:=Int×(List (List D))×Nat×(List (List D))×Nat) Nh hP [1,2] [1,2] (fun(i7,aa,ab,ac,ad)=>[(5,.ref 3 0 ab),(6,.ref 4 0 ad),(7,I i7)]) (fun(i7,aa,ab,ac,ad)=>[(3,.row 1 false aa),(4,.row 1 false ac)])
  (fun(i7,aa,ab,ac,ad)=>∃(w3:List UInt8) (w4:List Int),w3.map cB=aa∧ab=w3.length∧w4.map cI=ac∧ad=w4.length∧0≤i7∧i7≤l.length∧w3=r7.data.toList++Cg hver hbas (l.take i7.toNat)∧w4=Ez hver hbas r7.size (l.take i7.toNat)∧∀r∈l.take i7.toNat,r.size≤60)
  (fun(i7,aa,ab,ac,ad)=>(l.length - i7).toNat) (0,z8,a2,[],0) ⟨r7.data.toList,[],a6,(by first|omega|(simp;omega)),rfl,rfl,by omega,by omega,by simp[Cg],by simp[Ez],by simp⟩ ⟨rfl,rfl,rfl,trivial⟩ rfl ?_
 rintro⟨i7,aa,ab,ac,ad⟩ J ⟨w3,w4,aq,bj,al,bk,h0,h1,hz,hw,am⟩ hJ
 have q1:=@Iu hver (l.take i7.toNat) hbas
 have q2:(l.take i7.toNat).length=i7.toNat:=by rw[List.length_take];omega
 have q4:w3.length=r7.size+(Cg hver hbas (l.take i7.toNat)).length:=by rw[hz,List.length_append,Array.length_toList];rfl
 have q5:w4.length=i7.toNat:=by rw[hw,Jr,q2]
 conv=>cbv
 refine .go hl fun v9 bw=>?_
 conv=>cbv
 refine .lss (fun h10=>?_) fun h10=>?_
 conv=>cbv
 refine .go i7.toNat hl fun a7 a8 af=>?_
 conv=>cbv
 refine .go fun bz bl=>?_
 conv=>cbv
 refine .gtr (fun h13=>?_) fun h13=>?_
 conv=>cbv
 have e:(tx [])=Bh (⟨hver,hstr,hbas,hlin⟩:Az) l:=(by unfold Bh;rw[if_neg];rintro⟨_,_,_,q⟩;have:=q a8 (af▸List.getElem_mem _);omega)
 rw[hr]at e
 subst e
 exact hQ _ _ (.s rfl rfl)
 conv=>cbv
 refine .go fun an bm=>?_
 conv=>cbv
 refine .one an al rfl fun ar ba bb au=>?_
 conv=>cbv
 refine .add fun aw bn=>?_
 conv=>cbv
 refine .go i7.toNat hl fun bc ao ag=>?_
 conv=>cbv
 have b0:ao.size≤60:=by rw[ag,←af];omega
 generalize ah:Ai hver aw ao=bd
 have zr18:=Eb ah
 refine .dd hP (Lz (by omega) ah) ?_
 conv=>cbv
 refine .str aq fun ax be bf ay=>?_
 conv=>cbv
 refine .add fun ae bo=>?_
 conv=>cbv
 have t1:ae.toNat=i7.toNat+1:=by omega
 have t2:l.take ae.toNat=l.take i7.toNat++[ao]:=by rw[t1,ag,List.take_append_getElem]
 have t4:w3++bd.data.toList=r7.data.toList++Cg hver hbas (l.take ae.toNat):=by rw[hz,t2,M9,q2,List.append_assoc,show hbas+((i7.toNat:Nat):Int)=aw by omega,ah]
 have t5:w4++[an]=Ez hver hbas r7.size (l.take ae.toNat):=by rw[t2,Rt,←hw,show an=(r7.size:Int)+((Cg hver hbas (l.take i7.toNat)).length:Int)by omega]
 have t6:∀r∈l.take ae.toNat,r.size≤60:=by rw[t2];intro r hr';rcases List.mem_append.1 hr' with h|h;exact am r h;rw[List.mem_singleton.1 h,ag,←af];omega
 exact .go [7,6] (ae,be,ax,ba,ar) (hJ _ ⟨_,_,ay,D4,au,D4,by omega,by omega,t4,t5,t6⟩ mlt)
 conv=>cbv
 refine .go fun bg bp=>?_
 conv=>cbv
 generalize ai:Bu (⟨hver,hstr,hbas,hlin⟩:Az) w4 bg=b2
 have zr12:=Ut ai
 refine .lnt hP (XeM al (by omega) (fun x hx=>by rw[hw]at hx;have:=Q3 (k:=(r7.size:Int)) (by omega) x hx;exact⟨by omega,by omega⟩) (by omega) ai) (.agg (.d rfl (.d rfl (.d rfl (.d rfl .nil)))) (.ref rfl (by rw[←al,List.length_map];first|omega|(simp;omega)) (.d rfl .nil))) ?_
 conv=>cbv
 refine .str aq fun bq b3 ap az=>?_
 conv=>cbv
 refine .go az (hn:=by rw[ap,List.length_append,Array.length_toList];rfl) fun bh a1=>?_
 conv=>cbv
 have t0:l.take i7.toNat=l:=List.take_of_length_le (by omega)
 have e1:Oj ⟨hver,hstr,hbas,hlin⟩ l=w3:=by unfold Oj;rw[ak,hz,t0]
 have e2:Ez hver hbas r7.size l=w4:=by rw[hw,t0]
 rw[t0]at am
 have e:bh=Bh (⟨hver,hstr,hbas,hlin⟩:Az) l:=(by unfold Bh;rw[if_pos ⟨aj,by omega,by simp only[];omega,am⟩,e1,ak,a1,←C6,Pb,←ai,←e2];show _=tx w3++Bu _ (Ez hver hbas r7.size l) w3.length;congr 2;omega)
 rw[hr]at e
 subst e
 exact hQ _ _ (.s rfl rfl)
end
section
open Go Go.Proofs
set_option maxRecDepth 20000
set_option maxHeartbeats 4000000
def Xbl:List (Nat×TyRow):=[ty4,ty9,Zy,XfJ,Xku]
theorem XaQ:B3 Tryz.prog Xbl:=B3.of (by kernel_rfl)
theorem Q0:Setup Tryz.prog Xbl:=⟨XaQ,mixed⟩
def By(b:ByteArray):Az×List ByteArray×Bool:=
 if(Ac b).ok_=true∧(Ac b).marked_=true∧Bh (Ac b).head_ (Ac b).records_=b then((Ac b).head_,(Ac b).records_,true)else(⟨0,0,0,0⟩,[],false)
def A2(b:ByteArray):Bool:=(By b).2.2
def C4(b:ByteArray):Int:=if A2 b=true then(Sc b).size else 0
theorem Z5:∀(k:Nat) {h:Az} {b:ByteArray} {n:Nat} {p:Int},(b.size - p).toNat≤k→0≤p∧p≤b.size→
  (Ek h b n p).2.2.1=p+(Cg h.version_ (h.base_+n) (Ek h b n p).1).length∧(Ek h b n p).2.2.2=Db h.version_ (h.base_+n+(Ek h b n p).1.length) b (Ek h b n p).2.2.1
 |k,h,b,n,p,hk,hp=>by
  cases hm:Db h.version_ (h.base_+n) b p
  ·rcases hf:Ap h.version_ (h.base_+n) b p with⟨r,q,ok⟩
   cases ok
   ·rw[H5 hm hf]
    exact⟨by simp[Cg],by simp[hm]⟩
   ·have h2:=E7 hf
    rw[H9 hm hf]
    cases k with
    |zero=>omega
    |succ k=>
     obtain⟨i1,i2⟩:=Z5 k (h:=h) (b:=b) (n:=n+1) (p:=q) (by omega) (by omega)
     have e:(Ai h.version_ (h.base_+n) r).data.toList.length=(Ai h.version_ (h.base_+n) r).size:=Array.length_toList
     have e2:h.base_+((n+1:Nat):Int)=h.base_+n+1:=by omega
     rw[e2]at i1 i2
     refine⟨?_,?_⟩
     ·show(Ek h b (n+1) q).2.2.1=_
      rw[i1,Cg,List.length_append,e]
      omega
     ·show(Ek h b (n+1) q).2.2.2=_
      rw[i2,List.length_cons]
      congr 1
      omega
  ·rw[H3 hm]
   exact⟨by simp[Cg],by simp[hm]⟩
theorem X5:∀(k:Nat) {h:Az} {b:ByteArray} {n:Nat} {p:Int},(b.size - p).toNat≤k→0≤p∧p≤b.size→p+(Ek h b n p).1.length≤b.size
 |k,h,b,n,p,hk,hp=>by
  cases hm:Db h.version_ (h.base_+n) b p
  ·rcases hf:Ap h.version_ (h.base_+n) b p with⟨r,q,ok⟩
   cases ok
   ·rw[H5 hm hf]
    simpa using hp.2
   ·have h2:=E7 hf
    rw[H9 hm hf]
    cases k with
    |zero=>omega
    |succ k=>
     have ih:=X5 k (h:=h) (b:=b) (n:=n+1) (p:=q) (by omega) (by omega)
     rw[List.length_cons]
     omega
  ·rw[H3 hm]
   simpa using hp.2
theorem Dh{b:ByteArray}:(Ac b).records_.length≤b.size:=by
 unfold Ac
 split
 ·rename_i h e
  have h2:=Cu e
  have:=X5 _ (h:=h) (b:=b) (n:=0) (p:=24) (Nat.le_refl _) (by omega)
  show(Ek h b 0 24).1.length≤_
  omega
 ·simp
theorem XaZ{v:Int}:∀{l:List ByteArray} {p k:Int},∀x∈Ez v p k l,k≤x
 |[],_,_,x,hx=>by simp[Ez]at hx
 |y::l,p,k,x,hx=>by
  rw[Ez,List.mem_cons]at hx
  rcases hx with rfl|hx
  ·omega
  ·have:=XaZ x hx
   omega
theorem Xaj{v:Int}:∀{l:List ByteArray} {p k:Int},(Ez v p k l).Pairwise (·≤·)
 |[],_,_=>by rw[Ez];exact .nil
 |y::l,p,k=>by
  rw[Ez,List.pairwise_cons]
  refine⟨fun x hx=>?_,Xaj⟩
  have:=XaZ x hx
  omega
theorem Xjz{s n:Nat}{offs:List Int}(h:offs.Pairwise (·≤·))(hn:n≤offs.length):(Ws s offs n).Pairwise (fun a b=>a.count_≤b.count_∧a.at_≤b.at_):=by
 unfold Ws
 rw[List.pairwise_map]
 refine List.Pairwise.imp_of_mem ?_ (List.Pairwise.filter _ List.pairwise_lt_range)
 intro i j hi hj hij
 have aa:=List.mem_range.1 (List.mem_filter.1 hi).1
 have ab:=List.mem_range.1 (List.mem_filter.1 hj).1
 refine⟨by show(i:Int)≤(j:Int);omega,?_⟩
 show offs.getD i 0≤offs.getD j 0
 rw[←Se (show i<offs.length by omega),←Se (show j<offs.length by omega)]
 exact List.pairwise_iff_getElem.1 h i j _ _ hij
theorem XaK{a b:Int}(h:b≤a)(h2:a - b≤1000000000):Gg a b≠tx []:=by
 unfold Gg B7
 rw[if_pos ⟨h,h2⟩,if_pos (by omega)]
 intro e
 have:=congrArg ByteArray.size e
 rw[A4,A4]at this
 exact Vk _ (List.eq_nil_of_length_eq_zero this)
theorem Xan:∀{l:List Cx} {q:Int×Int},l.Pairwise (fun a b=>a.count_≤b.count_∧a.at_≤b.at_)→(∀p∈l,(q.1≤p.count_∧p.count_≤1000000000)∧q.2≤p.at_∧p.at_≤1000000000)→0≤q.1→0≤q.2→∃t,Hn q l=some t
 |[],q,_,_,_,_=>⟨_,rfl⟩
 |p::l,q,hp,hb,h1,h2=>by
  rw[List.pairwise_cons]at hp
  have aa:=hb p List.mem_cons_self
  obtain⟨t,ht⟩:=Xan (q:=(p.count_,p.at_)) hp.2 (fun x hx=>by
   have a1:=hp.1 x hx
   have a2:=hb x (List.mem_cons_of_mem _ hx)
   exact⟨⟨a1.1,a2.1.2⟩,a1.2,a2.2.2⟩) (by show 0≤p.count_;omega) (by show 0≤p.at_;omega)
  simp only[Hn]
  rw[if_neg (by
   intro h
   rcases h with h|h
   ·exact XaK (by omega) (by omega) h
   ·exact XaK (by omega) (by omega) h),ht]
  exact⟨_,rfl⟩
theorem Xg2{s:Int}{offs:List Int}(h:offs.Pairwise (·≤·))(hb:∀x∈offs,0≤x∧x≤1000000000)(hl:offs.length≤1000):Bn (A9 s offs)≠tx []:=by
 have hlen:=@Gq s offs
 have key:∃t,Hn (0,0) (A9 s offs)=some t:=by
  unfold A9
  split
  ·exact⟨_,rfl⟩
  ·refine Xan (Xjz h (Nat.le_refl _)) ?_ (Int.le_refl _) (Int.le_refl _)
   intro p hp
   unfold Ws at hp
   obtain⟨i,hi,rfl⟩:=List.mem_map.1 hp
   have aa:=List.mem_range.1 (List.mem_filter.1 hi).1
   have:=hb _ (List.getElem_mem aa)
   rw[Se aa]at this
   exact⟨⟨by show(0:Int)≤(i:Int);omega,by show(i:Int)≤_;omega⟩,this⟩
 obtain⟨t,ht⟩:=key
 unfold Bn
 rw[ht]
 show B7 _++t≠tx []
 intro e
 have e2:=congrArg ByteArray.size e
 unfold B7 at e2
 rw[if_pos (by omega),ByteArray.size_append,A4,A4]at e2
 have:=List.length_pos_iff.2 (Vk (A9 s offs).length)
 simp only[List.length_nil]at e2
 have e3:((A9 s offs).length:Int).toNat=(A9 s offs).length:=by omega
 rw[e3]at e2
 omega
theorem Y7{n:Int}(h:0≤n∧n<4294967296):Ao n 4≠tx []:=by
 intro e
 have:=M6 n h
 rw[e,A4]at this
 simp at this
theorem XeW{a b c d:Int}(ha:0≤a∧a<4294967296)(hb:0≤b∧b<4294967296)(hc:0≤c∧c<4294967296)(hd:0≤d∧d<4294967296):Bc a b c d≠tx []:=by
 unfold Bc
 simp only[Iq,if_neg (Y7 ha),if_neg (Y7 hb),if_neg (Y7 hc),if_neg (Y7 hd)]
 intro e
 have:=congrArg ByteArray.size e
 rw[ByteArray.size_append,A4,A4]at this
 simp at this
theorem XhG{v n:Int}(hv:v=1∨v=2)(hn:0≤n∧n≤1000000000):B8 v n≠tx []:=by
 unfold B8
 rw[if_pos ⟨hv,hn⟩]
 intro e
 have:=congrArg ByteArray.size e
 split at this
 ·simp[A4]at this
 ·unfold Mt at this
  rw[ByteArray.size_append,M6 _ (by omega),A4]at this
  simp at this
theorem XjA{h:Az}{l:List ByteArray}(hk:Ci h=true)(hl:l.length≤1000)(hb:h.base_+l.length≤1000000000):∃y,Bu h (Ez h.version_ h.base_ (A7 h).size l) (Oj h l).length=B8 h.version_ (h.base_+l.length)++y:=by
 obtain⟨v,s,bs,lk⟩:=h
 have hh:=Dw hk
 have h2:=Gj (rfl:A7 ⟨v,s,bs,lk⟩=_)
 have h3:=@Iu v l bs
 have e:(A7 ⟨v,s,bs,lk⟩).data.size=(A7 ⟨v,s,bs,lk⟩).size:=rfl
 have h4:(Oj ⟨v,s,bs,lk⟩ l).length=(A7 ⟨v,s,bs,lk⟩).size+(Cg v bs l).length:=by unfold Oj;rw[List.length_append,Array.length_toList];rfl
 unfold Bu
 simp only[]at*
 rw[Jr,if_pos ⟨hk,XhG (by omega) (by omega),Xg2 Xaj (fun x hx=>by have:=Q3 (by omega) x hx;omega) (by rw[Jr];exact hl),XeW (by omega) (by omega) (by omega) (by omega)⟩]
 exact⟨_,by rw[ByteArray.append_assoc,ByteArray.append_assoc]⟩
theorem Xha{h:Az}{b:ByteArray}(e:A0 b=(h,true)):(A7 h).size=24:=by
 have:=Cu e
 rw[this.2.1,Qc (by omega) (by omega)]
theorem Xfk{l:List UInt8}{m y:ByteArray}:(tx l++(m++y)).extract l.length (l.length+m.size)=m:=by
 rw[Xa6,←Pb m,←Pb y,C6,C6,Rh,Nat.add_sub_cancel_left,List.drop_left,A4,List.take_left]
theorem XcL{b:ByteArray}(h1:(Ac b).ok_=true)(h2:Bh (Ac b).head_ (Ac b).records_=b):(Ac b).marked_=true:=by
 rcases e:A0 b with⟨h,ok⟩
 cases ok
 ·unfold Ac at h1
  rw[e]at h1
  cases h1
 have hr:=Cu e
 have hs:=Xha e
 obtain⟨a1,a2⟩:=Z5 _ (h:=h) (b:=b) (n:=0) (p:=24) (Nat.le_refl _) (by omega)
 have hS:Ac b=⟨true,h,(Ek h b 0 24).1,(Ek h b 0 24).2.1,(Ek h b 0 24).2.2.1,(Ek h b 0 24).2.2.2⟩:=by unfold Ac;rw[e]
 rw[hS]at h2⊢
 simp only[]at h2⊢
 generalize(Ek h b 0 24).1=l at*
 generalize(Ek h b 0 24).2.2.1=fin at*
 rw[a2]
 have hc:Ci h=true∧l.length≤1000∧h.base_+l.length≤1000000000∧∀r∈l,r.size≤60:=by
  by_cases hc:Ci h=true∧l.length≤1000∧h.base_+l.length≤1000000000∧∀r∈l,r.size≤60
  ·exact hc
  ·unfold Bh at h2
   rw[if_neg hc]at h2
   rw[←h2,A4]at hr
   simp at hr
 obtain⟨y,hy⟩:=XjA hc.1 hc.2.1 hc.2.2.1
 have h3:b=tx (Oj h l)++(B8 h.version_ (h.base_+l.length)++y):=by
  rw[←hy]
  unfold Bh at h2
  rw[if_pos hc]at h2
  exact h2.symm
 have e0:h.base_+((0:Nat):Int)=h.base_:=by omega
 rw[e0]at a1⊢
 have h4:((Oj h l).length:Int)=fin:=by
  rw[a1]
  unfold Oj
  rw[List.length_append,Array.length_toList]
  have e:(A7 h).data.size=(A7 h).size:=rfl
  omega
 have hv:(h.version_=1∨h.version_=2)∧0≤h.base_∧h.base_≤1000000000:=by
  obtain⟨v,s,bs,lk⟩:=h
  have:=Dw hc.1
  simp only[]
  omega
 unfold Db F6
 have hb:=congrArg ByteArray.size h3
 rw[ByteArray.size_append,ByteArray.size_append,A4]at hb
 simp only[Bool.and_eq_true,decide_eq_true_eq]
 refine⟨XhG hv.1 (by omega),⟨by omega,by omega⟩,?_⟩
 rw[show fin.toNat=(Oj h l).length by omega]
 conv=>lhs;rw[h3]
 exact Xfk
variable {b:ByteArray} {oaver oastr oabas oalin:Int} {ob:List ByteArray} {xob:List (List D)} {oc o:Bool}
theorem Sl(hn:b.size<2^40)(hr:By b=(⟨oaver,oastr,oabas,oalin⟩,ob,oc))(hob:ob.map cS=xob):Fn Tryz.prog 158 [S b] [] ⟨.tup [.agg [I oaver,I oastr,I oabas,I oalin],.d (.row 1 xob),B oc],[],[]⟩:=by
 refine Fn.go Q0 Tryz.func158 fun P hP Q hQ=>?_
 conv=>cbv
 rcases ag:Ac b with⟨al,⟨aa,ab,ac,ad⟩,af,aj,ao,ak⟩
 generalize ae:af.map cS=am
 generalize ah:aj.map cI=an
 refine .dd hP (Jt (by omega) ag ae ah) ?_
 conv=>cbv
 cases al
 conv=>cbv
 have e:((⟨0,0,0,0⟩:Az),[],false)=By b:=(by unfold By;rw[ag];simp only[];rw[if_neg];rintro⟨q,_⟩;cases q)
 rw[hr]at e
 simp only[Prod.mk.injEq,Az.mk.injEq]at e
 obtain⟨⟨rfl,rfl,rfl,rfl⟩,rfl,rfl⟩:=e
 refine hQ _ _ ?_
 exact .many (.inl rfl) rfl rfl (.agg (.d rfl rfl (.d rfl rfl (.d rfl rfl (.d rfl rfl (.nil))))) (.ref rfl rfl (by rw[←hob];rfl) (.d rfl rfl (.nil))))
 conv=>cbv
 cases ak
 conv=>cbv
 have e:((⟨0,0,0,0⟩:Az),[],false)=By b:=(by unfold By;rw[ag];simp only[];rw[if_neg];rintro⟨_,q,_⟩;cases q)
 rw[hr]at e
 simp only[Prod.mk.injEq,Az.mk.injEq]at e
 obtain⟨⟨rfl,rfl,rfl,rfl⟩,rfl,rfl⟩:=e
 refine hQ _ _ ?_
 exact .many (.inl rfl) rfl rfl (.agg (.d rfl rfl (.d rfl rfl (.d rfl rfl (.d rfl rfl (.nil))))) (.ref rfl rfl (by rw[←hob];rfl) (.d rfl rfl (.nil))))
 conv=>cbv
 have zl:=Dh (b:=b)
 rw[ag]at zl
 simp only[]at zl
 generalize ai:Bh (⟨aa,ab,ac,ad⟩:Az) af=r2
 have zr2:=G5 ai
 refine .dd hP (Lh ae (by omega) ai) ?_
 conv=>cbv
 refine .neq (fun h3=>?_) fun h3=>?_
 conv=>cbv
 have e:((⟨0,0,0,0⟩:Az),[],false)=By b:=(by unfold By;rw[ag];simp only[];rw[if_neg];rintro⟨_,_,q⟩;exact h3 (ai.symm.trans q))
 rw[hr]at e
 simp only[Prod.mk.injEq,Az.mk.injEq]at e
 obtain⟨⟨rfl,rfl,rfl,rfl⟩,rfl,rfl⟩:=e
 refine hQ _ _ ?_
 exact .many (.inl rfl) rfl rfl (.agg (.d rfl rfl (.d rfl rfl (.d rfl rfl (.d rfl rfl (.nil))))) (.ref rfl rfl (by rw[←hob];rfl) (.d rfl rfl (.nil))))
 conv=>cbv
 have e:((⟨aa,ab,ac,ad⟩:Az),af,true)=By b:=(by unfold By;rw[ag];simp only[];rw[if_pos ⟨trivial,trivial,ai.trans h3⟩])
 rw[hr]at e
 simp only[Prod.mk.injEq,Az.mk.injEq]at e
 obtain⟨⟨rfl,rfl,rfl,rfl⟩,rfl,rfl⟩:=e
 refine hQ _ _ ?_
 exact .many (.inl rfl) rfl rfl (.agg (.d rfl rfl (.d rfl rfl (.d rfl rfl (.d rfl rfl (.nil))))) (.d rfl (Xgn ae hob) (.d rfl rfl (.nil))))
theorem Xb0(hn:b.size<2^40)(hr:By b=(⟨oaver,oastr,oabas,oalin⟩,ob,oc))(hob:ob.map cS=xob):Fn Tryz.prog 149 [S b] [] ⟨.tup [.agg [I oaver,I oastr,I oabas,I oalin],.d (.row 1 xob),B oc],[],[]⟩:=by
 refine Fn.go Q0 Tryz.func149 fun P hP Q hQ=>?_
 conv=>cbv
 rcases af:Ac b with⟨al,⟨aa,ab,ac,ad⟩,ag,aj,ao,ak⟩
 generalize ae:ag.map cS=am
 generalize ai:aj.map cI=an
 refine .dd hP (Lo (by omega) af ae ai) ?_
 conv=>cbv
 cases al
 conv=>cbv
 have e:((⟨0,0,0,0⟩:Az),[],false)=By b:=(by unfold By;rw[af];simp only[];rw[if_neg];rintro⟨q,_⟩;cases q)
 rw[hr]at e
 simp only[Prod.mk.injEq,Az.mk.injEq]at e
 obtain⟨⟨rfl,rfl,rfl,rfl⟩,rfl,rfl⟩:=e
 refine hQ _ _ ?_
 exact .many (.inl rfl) rfl rfl (.agg (.d rfl rfl (.d rfl rfl (.d rfl rfl (.d rfl rfl (.nil))))) (.ref rfl rfl (by rw[←hob];rfl) (.d rfl rfl (.nil))))
 conv=>cbv
 have zl:=Dh (b:=b)
 rw[af]at zl
 simp only[]at zl
 generalize ah:Bh (⟨aa,ab,ac,ad⟩:Az) ag=r2
 have zr2:=G5 ah
 refine .dd hP (XeZ ae (by omega) ah) ?_
 conv=>cbv
 refine .neq (fun h3=>?_) fun h3=>?_
 conv=>cbv
 have e:((⟨0,0,0,0⟩:Az),[],false)=By b:=(by unfold By;rw[af];simp only[];rw[if_neg];rintro⟨_,_,q⟩;exact h3 (ah.symm.trans q))
 rw[hr]at e
 simp only[Prod.mk.injEq,Az.mk.injEq]at e
 obtain⟨⟨rfl,rfl,rfl,rfl⟩,rfl,rfl⟩:=e
 refine hQ _ _ ?_
 exact .many (.inl rfl) rfl rfl (.agg (.d rfl rfl (.d rfl rfl (.d rfl rfl (.d rfl rfl (.nil))))) (.ref rfl rfl (by rw[←hob];rfl) (.d rfl rfl (.nil))))
 conv=>cbv
 have hm:ak=true:=by
  have:=XcL (b:=b) (by rw[af]) (by rw[af];exact ah.trans h3)
  rw[af]at this
  exact this
 have e:((⟨aa,ab,ac,ad⟩:Az),ag,true)=By b:=(by unfold By;rw[af];simp only[];rw[if_pos ⟨trivial,hm,ah.trans h3⟩])
 rw[hr]at e
 simp only[Prod.mk.injEq,Az.mk.injEq]at e
 obtain⟨⟨rfl,rfl,rfl,rfl⟩,rfl,rfl⟩:=e
 refine hQ _ _ ?_
 exact .many (.inl rfl) rfl rfl (.agg (.d rfl rfl (.d rfl rfl (.d rfl rfl (.d rfl rfl (.nil))))) (.d rfl (Xgn ae hob) (.d rfl rfl (.nil))))
theorem N7(hn:b.size<2^40)(hr:A2 b=o):Fn Tryz.prog 72 [S b] [] ⟨B o,[],[]⟩:=by
 refine Fn.go Q0 Tryz.func72 fun P hP Q hQ=>?_
 conv=>cbv
 rcases aa:By b with⟨⟨ac,ad,ae,af⟩,ag,ah⟩
 generalize ab:ag.map cS=ai
 refine .dd hP (Xb0 (by omega) aa ab) ?_
 conv=>cbv
 have e:ah=A2 b:=(by unfold A2;rw[aa])
 rw[hr]at e
 subst e
 exact hQ _ _ (.b rfl rfl)
theorem Ro(hn:b.size<2^40)(hr:A2 b=o):Fn Tryz.prog 80 [S b] [] ⟨B o,[],[]⟩:=by
 refine Fn.go Q0 Tryz.func80 fun P hP Q hQ=>?_
 conv=>cbv
 rcases aa:By b with⟨⟨ac,ad,ae,af⟩,ag,ah⟩
 generalize ab:ag.map cS=ai
 refine .dd hP (Sl (by omega) aa ab) ?_
 conv=>cbv
 have e:ah=A2 b:=(by unfold A2;rw[aa])
 rw[hr]at e
 subst e
 exact hQ _ _ (.b rfl rfl)
theorem Pf{o:Int}(hn:b.size<2^40)(hr:C4 b=o):Fn Tryz.prog 17 [S b] [] ⟨I o,[],[]⟩:=by
 refine Fn.go Q0 Tryz.func17 fun P hP Q hQ=>?_
 conv=>cbv
 generalize aa:A2 b=r1
 refine .dd hP (N7 (by omega) aa) ?_
 cases r1
 conv=>cbv
 have e:0=C4 b:=(by unfold C4;rw[aa];simp)
 rw[hr]at e
 subst e
 exact hQ _ _ (.i rfl rfl)
 conv=>cbv
 generalize ab:Sc b=r2
 refine .dd hP (XiO (by omega) ab) ?_
 conv=>cbv
 refine .go fun v3 ac=>?_
 conv=>cbv
 have e:v3=C4 b:=(by unfold C4;rw[aa,ab];simp only[if_true];omega)
 rw[hr]at e
 subst e
 exact hQ _ _ (.i rfl rfl)
end
section
open Go Go.Proofs
set_option maxRecDepth 20000
set_option maxHeartbeats 4000000
def Xdr:List (Nat×TyRow):=[ty3,ty9,XjO,XhS,Xb9,Xfc,Z9]
theorem Xcz:B3 Tryz.prog Xdr:=B3.of (by kernel_rfl)
theorem Fy:Setup Tryz.prog Xdr:=⟨Xcz,mixed⟩
def V2{α:Type}(p:α→Bool)(l:List α):Int:=if l.findIdx p<l.length then(l.findIdx p:Int)else -1
section
variable {α:Type} {p:α→Bool} {l:List α} {i:Int}
theorem O0(h0:0≤i)(hi:i.toNat<l.length)(h:p l[i.toNat]=true)(hb:∀(j:Nat) (hj:j<l.length),j<i.toNat→p l[j]=false):i=V2 p l:=by
 have e:l.findIdx p=i.toNat:=(List.findIdx_eq hi).2 ⟨h,fun j hji=>hb j (by omega) hji⟩
 unfold V2
 rw[e,if_pos hi]
 omega
theorem J3(hb:∀(j:Nat) (hj:j<l.length),p l[j]=false): -1=V2 p l:=by
 unfold V2
 rw[if_neg]
 intro hlt
 have:=List.findIdx_getElem (w:=hlt)
 rw[hb _ hlt]at this
 cases this
theorem Xf3(e:V2 p l=i): -1≤i∧i<l.length:=by
 rw[←e]
 unfold V2
 split<;>omega
theorem Tt(e:V2 p l=i)(h:0≤i):∃hi:i.toNat<l.length,p l[i.toNat]=true:=by
 unfold V2 at e
 split at e
 ·rename_i hlt
  have e2:i.toNat=l.findIdx p:=by omega
  refine⟨by omega,?_⟩
  have:=List.findIdx_getElem (w:=hlt)
  simpa only[e2]using this
 ·omega
theorem Xho(e:V2 p l=i)(h:i<0):∀x∈l,p x=false:=by
 unfold V2 at e
 split at e
 ·omega
 ·rename_i hlt
  intro x hx
  cases hp:p x
  ·rfl
  ·exact absurd (List.findIdx_lt_length_of_exists ⟨x,hx,hp⟩) hlt
end
def B1(e:Ad)(name:ByteArray):Bool:=decide (e.name_=name)
def D3(l:List Ad)(name:ByteArray):Int:=V2 (fun e=>B1 e name) l
def Aw(l:List Ad)(name:ByteArray):Int:=D3 l name
def Ej(n:Cs)(id:Int):Bool:=decide (n.id_=id)
def En(l:List Cs)(id:Int):Int:=V2 (fun n=>Ej n id) l
def Jv(d:Aa)(id:Int):Int:=En d.nodes_ id
def G4(d:Aa)(id:Int):Int:=Jv d id
def Co(l:List Ad)(name:ByteArray):Int:=if Aw l name<0 then 0 else(l.getD (Aw l name).toNat ⟨tx [],0⟩).id_
def Dr(l:List Ad)(name:ByteArray):Bool:=decide (0≤Aw l name)
def Cr(d:Aa)(name:ByteArray):Int:=if Aw d.entries_ name<0 then -1 else Jv d (Co d.entries_ name)
def Gf(d:Aa)(name:ByteArray):Cs×Bool:=if Cr d name<0 then(⟨0,tx [],0⟩,false)else(d.nodes_.getD (Cr d name).toNat ⟨0,tx [],0⟩,true)
def C5(d:Aa)(name:ByteArray):ByteArray×Bool:=((Gf d name).1.text_,(Gf d name).2)
def okD(d:Aa):Prop:=d.nodes_.length≤1000000000∧(∀n∈d.nodes_,n.text_.size≤1000000000)∧d.entries_.length≤1000000000∧(∀e∈d.entries_,e.name_.size≤1000000000)∧d.old_.length≤1000000000∧d.steps_.length≤1000000000
theorem gD{α:Type}{l:List α}{k:Nat}{d:α}(h:k<l.length):l[k]=l.getD k d:=by rw[List.getD_eq_getElem?_getD,List.getElem?_eq_getElem h];rfl
theorem Ps{l:List Ad}{name:ByteArray}{i:Int}(e:Aw l name=i): -1≤i∧i<l.length:=Xf3 e
theorem Xw{d:Aa}{id i:Int}(e:Jv d id=i): -1≤i∧i<d.nodes_.length:=Xf3 e
theorem Jp{d:Aa}{name:ByteArray}{i:Int}(e:Cr d name=i): -1≤i∧i<d.nodes_.length:=by
 unfold Cr at e
 split at e
 ·omega
 ·exact Xw e
theorem Mj{d:Aa}{name t:ByteArray}{ok:Bool}(hd:okD d)(e:C5 d name=(t,ok)):t.size≤1000000000:=by
 have e1:(Gf d name).1.text_=t:=congrArg Prod.fst e
 rw[←e1]
 unfold Gf
 split
 ·simp[A4]
 ·rename_i h
  have h2:=Jp (rfl:Cr d name=_)
  have h3:(Cr d name).toNat<d.nodes_.length:=by omega
  rw[←gD h3]
  exact hd.2.1 _ (List.getElem_mem h3)
theorem Pg{d:Aa}{name:ByteArray}:Gf d name=if G4 d (Co d.entries_ name)<0∨Dr d.entries_ name=false then(⟨0,tx [],0⟩,false)else(d.nodes_.getD (G4 d (Co d.entries_ name)).toNat ⟨0,tx [],0⟩,true):=by
 unfold Gf Cr G4 Dr
 by_cases h:Aw d.entries_ name<0
 ·rw[if_pos h,if_pos (by omega),if_pos (.inr (by simp;omega))]
 ·rw[if_neg h]
  by_cases h2:Jv d (Co d.entries_ name)<0
  ·rw[if_pos h2,if_pos (.inl h2)]
  ·rw[if_neg h2,if_neg]
   rintro(h3|h3)
   ·exact h2 h3
   ·simp at h3;omega
variable {name oatex oa:ByteArray} {o id Aq As oaid oasur:Int} {l Al An:List Ad} {xl Bj Be Bd Bf:List (List D)} {Ak:List Cs} {Am:List ByteArray} {ob:Bool}
theorem XcF{enam:ByteArray}{eid:Int}{o:Bool}(hr:B1 (⟨enam,eid⟩:Ad) name=o):Fn Tryz.prog 285 [.agg [S enam,I eid],.ptr 0 0 0] [.box 9 [S name]] ⟨B o,[],[]⟩:=by
 refine Fn.goR Fy Tryz.func285 fun P hP Q hQ=>?_
 conv=>cbv
 refine .eql (fun h1=>?_) fun h1=>?_
 conv=>cbv
 have e:true=B1 (⟨enam,eid⟩:Ad) name:=(by unfold B1;symm;rw[decide_eq_true_eq];exact h1)
 rw[hr]at e
 subst e
 exact hQ _ _ (.of [] (.inl rfl) rfl rfl rfl rfl)
 conv=>cbv
 have e:false=B1 (⟨enam,eid⟩:Ad) name:=(by unfold B1;symm;rw[decide_eq_false_iff_not];exact h1)
 rw[hr]at e
 subst e
 exact hQ _ _ (.of [] (.inl rfl) rfl rfl rfl rfl)
theorem U8{nid:Int}{ntex:ByteArray}{nsur:Int}{o:Bool}(hr:Ej (⟨nid,ntex,nsur⟩:Cs) id=o):Fn Tryz.prog 287 [.agg [I nid,S ntex,I nsur],.ptr 0 0 0] [.box 3 [I id]] ⟨B o,[],[]⟩:=by
 refine Fn.goR Fy Tryz.func287 fun P hP Q hQ=>?_
 conv=>cbv
 refine .eql (fun h1=>?_) fun h1=>?_
 conv=>cbv
 have e:true=Ej (⟨nid,ntex,nsur⟩:Cs) id:=(by unfold Ej;symm;rw[decide_eq_true_eq];exact h1)
 rw[hr]at e
 subst e
 exact hQ _ _ (.of [] (.inl rfl) rfl rfl rfl rfl)
 conv=>cbv
 have e:false=Ej (⟨nid,ntex,nsur⟩:Cs) id:=(by unfold Ej;symm;rw[decide_eq_false_iff_not];exact h1)
 rw[hr]at e
 subst e
 exact hQ _ _ (.of [] (.inl rfl) rfl rfl rfl rfl)
theorem M4(hl:l.map Ae=xl)(hn:l.length<2^40)(hr:D3 l name=o):Fn Tryz.prog 284 [.d (.row 2 xl),.clo 285 [.ptr 0 0 0]] [.box 9 [S name]] ⟨I o,[],[]⟩:=by
 refine Fn.goR Fy Tryz.func284 fun P hP Q hQ=>?_
 conv=>cbv
 refine .go hl fun v1 af=>?_
 conv=>cbv
 refine LoopW.lp (κ:=Int) Fy hP [] [0,1,7] (fun i8=>[(8,I i8)]) (fun i8=>[])
  (fun i8=>0≤i8∧i8≤l.length∧∀(j:Nat) (hj:j<l.length),j<i8.toNat→B1 l[j] name=false)
  (fun i8=>(l.length - i8).toNat) (0) ⟨by omega,by omega,fun j _ h=>by simp at h⟩ ⟨rfl,trivial⟩ rfl ?_
 rintro i8 J ⟨h0,h1,hb⟩ hJ
 conv=>cbv
 refine .lss (fun h2=>?_) fun h2=>?_
 conv=>cbv
 refine .go i8.toNat hl fun ae ⟨aa,ac⟩ ad=>?_
 conv=>cbv
 generalize ab:B1 (⟨aa,ac⟩:Ad) name=r4
 refine .bx [0] [] hP (XcF ab) rfl rfl rfl rfl ?_
 cases r4
 conv=>cbv
 refine .add fun v5 ag=>?_
 conv=>cbv
 exact .go [] (v5) (hJ _ ⟨by omega,by omega,fun j hj h=>if e:j=i8.toNat then by subst e;rw[←ad];exact ab else hb j hj (by omega)⟩ mlt)
 conv=>cbv
 have e:i8=D3 l name:=(by exact O0 (p:=fun x=>B1 x name) h0 (by omega) (ad▸ab) hb)
 rw[hr]at e
 subst e
 exact hQ _ _ (.of [] (.inl rfl) rfl rfl rfl rfl)
 conv=>cbv
 have e:(-1)=D3 l name:=(by exact J3 (p:=fun x=>B1 x name) fun j hj=>hb j hj (by omega))
 rw[hr]at e
 subst e
 exact hQ _ _ (.of [] (.inl rfl) rfl rfl rfl rfl)
theorem Om{l:List Cs}(hl:l.map B5=xl)(hn:l.length<2^40)(hr:En l id=o):Fn Tryz.prog 286 [.d (.row 3 xl),.clo 287 [.ptr 0 0 0]] [.box 3 [I id]] ⟨I o,[],[]⟩:=by
 refine Fn.goR Fy Tryz.func286 fun P hP Q hQ=>?_
 conv=>cbv
 refine .go hl fun v1 ag=>?_
 conv=>cbv
 refine LoopW.lp (κ:=Int) Fy hP [] [0,1,7] (fun i8=>[(8,I i8)]) (fun i8=>[])
  (fun i8=>0≤i8∧i8≤l.length∧∀(j:Nat) (hj:j<l.length),j<i8.toNat→Ej l[j] id=false)
  (fun i8=>(l.length - i8).toNat) (0) ⟨by omega,by omega,fun j _ h=>by simp at h⟩ ⟨rfl,trivial⟩ rfl ?_
 rintro i8 J ⟨h0,h1,hb⟩ hJ
 conv=>cbv
 refine .lss (fun h2=>?_) fun h2=>?_
 conv=>cbv
 refine .go i8.toNat hl fun af ⟨ad,aa,ab⟩ ae=>?_
 conv=>cbv
 generalize ac:Ej (⟨ad,aa,ab⟩:Cs) id=r4
 refine .bx [0] [] hP (U8 ac) rfl rfl rfl rfl ?_
 cases r4
 conv=>cbv
 refine .add fun v5 ah=>?_
 conv=>cbv
 exact .go [] (v5) (hJ _ ⟨by omega,by omega,fun j hj h=>if e:j=i8.toNat then by subst e;rw[←ae];exact ac else hb j hj (by omega)⟩ mlt)
 conv=>cbv
 have e:i8=En l id:=(by exact O0 (p:=fun x=>Ej x id) h0 (by omega) (ae▸ac) hb)
 rw[hr]at e
 subst e
 exact hQ _ _ (.of [] (.inl rfl) rfl rfl rfl rfl)
 conv=>cbv
 have e:(-1)=En l id:=(by exact J3 (p:=fun x=>Ej x id) fun j hj=>hb j hj (by omega))
 rw[hr]at e
 subst e
 exact hQ _ _ (.of [] (.inl rfl) rfl rfl rfl rfl)
theorem Xf8(hl:l.map Ae=xl)(hn:l.length<2^40)(hr:Aw l name=o):Fn Tryz.prog 240 [.d (.row 2 xl),S name] [] ⟨I o,[],[]⟩:=by
 refine Fn.go Fy Tryz.func240 fun P hP Q hQ=>?_
 conv=>cbv
 generalize aa:D3 l name=r1
 refine .bx [0] [] hP (M4 hl (by omega) aa) rfl rfl rfl rfl ?_
 conv=>cbv
 have e:r1=Aw l name:=(by unfold Aw;exact aa.symm)
 rw[hr]at e
 subst e
 exact hQ _ _ (.i rfl rfl)
theorem Zm(Ay:Ak.map B5=Bj)(Av:Al.map Ae=Be)(A3:An.map Ae=Bd)(A5:Am.map cS=Bf)(hn:Ak.length<2^40)(hr:Jv (⟨Ak,Al,An,Am,Aq,As⟩:Aa) id=o):Fn Tryz.prog 241 [.agg [.d (.row 3 Bj),.d (.row 2 Be),.d (.row 2 Bd),.d (.row 1 Bf),I Aq,I As],I id] [] ⟨I o,[],[]⟩:=by
 refine Fn.go Fy Tryz.func241 fun P hP Q hQ=>?_
 conv=>cbv
 generalize aa:En Ak id=r1
 refine .bx [1] [] hP (Om Ay (by omega) aa) rfl rfl rfl rfl ?_
 conv=>cbv
 have e:r1=Jv (⟨Ak,Al,An,Am,Aq,As⟩:Aa) id:=(by unfold Jv;exact aa.symm)
 rw[hr]at e
 subst e
 exact hQ _ _ (.i rfl rfl)
theorem Zx(Ay:Ak.map B5=Bj)(Av:Al.map Ae=Be)(A3:An.map Ae=Bd)(A5:Am.map cS=Bf)(hd:okD ⟨Ak,Al,An,Am,Aq,As⟩)(hr:Cr (⟨Ak,Al,An,Am,Aq,As⟩:Aa) name=o):Fn Tryz.prog 177 [.agg [.d (.row 3 Bj),.d (.row 2 Be),.d (.row 2 Bd),.d (.row 1 Bf),I Aq,I As],S name] [] ⟨I o,[],[]⟩:=by
 refine Fn.go Fy Tryz.func177 fun P hP Q hQ=>?_
 conv=>cbv
 obtain⟨d1,d2,d3,d4,d5,d6⟩:=hd
 simp only[]at d1 d2 d3 d4 d5 d6
 generalize aa:Aw Al name=r1
 refine .dd hP (Xf8 Av (by omega) aa) ?_
 conv=>cbv
 have hb:=Ps aa
 refine .lss (fun h2=>?_) fun h2=>?_
 conv=>cbv
 have e:(-1)=Cr (⟨Ak,Al,An,Am,Aq,As⟩:Aa) name:=(by unfold Cr;rw[if_pos (by simp only[];omega)])
 rw[hr]at e
 subst e
 exact hQ _ _ (.i rfl rfl)
 conv=>cbv
 refine .go r1.toNat Av fun ab ⟨ae,ac⟩ af=>?_
 conv=>cbv
 generalize ad:Jv (⟨Ak,Al,An,Am,Aq,As⟩:Aa) ac=r4
 refine .dd hP (Zm Ay Av A3 A5 (by omega) ad) ?_
 conv=>cbv
 have e:r4=Cr (⟨Ak,Al,An,Am,Aq,As⟩:Aa) name:=(by unfold Cr Co;simp only[];rw[aa,if_neg (by omega),if_neg (by omega),←gD ab,←af];exact ad.symm)
 rw[hr]at e
 subst e
 exact hQ _ _ (.i rfl rfl)
theorem XiU(Ay:Ak.map B5=Bj)(Av:Al.map Ae=Be)(A3:An.map Ae=Bd)(A5:Am.map cS=Bf)(hd:okD ⟨Ak,Al,An,Am,Aq,As⟩)(hr:Gf (⟨Ak,Al,An,Am,Aq,As⟩:Aa) name=(⟨oaid,oatex,oasur⟩,ob)):Fn Tryz.prog 93 [.agg [.d (.row 3 Bj),.d (.row 2 Be),.d (.row 2 Bd),.d (.row 1 Bf),I Aq,I As],S name] [] ⟨.tup [.agg [I oaid,S oatex,I oasur],B ob],[],[]⟩:=by
 refine Fn.go Fy Tryz.func93 fun P hP Q hQ=>?_
 conv=>cbv
 generalize aa:Cr (⟨Ak,Al,An,Am,Aq,As⟩:Aa) name=r1
 refine .dd hP (Zx Ay Av A3 A5 hd aa) ?_
 conv=>cbv
 have hb:=Jp aa
 simp only[]at hb
 refine .lss (fun h2=>?_) fun h2=>?_
 conv=>cbv
 have e:((⟨0,tx [],0⟩:Cs),false)=Gf (⟨Ak,Al,An,Am,Aq,As⟩:Aa) name:=(by unfold Gf;rw[if_pos (by rw[aa];omega)])
 rw[hr]at e
 simp only[Prod.mk.injEq,Cs.mk.injEq]at e
 obtain⟨⟨rfl,rfl,rfl⟩,rfl⟩:=e
 refine hQ _ _ ?_
 exact .many (.inl rfl) rfl rfl (.agg (.d rfl rfl (.d rfl rfl (.d rfl rfl (.nil)))) (.d rfl rfl (.nil)))
 conv=>cbv
 refine .go r1.toNat Ay fun af ⟨ad,ab,ac⟩ ae=>?_
 conv=>cbv
 have e:((⟨ad,ab,ac⟩:Cs),true)=Gf (⟨Ak,Al,An,Am,Aq,As⟩:Aa) name:=(by unfold Gf;rw[aa,if_neg (by omega)];simp only[];rw[←gD (show r1.toNat<Ak.length by omega)];rw[←ae])
 rw[hr]at e
 simp only[Prod.mk.injEq,Cs.mk.injEq]at e
 obtain⟨⟨rfl,rfl,rfl⟩,rfl⟩:=e
 refine hQ _ _ ?_
 exact .many (.inl rfl) rfl rfl (.agg (.d rfl rfl (.d rfl rfl (.d rfl rfl (.nil)))) (.d rfl rfl (.nil)))
theorem Xs(Ay:Ak.map B5=Bj)(Av:Al.map Ae=Be)(A3:An.map Ae=Bd)(A5:Am.map cS=Bf)(hd:okD ⟨Ak,Al,An,Am,Aq,As⟩)(hr:C5 (⟨Ak,Al,An,Am,Aq,As⟩:Aa) name=(oa,ob)):Fn Tryz.prog 79 [.agg [.d (.row 3 Bj),.d (.row 2 Be),.d (.row 2 Bd),.d (.row 1 Bf),I Aq,I As],S name] [] ⟨.tup [S oa,B ob],[],[]⟩:=by
 refine Fn.go Fy Tryz.func79 fun P hP Q hQ=>?_
 conv=>cbv
 rcases ab:Gf (⟨Ak,Al,An,Am,Aq,As⟩:Aa) name with⟨⟨ad,aa,ac⟩,ae⟩
 refine .dd hP (XiU Ay Av A3 A5 hd ab) ?_
 conv=>cbv
 have e:(aa,ae)=C5 (⟨Ak,Al,An,Am,Aq,As⟩:Aa) name:=(by unfold C5;rw[ab])
 rw[hr]at e
 simp only[Prod.mk.injEq]at e
 obtain⟨rfl,rfl⟩:=e
 refine hQ _ _ ?_
 exact .many (.inl rfl) rfl rfl (.d rfl rfl (.d rfl rfl (.nil)))
theorem Ix(hl:l.map Ae=xl)(hn:l.length<2^40)(hr:Co l name=o):Fn Tryz.prog 187 [.d (.row 2 xl),S name] [] ⟨I o,[],[]⟩:=by
 refine Fn.go Fy Tryz.func187 fun P hP Q hQ=>?_
 conv=>cbv
 refine LoopW.lp (κ:=Int) Fy hP [] [0,1] (fun i5=>[(5,I i5)]) (fun i5=>[])
  (fun i5=>0≤i5∧i5≤l.length∧∀(j:Nat) (hj:j<l.length),j<i5.toNat→B1 l[j] name=false)
  (fun i5=>(l.length - i5).toNat) (0) ⟨by omega,by omega,fun j _ h=>by simp at h⟩ ⟨rfl,trivial⟩ rfl ?_
 rintro i5 J ⟨h0,h1,hb⟩ hJ
 conv=>cbv
 refine .go hl fun v1 ai=>?_
 conv=>cbv
 refine .lss (fun h2=>?_) fun h2=>?_
 conv=>cbv
 refine .go i5.toNat hl fun ag ⟨ad,ah⟩ aa=>?_
 conv=>cbv
 refine .eql (fun h4=>?_) fun h4=>?_
 conv=>cbv
 refine .go i5.toNat hl fun ab ⟨ae,ac⟩ af=>?_
 conv=>cbv
 have e:ac=Co l name:=(by have e2:Aw l name=i5:=(O0 (p:=fun x=>B1 x name) (l:=l) h0 (by omega) (by rw[←aa];unfold B1;rw[decide_eq_true_eq];exact h4) hb).symm;unfold Co;rw[e2,if_neg (by omega),←gD ab,←af])
 rw[hr]at e
 subst e
 exact hQ _ _ (.i rfl rfl)
 conv=>cbv
 refine .add fun v5 aj=>?_
 conv=>cbv
 exact .go [] (v5) (hJ _ ⟨by omega,by omega,fun j hj h=>if e:j=i5.toNat then by subst e;rw[←aa];unfold B1;rw[decide_eq_false_iff_not];exact h4 else hb j hj (by omega)⟩ mlt)
 conv=>cbv
 have e:0=Co l name:=(by have e2:Aw l name= -1:=(J3 (p:=fun x=>B1 x name) fun j hj=>hb j hj (by omega)).symm;unfold Co;rw[e2,if_pos (by omega)])
 rw[hr]at e
 subst e
 exact hQ _ _ (.i rfl rfl)
theorem Qv(Ay:Ak.map B5=Bj)(Av:Al.map Ae=Be)(A3:An.map Ae=Bd)(A5:Am.map cS=Bf)(hn:Ak.length<2^40)(hr:G4 (⟨Ak,Al,An,Am,Aq,As⟩:Aa) id=o):Fn Tryz.prog 186 [.agg [.d (.row 3 Bj),.d (.row 2 Be),.d (.row 2 Bd),.d (.row 1 Bf),I Aq,I As],I id] [] ⟨I o,[],[]⟩:=by
 refine Fn.go Fy Tryz.func186 fun P hP Q hQ=>?_
 conv=>cbv
 refine LoopW.lp (κ:=Int) Fy hP [] [1,2] (fun i5=>[(5,I i5)]) (fun i5=>[])
  (fun i5=>0≤i5∧i5≤Ak.length∧∀(j:Nat) (hj:j<Ak.length),j<i5.toNat→Ej Ak[j] id=false)
  (fun i5=>(Ak.length - i5).toNat) (0) ⟨by omega,by omega,fun j _ h=>by simp at h⟩ ⟨rfl,trivial⟩ rfl ?_
 rintro i5 J ⟨h0,h1,hb⟩ hJ
 conv=>cbv
 refine .go Ay fun v1 af=>?_
 conv=>cbv
 refine .lss (fun h2=>?_) fun h2=>?_
 conv=>cbv
 refine .go i5.toNat Ay fun ad ⟨ae,ab,ac⟩ aa=>?_
 conv=>cbv
 refine .eql (fun h4=>?_) fun h4=>?_
 conv=>cbv
 have e:i5=G4 (⟨Ak,Al,An,Am,Aq,As⟩:Aa) id:=(by exact O0 (p:=fun x=>Ej x id) (l:=Ak) h0 (by omega) (by rw[←aa];unfold Ej;rw[decide_eq_true_eq];exact h4) hb)
 rw[hr]at e
 subst e
 exact hQ _ _ (.i rfl rfl)
 conv=>cbv
 refine .add fun v5 ag=>?_
 conv=>cbv
 exact .go [] (v5) (hJ _ ⟨by omega,by omega,fun j hj h=>if e:j=i5.toNat then by subst e;rw[←aa];unfold Ej;rw[decide_eq_false_iff_not];exact h4 else hb j hj (by omega)⟩ mlt)
 conv=>cbv
 have e:(-1)=G4 (⟨Ak,Al,An,Am,Aq,As⟩:Aa) id:=(by exact J3 (p:=fun x=>Ej x id) (l:=Ak) fun j hj=>hb j hj (by omega))
 rw[hr]at e
 subst e
 exact hQ _ _ (.i rfl rfl)
theorem Kv{o:Bool}(hl:l.map Ae=xl)(hn:l.length<2^40)(hr:Dr l name=o):Fn Tryz.prog 188 [.d (.row 2 xl),S name] [] ⟨B o,[],[]⟩:=by
 refine Fn.go Fy Tryz.func188 fun P hP Q hQ=>?_
 conv=>cbv
 refine LoopW.lp (κ:=Int) Fy hP [] [0,1] (fun i5=>[(5,I i5)]) (fun i5=>[])
  (fun i5=>0≤i5∧i5≤l.length∧∀(j:Nat) (hj:j<l.length),j<i5.toNat→B1 l[j] name=false)
  (fun i5=>(l.length - i5).toNat) (0) ⟨by omega,by omega,fun j _ h=>by simp at h⟩ ⟨rfl,trivial⟩ rfl ?_
 rintro i5 J ⟨h0,h1,hb⟩ hJ
 conv=>cbv
 refine .go hl fun v1 ae=>?_
 conv=>cbv
 refine .lss (fun h2=>?_) fun h2=>?_
 conv=>cbv
 refine .go i5.toNat hl fun ac ⟨ab,ad⟩ aa=>?_
 conv=>cbv
 refine .eql (fun h4=>?_) fun h4=>?_
 conv=>cbv
 have e:true=Dr l name:=(by have e2:Aw l name=i5:=(O0 (p:=fun x=>B1 x name) (l:=l) h0 (by omega) (by rw[←aa];unfold B1;rw[decide_eq_true_eq];exact h4) hb).symm;unfold Dr;rw[e2];symm;rw[decide_eq_true_eq];omega)
 rw[hr]at e
 subst e
 exact hQ _ _ (.b rfl rfl)
 conv=>cbv
 refine .add fun v5 af=>?_
 conv=>cbv
 exact .go [] (v5) (hJ _ ⟨by omega,by omega,fun j hj h=>if e:j=i5.toNat then by subst e;rw[←aa];unfold B1;rw[decide_eq_false_iff_not];exact h4 else hb j hj (by omega)⟩ mlt)
 conv=>cbv
 have e:false=Dr l name:=(by have e2:Aw l name= -1:=(J3 (p:=fun x=>B1 x name) fun j hj=>hb j hj (by omega)).symm;unfold Dr;rw[e2];rfl)
 rw[hr]at e
 subst e
 exact hQ _ _ (.b rfl rfl)
theorem Xi1(Ay:Ak.map B5=Bj)(Av:Al.map Ae=Be)(A3:An.map Ae=Bd)(A5:Am.map cS=Bf)(hd:okD ⟨Ak,Al,An,Am,Aq,As⟩)(hr:Gf (⟨Ak,Al,An,Am,Aq,As⟩:Aa) name=(⟨oaid,oatex,oasur⟩,ob)):Fn Tryz.prog 100 [.agg [.d (.row 3 Bj),.d (.row 2 Be),.d (.row 2 Bd),.d (.row 1 Bf),I Aq,I As],S name] [] ⟨.tup [.agg [I oaid,S oatex,I oasur],B ob],[],[]⟩:=by
 refine Fn.go Fy Tryz.func100 fun P hP Q hQ=>?_
 conv=>cbv
 obtain⟨d1,d2,d3,d4,d5,d6⟩:=hd
 simp only[]at d1 d2 d3 d4 d5 d6
 generalize ab:Co Al name=r1
 refine .dd hP (Ix Av (by omega) ab) ?_
 conv=>cbv
 generalize aa:G4 (⟨Ak,Al,An,Am,Aq,As⟩:Aa) r1=r2
 refine .dd hP (Qv Ay Av A3 A5 (by omega) aa) ?_
 conv=>cbv
 have hb:=Xw (d:=⟨Ak,Al,An,Am,Aq,As⟩) (id:=r1) aa
 simp only[]at hb
 refine .lss (fun h3=>?_) fun h3=>?_
 conv=>cbv
 have e:((⟨0,tx [],0⟩:Cs),false)=Gf (⟨Ak,Al,An,Am,Aq,As⟩:Aa) name:=(by rw[Pg,if_pos (.inl (by simp only[];rw[ab,aa];omega))])
 rw[hr]at e
 simp only[Prod.mk.injEq,Cs.mk.injEq]at e
 obtain⟨⟨rfl,rfl,rfl⟩,rfl⟩:=e
 refine hQ _ _ ?_
 exact .many (.inl rfl) rfl rfl (.agg (.d rfl rfl (.d rfl rfl (.d rfl rfl (.nil)))) (.d rfl rfl (.nil)))
 conv=>cbv
 generalize ac:Dr Al name=r4
 refine .dd hP (Kv Av (by omega) ac) ?_
 cases r4
 conv=>cbv
 have e:((⟨0,tx [],0⟩:Cs),false)=Gf (⟨Ak,Al,An,Am,Aq,As⟩:Aa) name:=(by rw[Pg,if_pos (.inr ac)])
 rw[hr]at e
 simp only[Prod.mk.injEq,Cs.mk.injEq]at e
 obtain⟨⟨rfl,rfl,rfl⟩,rfl⟩:=e
 refine hQ _ _ ?_
 exact .many (.inl rfl) rfl rfl (.agg (.d rfl rfl (.d rfl rfl (.d rfl rfl (.nil)))) (.d rfl rfl (.nil)))
 conv=>cbv
 refine .go r2.toNat Ay fun ah ⟨af,ad,ae⟩ ag=>?_
 conv=>cbv
 have e:((⟨af,ad,ae⟩:Cs),true)=Gf (⟨Ak,Al,An,Am,Aq,As⟩:Aa) name:=(by rw[Pg,if_neg (by simp only[];rw[ab,aa,ac];rintro(h|h);omega;cases h)];simp only[];rw[ab,aa,←gD (show r2.toNat<Ak.length by omega),←ag])
 rw[hr]at e
 simp only[Prod.mk.injEq,Cs.mk.injEq]at e
 obtain⟨⟨rfl,rfl,rfl⟩,rfl⟩:=e
 refine hQ _ _ ?_
 exact .many (.inl rfl) rfl rfl (.agg (.d rfl rfl (.d rfl rfl (.d rfl rfl (.nil)))) (.d rfl rfl (.nil)))
theorem Wy(Ay:Ak.map B5=Bj)(Av:Al.map Ae=Be)(A3:An.map Ae=Bd)(A5:Am.map cS=Bf)(hd:okD ⟨Ak,Al,An,Am,Aq,As⟩)(hr:C5 (⟨Ak,Al,An,Am,Aq,As⟩:Aa) name=(oa,ob)):Fn Tryz.prog 68 [.agg [.d (.row 3 Bj),.d (.row 2 Be),.d (.row 2 Bd),.d (.row 1 Bf),I Aq,I As],S name] [] ⟨.tup [S oa,B ob],[],[]⟩:=by
 refine Fn.go Fy Tryz.func68 fun P hP Q hQ=>?_
 conv=>cbv
 rcases ab:Gf (⟨Ak,Al,An,Am,Aq,As⟩:Aa) name with⟨⟨ad,aa,ac⟩,ae⟩
 refine .dd hP (Xi1 Ay Av A3 A5 hd ab) ?_
 conv=>cbv
 have e:(aa,ae)=C5 (⟨Ak,Al,An,Am,Aq,As⟩:Aa) name:=(by unfold C5;rw[ab])
 rw[hr]at e
 simp only[Prod.mk.injEq]at e
 obtain⟨rfl,rfl⟩:=e
 refine hQ _ _ ?_
 exact .many (.inl rfl) rfl rfl (.d rfl rfl (.d rfl rfl (.nil)))
end
section
open Go.Proofs
open Go.Shelf
def Tryz.lays172_ren:Go.Shelf.Ren:=⟨fun|172=>330|244=>343|245=>279|247=>352|279=>312|280=>313|281=>314|282=>315|287=>278|316=>334|171=>242|205=>335|321=>310|322=>311|243=>288|246=>289|283=>316|284=>317|285=>318|286=>319|129=>337|317=>336|318=>338|319=>339|320=>340|337=>346|338=>347|n=>n,fun|9=>9|3=>3|75=>207|76=>217|4=>4|5=>5|167=>247|37=>22|0=>0|85=>285|2=>2|168=>249|53=>205|175=>208|46=>146|210=>271|127=>241|145=>282|143=>280|21=>21|171=>252|173=>255|212=>274|51=>257|20=>20|213=>275|232=>287|233=>288|80=>220|n=>n,fun|15=>0|16=>1|17=>2|18=>4|19=>5|n=>n⟩
def Tryz.laysC245_ren:Go.Shelf.Ren:=⟨fun|245=>279|279=>312|280=>313|281=>314|282=>315|316=>334|171=>242|205=>335|243=>288|246=>289|283=>316|284=>317|285=>318|286=>319|129=>337|317=>336|318=>338|319=>339|320=>340|337=>346|338=>347|n=>n,fun|9=>9|3=>3|75=>207|167=>247|4=>4|168=>249|210=>271|37=>22|0=>0|127=>241|145=>282|143=>280|2=>2|171=>252|53=>205|5=>5|173=>255|212=>274|51=>257|20=>20|213=>275|46=>146|232=>287|233=>288|80=>220|n=>n,fun|15=>0|16=>1|17=>2|18=>4|19=>5|n=>n⟩
theorem Tryz.laysC245:Go.Proofs.LaysC.n245 Tryz.prog Tryz.laysC245_ren:={
 mixed:=by kernel_rfl
 f129:=Tryz.func337.trans (congrArg some (by kernel_rfl))
 f171:=Tryz.func242.trans (congrArg some (by kernel_rfl))
 f205:=Tryz.func335.trans (congrArg some (by kernel_rfl))
 f243:=Tryz.func288.trans (congrArg some (by kernel_rfl))
 f245:=Tryz.func279.trans (congrArg some (by kernel_rfl))
 f246:=Tryz.func289.trans (congrArg some (by kernel_rfl))
 f279:=Tryz.func312.trans (congrArg some (by kernel_rfl))
 f280:=Tryz.func313.trans (congrArg some (by kernel_rfl))
 f281:=Tryz.func314.trans (congrArg some (by kernel_rfl))
 f282:=Tryz.func315.trans (congrArg some (by kernel_rfl))
 f283:=Tryz.func316.trans (congrArg some (by kernel_rfl))
 f284:=Tryz.func317.trans (congrArg some (by kernel_rfl))
 f285:=Tryz.func318.trans (congrArg some (by kernel_rfl))
 f286:=Tryz.func319.trans (congrArg some (by kernel_rfl))
 f316:=Tryz.func334.trans (congrArg some (by kernel_rfl))
 f317:=Tryz.func336.trans (congrArg some (by kernel_rfl))
 f318:=Tryz.func338.trans (congrArg some (by kernel_rfl))
 f319:=Tryz.func339.trans (congrArg some (by kernel_rfl))
 f320:=Tryz.func340.trans (congrArg some (by kernel_rfl))
 f337:=Tryz.func346.trans (congrArg some (by kernel_rfl))
 f338:=Tryz.func347.trans (congrArg some (by kernel_rfl))
 t0:=Tryz.underlying0
 a0:=Tryz.isAgg0
 z0:=Tryz.sizeOf0
 v0:=Tryz.zeroValue0
 t2:=Tryz.underlying2
 a2:=Tryz.isAgg2
 z2:=Tryz.sizeOf2
 v2:=Tryz.zeroValue2
 t3:=Tryz.underlying3
 a3:=Tryz.isAgg3
 z3:=Tryz.sizeOf3
 v3:=Tryz.zeroValue3
 t4:=Tryz.underlying4
 a4:=Tryz.isAgg4
 z4:=Tryz.sizeOf4
 v4:=Tryz.zeroValue4
 t5:=Tryz.underlying5
 a5:=Tryz.isAgg5
 z5:=Tryz.sizeOf5
 v5:=Tryz.zeroValue5
 t9:=Tryz.underlying9
 a9:=Tryz.isAgg9
 z9:=Tryz.sizeOf9
 v9:=Tryz.zeroValue9
 t20:=Tryz.underlying20
 a20:=Tryz.isAgg20
 z20:=Tryz.sizeOf20
 v20:=Tryz.zeroValue20
 t37:=Tryz.underlying22
 a37:=Tryz.isAgg22
 z37:=Tryz.sizeOf22
 v37:=Tryz.zeroValue22
 t46:=Tryz.underlying146
 a46:=Tryz.isAgg146
 z46:=Tryz.sizeOf146
 v46:=Tryz.zeroValue146
 t51:=Tryz.underlying257
 a51:=Tryz.isAgg257
 z51:=Tryz.sizeOf257
 v51:=Tryz.zeroValue257
 t53:=Tryz.underlying205
 a53:=Tryz.isAgg205
 z53:=Tryz.sizeOf205
 v53:=Tryz.zeroValue205
 t75:=Tryz.underlying207
 a75:=Tryz.isAgg207
 z75:=Tryz.sizeOf207
 v75:=Tryz.zeroValue207
 t127:=Tryz.underlying241
 a127:=Tryz.isAgg241
 z127:=Tryz.sizeOf241
 v127:=Tryz.zeroValue241
 t143:=Tryz.underlying280
 a143:=Tryz.isAgg280
 z143:=Tryz.sizeOf280
 v143:=Tryz.zeroValue280
 t145:=Tryz.underlying282
 a145:=Tryz.isAgg282
 z145:=Tryz.sizeOf282
 v145:=Tryz.zeroValue282
 t167:=Tryz.underlying247
 a167:=Tryz.isAgg247
 z167:=Tryz.sizeOf247
 v167:=Tryz.zeroValue247
 t168:=Tryz.underlying249
 a168:=Tryz.isAgg249
 z168:=Tryz.sizeOf249
 v168:=Tryz.zeroValue249
 t171:=Tryz.underlying252
 a171:=Tryz.isAgg252
 z171:=Tryz.sizeOf252
 v171:=Tryz.zeroValue252
 t173:=Tryz.underlying255
 a173:=Tryz.isAgg255
 z173:=Tryz.sizeOf255
 v173:=Tryz.zeroValue255
 t210:=Tryz.underlying271
 a210:=Tryz.isAgg271
 z210:=Tryz.sizeOf271
 v210:=Tryz.zeroValue271
 t212:=Tryz.underlying274
 a212:=Tryz.isAgg274
 z212:=Tryz.sizeOf274
 v212:=Tryz.zeroValue274
 t213:=Tryz.underlying275
 a213:=Tryz.isAgg275
 z213:=Tryz.sizeOf275
 t232:=Tryz.underlying287
 a232:=Tryz.isAgg287
 z232:=Tryz.sizeOf287
 v232:=Tryz.zeroValue287
 t233:=Tryz.underlying288
 a233:=Tryz.isAgg288
 z233:=Tryz.sizeOf288
 v233:=Tryz.zeroValue288
 g15:=by kernel_rfl
 g16:=by kernel_rfl
 g17:=by kernel_rfl
 g18:=by kernel_rfl
 g19:=by kernel_rfl
 t80:=Tryz.underlying220
 a80:=Tryz.isAgg220
 z80:=Tryz.sizeOf220
 v80:=Tryz.zeroValue220
 i0:=by kernel_rfl
 i2:=by kernel_rfl
 i3:=by kernel_rfl
 i4:=by kernel_rfl
 i5:=by kernel_rfl
 i9:=by kernel_rfl
 i20:=by kernel_rfl
 i37:=by kernel_rfl
 i46:=by kernel_rfl
 i51:=by kernel_rfl
 i53:=by kernel_rfl
 i75:=by kernel_rfl
 i80:=by kernel_rfl
 i127:=by kernel_rfl
 i143:=by kernel_rfl
 i145:=by kernel_rfl
 i167:=by kernel_rfl
 i168:=by kernel_rfl
 i171:=by kernel_rfl
 i173:=by kernel_rfl
 i210:=by kernel_rfl
 i212:=by kernel_rfl
 i232:=by kernel_rfl
 i233:=by kernel_rfl
 m15:=by kernel_rfl
 m16:=by kernel_rfl
 m17:=by kernel_rfl
 m18:=by kernel_rfl
 m19:=by kernel_rfl
 c0:=by kernel_rfl
 c2:=by kernel_rfl
 c3:=by kernel_rfl
 c4:=by kernel_rfl
 c5:=by kernel_rfl
 c9:=by kernel_rfl
 c20:=by kernel_rfl
 c37:=by kernel_rfl
 c46:=by kernel_rfl
 c51:=by kernel_rfl
 c53:=by kernel_rfl
 c75:=by kernel_rfl
 c80:=by kernel_rfl
 c127:=by kernel_rfl
 c143:=by kernel_rfl
 c145:=by kernel_rfl
 c167:=by kernel_rfl
 c168:=by kernel_rfl
 c171:=by kernel_rfl
 c173:=by kernel_rfl
 c210:=by kernel_rfl
 c212:=by kernel_rfl
 c213:=by kernel_rfl
 c232:=by kernel_rfl
 c233:=by kernel_rfl}
open Go.RowKit in
theorem Tryz.strconv_toError_syntax(fn s:ByteArray)(base bits:Int)(ev:Value)(w:World)(hlim:s.size≤281474976710656)(hv:w.cell? ⟨0,0,none⟩=some ev)(hev:ev= .nilIface∨∃te pe,ev= .iface te pe):
  Calls Tryz.prog 279 #[.string fn,.string s,.int .i64 base,.int .i64 bits,.iface 247 (.int .i64 2)] w fun e w'=>∃N,e= .returned (.iface 249 (.pointer (some ⟨N,0,none⟩)))∧w.heap.size≤N∧w'.heap[N]? =some (.cells #[.string fn,.string s,ev] 271 (0,0))∧Below w.heap.size w w':=Any.strconv_toError_syntax Tryz.laysC245 fn s base bits ev w hlim hv hev
def Tryz.lays287_ren:Go.Shelf.Ren:=⟨fun|287=>278|321=>310|322=>311|n=>n,fun|9=>9|3=>3|53=>205|75=>207|4=>4|167=>247|5=>5|46=>146|37=>22|0=>0|21=>21|80=>220|n=>n,fun|n=>n⟩
theorem Tryz.lays287:Go.Proofs.Lays.n287 Tryz.prog Tryz.lays287_ren:={
 mixed:=by kernel_rfl
 f287:=Tryz.func278.trans (congrArg some (by kernel_rfl))
 f321:=Tryz.func310.trans (congrArg some (by kernel_rfl))
 f322:=Tryz.func311.trans (congrArg some (by kernel_rfl))
 t0:=Tryz.underlying0
 a0:=Tryz.isAgg0
 z0:=Tryz.sizeOf0
 v0:=Tryz.zeroValue0
 t3:=Tryz.underlying3
 a3:=Tryz.isAgg3
 z3:=Tryz.sizeOf3
 v3:=Tryz.zeroValue3
 t4:=Tryz.underlying4
 a4:=Tryz.isAgg4
 z4:=Tryz.sizeOf4
 v4:=Tryz.zeroValue4
 t5:=Tryz.underlying5
 a5:=Tryz.isAgg5
 z5:=Tryz.sizeOf5
 v5:=Tryz.zeroValue5
 t9:=Tryz.underlying9
 a9:=Tryz.isAgg9
 z9:=Tryz.sizeOf9
 v9:=Tryz.zeroValue9
 t21:=Tryz.underlying21
 a21:=Tryz.isAgg21
 z21:=Tryz.sizeOf21
 v21:=Tryz.zeroValue21
 t37:=Tryz.underlying22
 a37:=Tryz.isAgg22
 z37:=Tryz.sizeOf22
 v37:=Tryz.zeroValue22
 t46:=Tryz.underlying146
 a46:=Tryz.isAgg146
 z46:=Tryz.sizeOf146
 v46:=Tryz.zeroValue146
 t53:=Tryz.underlying205
 a53:=Tryz.isAgg205
 z53:=Tryz.sizeOf205
 v53:=Tryz.zeroValue205
 t75:=Tryz.underlying207
 a75:=Tryz.isAgg207
 z75:=Tryz.sizeOf207
 v75:=Tryz.zeroValue207
 t167:=Tryz.underlying247
 a167:=Tryz.isAgg247
 z167:=Tryz.sizeOf247
 v167:=Tryz.zeroValue247}
def Tryz.lays105_ren:Go.Shelf.Ren:=⟨fun|105=>244|212=>290|99=>291|165=>292|166=>250|170=>252|169=>254|263=>320|264=>321|206=>322|240=>295|241=>323|276=>325|277=>341|n=>n,fun|9=>9|3=>3|4=>4|20=>20|0=>0|46=>146|109=>237|5=>5|72=>216|76=>217|51=>257|146=>258|53=>205|148=>260|70=>214|37=>22|75=>207|127=>241|164=>263|80=>220|n=>n,fun|n=>n⟩
theorem Tryz.lays105:Go.Proofs.Lays.n105 Tryz.prog Tryz.lays105_ren:={
 mixed:=by kernel_rfl
 f99:=Tryz.func291.trans (congrArg some (by kernel_rfl))
 f105:=Tryz.func244.trans (congrArg some (by kernel_rfl))
 f165:=Tryz.func292.trans (congrArg some (by kernel_rfl))
 f166:=Tryz.func250.trans (congrArg some (by kernel_rfl))
 f169:=Tryz.func254.trans (congrArg some (by kernel_rfl))
 f170:=Tryz.func252.trans (congrArg some (by kernel_rfl))
 f206:=Tryz.func322.trans (congrArg some (by kernel_rfl))
 f212:=Tryz.func290.trans (congrArg some (by kernel_rfl))
 f240:=Tryz.func295.trans (congrArg some (by kernel_rfl))
 f241:=Tryz.func323.trans (congrArg some (by kernel_rfl))
 f263:=Tryz.func320.trans (congrArg some (by kernel_rfl))
 f264:=Tryz.func321.trans (congrArg some (by kernel_rfl))
 f276:=Tryz.func325.trans (congrArg some (by kernel_rfl))
 f277:=Tryz.func341.trans (congrArg some (by kernel_rfl))
 t0:=Tryz.underlying0
 a0:=Tryz.isAgg0
 z0:=Tryz.sizeOf0
 v0:=Tryz.zeroValue0
 t3:=Tryz.underlying3
 a3:=Tryz.isAgg3
 z3:=Tryz.sizeOf3
 v3:=Tryz.zeroValue3
 t4:=Tryz.underlying4
 a4:=Tryz.isAgg4
 z4:=Tryz.sizeOf4
 v4:=Tryz.zeroValue4
 t5:=Tryz.underlying5
 a5:=Tryz.isAgg5
 z5:=Tryz.sizeOf5
 v5:=Tryz.zeroValue5
 t9:=Tryz.underlying9
 a9:=Tryz.isAgg9
 z9:=Tryz.sizeOf9
 v9:=Tryz.zeroValue9
 t20:=Tryz.underlying20
 a20:=Tryz.isAgg20
 z20:=Tryz.sizeOf20
 v20:=Tryz.zeroValue20
 t37:=Tryz.underlying22
 a37:=Tryz.isAgg22
 z37:=Tryz.sizeOf22
 v37:=Tryz.zeroValue22
 t46:=Tryz.underlying146
 a46:=Tryz.isAgg146
 z46:=Tryz.sizeOf146
 v46:=Tryz.zeroValue146
 t51:=Tryz.underlying257
 a51:=Tryz.isAgg257
 z51:=Tryz.sizeOf257
 v51:=Tryz.zeroValue257
 t53:=Tryz.underlying205
 a53:=Tryz.isAgg205
 z53:=Tryz.sizeOf205
 v53:=Tryz.zeroValue205
 t70:=Tryz.underlying214
 a70:=Tryz.isAgg214
 z70:=Tryz.sizeOf214
 v70:=Tryz.zeroValue214
 t72:=Tryz.underlying216
 a72:=Tryz.isAgg216
 z72:=Tryz.sizeOf216
 v72:=Tryz.zeroValue216
 t75:=Tryz.underlying207
 a75:=Tryz.isAgg207
 z75:=Tryz.sizeOf207
 v75:=Tryz.zeroValue207
 t76:=Tryz.underlying217
 a76:=Tryz.isAgg217
 z76:=Tryz.sizeOf217
 v76:=Tryz.zeroValue217
 t109:=Tryz.underlying237
 a109:=Tryz.isAgg237
 z109:=Tryz.sizeOf237
 v109:=Tryz.zeroValue237
 t127:=Tryz.underlying241
 a127:=Tryz.isAgg241
 z127:=Tryz.sizeOf241
 v127:=Tryz.zeroValue241
 t146:=Tryz.underlying258
 a146:=Tryz.isAgg258
 z146:=Tryz.sizeOf258
 v146:=Tryz.zeroValue258
 t148:=Tryz.underlying260
 a148:=Tryz.isAgg260
 z148:=Tryz.sizeOf260
 v148:=Tryz.zeroValue260
 t164:=Tryz.underlying263
 a164:=Tryz.isAgg263
 z164:=Tryz.sizeOf263
 v164:=Tryz.zeroValue263}
theorem Tryz.Builder_Extra_105:Builder.Extra Tryz.prog Tryz.lays105_ren:={
 sizeBuilder:=by kernel_rfl
 liesBuilder:=by kernel_rfl
 t5:=Tryz.underlying5
 a5:=Tryz.isAgg5
 z5:=Tryz.sizeOf5
 v5:=Tryz.zeroValue5
 infoByte:=by kernel_rfl
 cellsByte:=by kernel_rfl
 sizeByte:=by kernel_rfl
 neB5:=by decide}
open Go.RowKit Go.Lib in
theorem Tryz.strings_Repeat(s:ByteArray)(c:Nat)(w:World)(hc:c≤9223372036854775807)(hlen:s.size*c≤140737488355328):
  Calls Tryz.prog 244 #[.string s,.int .i64 c] w fun e w'=>e= .returned (.string ⟨(Lib.repeatL s.data.toList c).toArray⟩)∧Below w.heap.size w w':=Any.strings_Repeat Tryz.lays105 Tryz.Builder_Extra_105 s c w hc hlen
end
end Go.Proofs.YtjbmpmmffjgedaaGreatDoor.Ab
