/- What functions of the program come to, for all arguments in the given bounds. -/
import Derived.Test.YtgdmjbcllgmepaaGreatDoorSwch01a
import Derived.Shelf.Strings.Builder1
import Derived.Shelf.Strings.Builder2
import Derived.Shelf.Strings.BuilderF
import Derived.Shelf.Strings.BuilderK
import Derived.Shelf.Strings.Builder2Cap
import Derived.Shelf.Strconv.Atoi
import Derived.Shelf.Strconv.Itoa0
import Derived.Shelf.Strconv.Itoa1
import Derived.Shelf.LaysM
import Derived.Shelf.Strconv.Itoa2
import Derived.Shelf.Strconv.Itoa3
import Derived.Shelf.Strconv.Itoa4
import Derived.Shelf.Strconv.AtoiErrFast
import Derived.Shelf.Strconv.ParseIntEmpty
import Derived.Shelf.Strconv.AtoiFail
import Derived.Shelf.Strconv.Clone
import Derived.Shelf.Strconv.SyntaxError
import Derived.Shelf.LaysC
import Derived.Shelf.Strconv.ToError
import Derived.Shelf.Strconv.Lower
import Derived.Shelf.Strconv.ParseUint10
import Derived.Shelf.Strconv.ParseUint10Empty
import Derived.Shelf.Strconv.ParseUint10Any
import Derived.Shelf.Strconv.ParseInt10
import Derived.Shelf.Strconv.AtoiLong
import Derived.Shelf.Strconv.AtoiInnerAll
import Derived.Shelf.Strconv.RangeError
import Derived.Shelf.Strconv.ToErrorRange
import Derived.Shelf.Strconv.AtoiAll
import Derived.Shelf.Strings.Search1
import Derived.Shelf.Strings.Search2
import Derived.Shelf.Strings.Cut
import Derived.Shelf.Strings.Shaped
import Derived.Shelf.Strings.Prefix
import Derived.Shelf.Bits.Mul64
import Derived.Shelf.Strings.Repeat
import Derived.Shelf.Strings.BuilderCap
import Derived.Shelf.Slices.Equal
import Derived.Ground.Names2Prog
import Derived.Shelf.Slices.Clone
import Derived.Test.YtgdmjbcllgmepaaGreatDoorProg
import Derived.Below
import Derived.ProofKit
import Derived.Test.YtgdmjbcllgmepaaGreatDoorSwZ9
import Derived.Lib.AtoiErrMem
import Derived.Lib.SlicesS
set_option linter.unusedVariables false
set_option linter.unusedSimpArgs false
namespace Go.Proofs.YtgdmjbcllgmepaaGreatDoor.Ab
section
open Go Go.Proofs
set_option maxRecDepth 20000
set_option maxHeartbeats 4000000
def Xbf:List (Nat×TyRow):=[ty3,ty4,ty9,Xcl,Xfy,Xd0,Xf8]
theorem Y1:Ce Tryz.prog Xbf:=Ce.of (by kernel_rfl)
theorem Ud:Setup Tryz.prog Xbf:=⟨Y1,mixed⟩
def Gp(h:C5)(b:ByteArray)(n:Nat)(p:Int):List ByteArray×List Int×Int×Bool:=
 if Dt h.version_ (h.base_+n) b p=true then([],[],p,true)
 else match Ap h.version_ (h.base_+n) b p with
  |(r,q,true)=>if p<q∧q≤b.size then(r::(Gp h b (n+1) q).1,p::(Gp h b (n+1) q).2.1,(Gp h b (n+1) q).2.2)else([],[],p,false)
  |_=>([],[],p,false)
termination_by (b.size - p).toNat
decreasing_by all_goals omega
def Bk(b:ByteArray):My:=match Br b with
 |(h,true)=>⟨true,h,(Gp h b 0 24).1,(Gp h b 0 24).2.1,(Gp h b 0 24).2.2.1,(Gp h b 0 24).2.2.2⟩
 |_=>⟨false,⟨0,0,0,0⟩,[],[],0,false⟩
theorem Sd{v n:Int}{r t:ByteArray}(e:A3 v n r=t)(h:t≠tx []):5≤t.size:=by
 unfold A3 at e
 split at e
 ·rename_i hh
  have h4:=Rc _ (Qc r)
  have h1:1≤(if v=2 then K1 n r.size else D5 r.size).size:=by
   split
   ·unfold K1
    rw[ByteArray.size_append,Rc _ (by omega)]
    omega
   ·unfold D5
    rw[if_pos (by omega),D4]
    exact List.length_pos_iff.2 (Xdx _)
  rw[←e,ByteArray.size_append,ByteArray.size_append]
  omega
 ·exact absurd e.symm h
theorem Gk{v n p q:Int}{b r:ByteArray}(h:Ap v n b p=(r,q,true)):0≤p∧p+5≤q∧q≤b.size∧r.size≤60∧(v=1∨v=2)∧0≤n∧n≤1000000000∧q=p+(A3 v n r).size∧Fc b p (A3 v n r)=true:=by
 have key:∀{x s:Int},0≤s→0≤x→Gc v n b p x s=(r,q,true)→0≤p∧p+5≤q∧q≤b.size∧r.size≤60∧(v=1∨v=2)∧0≤n∧n≤1000000000∧q=p+(A3 v n r).size∧Fc b p (A3 v n r)=true:=by
  intro x s hs hx e
  unfold Gc at e
  split at e
  ·rename_i hh
   obtain⟨h1,h2,h3,h4⟩:=hh
   simp only[Prod.mk.injEq,and_true]at e
   obtain⟨rfl,rfl⟩:=e
   have h5:=Sd rfl h3
   have h6:=of_decide_eq_true h4
   have h7:(b.extract s.toNat (s+x).toNat).size=x.toNat:=by rw[Xan (by omega) (by omega)];omega
   have h8:(v=1∨v=2)∧0≤n∧n≤1000000000:=by
    by_cases hh:(v=1∨v=2)∧0≤n∧n≤1000000000
    ·exact hh
    ·exact absurd (H6 hh) h3
   exact⟨h6.1.1,by omega,by omega,by omega,h8.1,h8.2.1,h8.2.2,rfl,h4⟩
  ·simp at e
 rcases h1:Bo b p 4 with⟨x,ok⟩
 rcases h2:Cb b p with⟨y,s,ok2⟩
 by_cases hv:v=2
 ·rw[H4 hv h1]at h
  cases ok
  ·simp at h
  ·have:=Ka h1
   exact key (by omega) (by omega) h
 ·rw[Hx hv h2]at h
  cases ok2
  ·simp at h
  ·have:=Ju h2
   exact key (by omega) (by omega) h
theorem Lw{h:C5}{b:ByteArray}{n:Nat}{p:Int}(hm:Dt h.version_ (h.base_+n) b p=true):Gp h b n p=([],[],p,true):=by rw[Gp,if_pos hm]
theorem Ll{h:C5}{b:ByteArray}{n:Nat}{p:Int}{r:ByteArray}{q:Int}(hm:Dt h.version_ (h.base_+n) b p=false)(hf:Ap h.version_ (h.base_+n) b p=(r,q,false)):Gp h b n p=([],[],p,false):=by rw[Gp,if_neg (by rw[hm];simp),hf]
theorem Ln{h:C5}{b:ByteArray}{n:Nat}{p:Int}{r:ByteArray}{q:Int}(hm:Dt h.version_ (h.base_+n) b p=false)(hf:Ap h.version_ (h.base_+n) b p=(r,q,true)):Gp h b n p=(r::(Gp h b (n+1) q).1,p::(Gp h b (n+1) q).2.1,(Gp h b (n+1) q).2.2):=by
 have:=Gk hf
 rw[Gp,if_neg (by rw[hm];simp),hf]
 simp only[]
 rw[if_pos (by omega)]
variable {b:ByteArray} {ook omar:Bool} {oheaver oheastr oheabas ohealin oend:Int} {orec:List ByteArray} {xorec xooff:List (List D)} {ooff:List Int}
theorem Xb3(hs:b.size<2^47)(hr:Bk b=⟨ook,⟨oheaver,oheastr,oheabas,ohealin⟩,orec,ooff,oend,omar⟩)(horec:orec.map cS=xorec)(hooff:ooff.map cI=xooff):Fn Tryz.prog 199 [S b] [] ⟨.agg [B ook,I oheaver,I oheastr,I oheabas,I ohealin,.d (.row 1 xorec),.d (.row 1 xooff),I oend,B omar],[],[]⟩:=by
 refine Fn.go Ud Tryz.func199 fun P hP Q hQ=>?_
 conv=>cbv
 rcases ak:Br b with⟨⟨aa,ac,ab,ad⟩,ap⟩
 refine .dd hP (Td (by omega) ak) ?_
 conv=>cbv
 cases ap
 conv=>cbv
 have e:(⟨false,⟨0,0,0,0⟩,[],[],0,false⟩:My)=Bk b:=(by unfold Bk;rw[ak])
 rw[hr]at e
 simp only[C5.mk.injEq,My.mk.injEq]at e
 obtain⟨rfl,⟨rfl,rfl,rfl,rfl⟩,rfl,rfl,rfl,rfl⟩:=e
 exact hQ _ _ (.one (.inl rfl) rfl (.agg (.d rfl rfl (.d rfl rfl (.d rfl rfl (.d rfl rfl (.d rfl rfl (.ref rfl rfl (by rw[←horec];rfl) (.ref rfl rfl (by rw[←hooff];rfl) (.d rfl rfl (.d rfl rfl (.nil)))))))))) .nil))
 conv=>cbv
 refine LoopW.lp (κ:=Int×(List (List D))×Nat×(List (List D))×Nat) Ud hP [4,5] [0,2,3,5] (fun(ae,al,am,af,ag)=>[]) (fun(ae,al,am,af,ag)=>[(8,.box 115 [B true,I aa,I ac,I ab,I ad,.ref 9 0 am,.ref 10 0 ag,I ae,B false]),(9,.row 1 false al),(10,.row 1 false af)])
  (fun(ae,al,am,af,ag)=>∃(w9:List ByteArray) (ai:List Int),w9.map cS=al∧am=w9.length∧ai.map cI=af∧ag=ai.length∧(24≤ae∧ae≤b.size∧w9.length=ai.length∧5*(w9.length:Int)+24≤ae)∧Gp ⟨aa,ac,ab,ad⟩ b 0 24=(w9++(Gp ⟨aa,ac,ab,ad⟩ b w9.length ae).1,ai++(Gp ⟨aa,ac,ab,ad⟩ b w9.length ae).2.1,(Gp ⟨aa,ac,ab,ad⟩ b w9.length ae).2.2))
  (fun(ae,al,am,af,ag)=>(b.size - ae).toNat) (24,[],0,[],0) ⟨[],[],rfl,rfl,rfl,rfl,by have:=F5 ak;simp;omega,rfl⟩ trivial rfl ?_
 rintro⟨ae,al,am,af,ag⟩ J ⟨w9,ai,ao,a1,ah,aq,hb,hS⟩ hJ
 have hd:=Lc (F5 ak).2.2
 conv=>cbv
 refine .go fun v2 a4=>?_
 conv=>cbv
 refine .add fun v3 a5=>?_
 conv=>cbv
 have e3:v3=ab+(w9.length:Int):=by omega
 generalize aj:Dt aa v3 b ae=r4
 refine .dd hP (Xe4 (by omega) (by omega) aj) ?_
 cases r4
 conv=>cbv
 rcases an:Ap aa v3 b ae with⟨ar,au,aw⟩
 refine .dd hP (Y6 (by omega) (by omega) an) ?_
 conv=>cbv
 cases aw
 conv=>cbv
 have e:(⟨true,⟨aa,ac,ab,ad⟩,w9,ai,ae,false⟩:My)=Bk b:=(by rw[e3]at aj an;unfold Bk;rw[ak];simp only[];rw[hS,Ll (h:=⟨aa,ac,ab,ad⟩) aj an];simp)
 rw[hr]at e
 simp only[C5.mk.injEq,My.mk.injEq]at e
 obtain⟨rfl,⟨rfl,rfl,rfl,rfl⟩,rfl,rfl,rfl,rfl⟩:=e
 exact hQ _ _ (.one (.inl rfl) rfl (.agg (.d rfl rfl (.d rfl rfl (.d rfl rfl (.d rfl rfl (.d rfl rfl (.ref rfl (by rw[←ao,List.length_map];first|omega|(simp;omega)) (by rw[←ao,←horec]) (.ref rfl (by rw[←ah,List.length_map];first|omega|(simp;omega)) (by rw[←ah,←hooff]) (.d rfl rfl (.d rfl rfl (.nil)))))))))) .nil))
 conv=>cbv
 have hf:=Gk an
 refine .one ar ao rfl fun ax z6 a2 ay=>?_
 conv=>cbv
 refine .one ae ah rfl fun az z7 a3 a0=>?_
 conv=>cbv
 exact .go [12,14] (au,z6,ax,z7,az) (hJ _ ⟨_,_,ay,Oq,a0,Oq,by simp;omega,by rw[e3]at aj an;rw[hS,Ln (h:=⟨aa,ac,ab,ad⟩) aj an];simp[List.append_assoc]⟩ mlt)
 conv=>cbv
 have e:(⟨true,⟨aa,ac,ab,ad⟩,w9,ai,ae,true⟩:My)=Bk b:=(by rw[e3]at aj;unfold Bk;rw[ak];simp only[];rw[hS,Lw (h:=⟨aa,ac,ab,ad⟩) aj];simp)
 rw[hr]at e
 simp only[C5.mk.injEq,My.mk.injEq]at e
 obtain⟨rfl,⟨rfl,rfl,rfl,rfl⟩,rfl,rfl,rfl,rfl⟩:=e
 exact hQ _ _ (.one (.inl rfl) rfl (.agg (.d rfl rfl (.d rfl rfl (.d rfl rfl (.d rfl rfl (.d rfl rfl (.ref rfl (by rw[←ao,List.length_map];first|omega|(simp;omega)) (by rw[←ao,←horec]) (.ref rfl (by rw[←ah,List.length_map];first|omega|(simp;omega)) (by rw[←ah,←hooff]) (.d rfl rfl (.d rfl rfl (.nil)))))))))) .nil))
theorem Tp(hs:b.size<2^47)(hr:Bk b=⟨ook,⟨oheaver,oheastr,oheabas,ohealin⟩,orec,ooff,oend,omar⟩)(horec:orec.map cS=xorec)(hooff:ooff.map cI=xooff):Fn Tryz.prog 190 [S b] [] ⟨.agg [B ook,I oheaver,I oheastr,I oheabas,I ohealin,.d (.row 1 xorec),.d (.row 1 xooff),I oend,B omar],[],[]⟩:=by
 refine Fn.go Ud Tryz.func190 fun P hP Q hQ=>?_
 conv=>cbv
 rcases ak:Br b with⟨⟨aa,ac,ab,ad⟩,ap⟩
 refine .dd hP (Tm (by omega) ak) ?_
 conv=>cbv
 cases ap
 conv=>cbv
 have e:(⟨false,⟨0,0,0,0⟩,[],[],0,false⟩:My)=Bk b:=(by unfold Bk;rw[ak])
 rw[hr]at e
 simp only[C5.mk.injEq,My.mk.injEq]at e
 obtain⟨rfl,⟨rfl,rfl,rfl,rfl⟩,rfl,rfl,rfl,rfl⟩:=e
 exact hQ _ _ (.one (.inl rfl) rfl (.agg (.d rfl rfl (.d rfl rfl (.d rfl rfl (.d rfl rfl (.d rfl rfl (.ref rfl rfl (by rw[←horec];rfl) (.ref rfl rfl (by rw[←hooff];rfl) (.d rfl rfl (.d rfl rfl (.nil)))))))))) .nil))
 conv=>cbv
 refine LoopW.lp (κ:=Int×(List (List D))×Nat×(List (List D))×Nat) Ud hP [4,5] [0,2,3,5] (fun(ae,al,am,af,ag)=>[]) (fun(ae,al,am,af,ag)=>[(8,.box 115 [B true,I aa,I ac,I ab,I ad,.ref 9 0 am,.ref 10 0 ag,I ae,B false]),(9,.row 1 false al),(10,.row 1 false af)])
  (fun(ae,al,am,af,ag)=>∃(w9:List ByteArray) (ai:List Int),w9.map cS=al∧am=w9.length∧ai.map cI=af∧ag=ai.length∧(24≤ae∧ae≤b.size∧w9.length=ai.length∧5*(w9.length:Int)+24≤ae)∧Gp ⟨aa,ac,ab,ad⟩ b 0 24=(w9++(Gp ⟨aa,ac,ab,ad⟩ b w9.length ae).1,ai++(Gp ⟨aa,ac,ab,ad⟩ b w9.length ae).2.1,(Gp ⟨aa,ac,ab,ad⟩ b w9.length ae).2.2))
  (fun(ae,al,am,af,ag)=>(b.size - ae).toNat) (24,[],0,[],0) ⟨[],[],rfl,rfl,rfl,rfl,by have:=F5 ak;simp;omega,rfl⟩ trivial rfl ?_
 rintro⟨ae,al,am,af,ag⟩ J ⟨w9,ai,ao,a1,ah,aq,hb,hS⟩ hJ
 have hd:=Lc (F5 ak).2.2
 conv=>cbv
 refine .go fun v2 a4=>?_
 conv=>cbv
 refine .add fun v3 a5=>?_
 conv=>cbv
 have e3:v3=ab+(w9.length:Int):=by omega
 generalize aj:Dt aa v3 b ae=r4
 refine .dd hP (XeJ (by omega) (by omega) aj) ?_
 cases r4
 conv=>cbv
 rcases an:Ap aa v3 b ae with⟨ar,au,aw⟩
 refine .dd hP (Zp (by omega) (by omega) an) ?_
 conv=>cbv
 cases aw
 conv=>cbv
 have e:(⟨true,⟨aa,ac,ab,ad⟩,w9,ai,ae,false⟩:My)=Bk b:=(by rw[e3]at aj an;unfold Bk;rw[ak];simp only[];rw[hS,Ll (h:=⟨aa,ac,ab,ad⟩) aj an];simp)
 rw[hr]at e
 simp only[C5.mk.injEq,My.mk.injEq]at e
 obtain⟨rfl,⟨rfl,rfl,rfl,rfl⟩,rfl,rfl,rfl,rfl⟩:=e
 exact hQ _ _ (.one (.inl rfl) rfl (.agg (.d rfl rfl (.d rfl rfl (.d rfl rfl (.d rfl rfl (.d rfl rfl (.ref rfl (by rw[←ao,List.length_map];first|omega|(simp;omega)) (by rw[←ao,←horec]) (.ref rfl (by rw[←ah,List.length_map];first|omega|(simp;omega)) (by rw[←ah,←hooff]) (.d rfl rfl (.d rfl rfl (.nil)))))))))) .nil))
 conv=>cbv
 have hf:=Gk an
 refine .one ar ao rfl fun ax z6 a2 ay=>?_
 conv=>cbv
 refine .one ae ah rfl fun az z7 a3 a0=>?_
 conv=>cbv
 exact .go [12,14] (au,z6,ax,z7,az) (hJ _ ⟨_,_,ay,Oq,a0,Oq,by simp;omega,by rw[e3]at aj an;rw[hS,Ln (h:=⟨aa,ac,ab,ad⟩) aj an];simp[List.append_assoc]⟩ mlt)
 conv=>cbv
 have e:(⟨true,⟨aa,ac,ab,ad⟩,w9,ai,ae,true⟩:My)=Bk b:=(by rw[e3]at aj;unfold Bk;rw[ak];simp only[];rw[hS,Lw (h:=⟨aa,ac,ab,ad⟩) aj];simp)
 rw[hr]at e
 simp only[C5.mk.injEq,My.mk.injEq]at e
 obtain⟨rfl,⟨rfl,rfl,rfl,rfl⟩,rfl,rfl,rfl,rfl⟩:=e
 exact hQ _ _ (.one (.inl rfl) rfl (.agg (.d rfl rfl (.d rfl rfl (.d rfl rfl (.d rfl rfl (.d rfl rfl (.ref rfl (by rw[←ao,List.length_map];first|omega|(simp;omega)) (by rw[←ao,←horec]) (.ref rfl (by rw[←ah,List.length_map];first|omega|(simp;omega)) (by rw[←ah,←hooff]) (.d rfl rfl (.d rfl rfl (.nil)))))))))) .nil))
end
section
open Go Go.Proofs
set_option maxRecDepth 20000
set_option maxHeartbeats 4000000
end
section
open Go Go.Proofs
set_option maxRecDepth 20000
set_option maxHeartbeats 4000000
end
section
open Go Go.Proofs
set_option maxRecDepth 20000
set_option maxHeartbeats 4000000
end
section
open Go Go.Proofs
set_option maxRecDepth 20000
set_option maxHeartbeats 4000000
end
section
open Go Go.Proofs
set_option maxRecDepth 20000
set_option maxHeartbeats 4000000
theorem Si:∀(k:Nat) {h:C5} {b:ByteArray} {n:Nat} {p:Int},(b.size - p).toNat≤k→0≤p∧p≤b.size→p+(Gp h b n p).1.length≤b.size
 |k,h,b,n,p,hk,hp=>by
  cases hm:Dt h.version_ (h.base_+n) b p
  ·rcases hf:Ap h.version_ (h.base_+n) b p with⟨r,q,ok⟩
   cases ok
   ·rw[Ll hm hf]
    simpa using hp.2
   ·have h2:=Gk hf
    rw[Ln hm hf]
    cases k with
    |zero=>omega
    |succ k=>
     have ih:=Si k (h:=h) (b:=b) (n:=n+1) (p:=q) (by omega) (by omega)
     rw[List.length_cons]
     omega
  ·rw[Lw hm]
   simpa using hp.2
theorem Hw{b:ByteArray}:(Bk b).records_.length≤b.size:=by
 unfold Bk
 split
 ·rename_i h e
  have h2:=F5 e
  have:=Si _ (h:=h) (b:=b) (n:=0) (p:=24) (Nat.le_refl _) (by omega)
  show(Gp h b 0 24).1.length≤_
  omega
 ·simp
end
section
open Go Go.Proofs
set_option maxRecDepth 20000
set_option maxHeartbeats 4000000
def Xa1:List (Nat×TyRow):=[ty3,ty9,XfP,Xdv,Xco,XbX,Z6]
theorem Zz:Ce Tryz.prog Xa1:=Ce.of (by kernel_rfl)
theorem E4:Setup Tryz.prog Xa1:=⟨Zz,mixed⟩
def S8{α:Type}(p:α→Bool)(l:List α):Int:=if l.findIdx p<l.length then(l.findIdx p:Int)else -1
section
variable {α:Type} {p:α→Bool} {l:List α} {i:Int}
theorem Mw(h0:0≤i)(hi:i.toNat<l.length)(h:p l[i.toNat]=true)(hb:∀(j:Nat) (hj:j<l.length),j<i.toNat→p l[j]=false):i=S8 p l:=by
 have e:l.findIdx p=i.toNat:=(List.findIdx_eq hi).2 ⟨h,fun j hji=>hb j (by omega) hji⟩
 unfold S8
 rw[e,if_pos hi]
 omega
theorem If(hb:∀(j:Nat) (hj:j<l.length),p l[j]=false): -1=S8 p l:=by
 unfold S8
 rw[if_neg]
 intro hlt
 have:=List.findIdx_getElem (w:=hlt)
 rw[hb _ hlt]at this
 cases this
theorem Xcr(e:S8 p l=i): -1≤i∧i<l.length:=by
 rw[←e]
 unfold S8
 split<;>omega
theorem Xam(e:S8 p l=i)(h:0≤i):∃hi:i.toNat<l.length,p l[i.toNat]=true:=by
 unfold S8 at e
 split at e
 ·rename_i hlt
  have e2:i.toNat=l.findIdx p:=by omega
  refine⟨by omega,?_⟩
  have:=List.findIdx_getElem (w:=hlt)
  simpa only[e2]using this
 ·omega
end
def B4(e:Aa)(name:ByteArray):Bool:=decide (e.name_=name)
def Do(l:List Aa)(name:ByteArray):Int:=S8 (fun e=>B4 e name) l
def A7(l:List Aa)(name:ByteArray):Int:=Do l name
def D3(n:Bb)(id:Int):Bool:=decide (n.id_=id)
def Dy(l:List Bb)(id:Int):Int:=S8 (fun n=>D3 n id) l
def G8(d:Ad)(id:Int):Int:=Dy d.nodes_ id
def Is(d:Ad)(id:Int):Int:=G8 d id
def C3(l:List Aa)(name:ByteArray):Int:=if A7 l name<0 then 0 else(l.getD (A7 l name).toNat ⟨tx [],0⟩).id_
def Fj(l:List Aa)(name:ByteArray):Bool:=decide (0≤A7 l name)
def Dx(d:Ad)(name:ByteArray):Int:=if A7 d.entries_ name<0 then -1 else G8 d (C3 d.entries_ name)
def Ff(d:Ad)(name:ByteArray):Bb×Bool:=if Dx d name<0 then(⟨0,tx [],0⟩,false)else(d.nodes_.getD (Dx d name).toNat ⟨0,tx [],0⟩,true)
def Fg(d:Ad)(name:ByteArray):ByteArray×Bool:=((Ff d name).1.text_,(Ff d name).2)
def okD(d:Ad):Prop:=d.nodes_.length≤1000000000∧(∀n∈d.nodes_,n.text_.size≤1000000000)∧d.entries_.length≤1000000000∧(∀e∈d.entries_,e.name_.size≤1000000000)∧d.old_.length≤1000000000∧d.steps_.length≤1000000000
theorem gD{α:Type}{l:List α}{k:Nat}{d:α}(h:k<l.length):l[k]=l.getD k d:=by rw[List.getD_eq_getElem?_getD,List.getElem?_eq_getElem h];rfl
theorem Gt{l:List Aa}{name:ByteArray}{i:Int}(e:A7 l name=i): -1≤i∧i<l.length:=Xcr e
theorem S6{d:Ad}{id i:Int}(e:G8 d id=i): -1≤i∧i<d.nodes_.length:=Xcr e
theorem Sw{d:Ad}{name:ByteArray}{i:Int}(e:Dx d name=i): -1≤i∧i<d.nodes_.length:=by
 unfold Dx at e
 split at e
 ·omega
 ·exact S6 e
theorem Zt{d:Ad}{name t:ByteArray}{ok:Bool}(hd:okD d)(e:Fg d name=(t,ok)):t.size≤1000000000:=by
 have e1:(Ff d name).1.text_=t:=congrArg Prod.fst e
 rw[←e1]
 unfold Ff
 split
 ·simp[D4]
 ·rename_i h
  have h2:=Sw (rfl:Dx d name=_)
  have h3:(Dx d name).toNat<d.nodes_.length:=by omega
  rw[←gD h3]
  exact hd.2.1 _ (List.getElem_mem h3)
theorem Mp{d:Ad}{name:ByteArray}:Ff d name=if Is d (C3 d.entries_ name)<0∨Fj d.entries_ name=false then(⟨0,tx [],0⟩,false)else(d.nodes_.getD (Is d (C3 d.entries_ name)).toNat ⟨0,tx [],0⟩,true):=by
 unfold Ff Dx Is Fj
 by_cases h:A7 d.entries_ name<0
 ·rw[if_pos h,if_pos (by omega),if_pos (.inr (by simp;omega))]
 ·rw[if_neg h]
  by_cases h2:G8 d (C3 d.entries_ name)<0
  ·rw[if_pos h2,if_pos (.inl h2)]
  ·rw[if_neg h2,if_neg]
   rintro(h3|h3)
   ·exact h2 h3
   ·simp at h3;omega
variable {name oatex oa:ByteArray} {o id Bj Bh oaid oasur:Int} {l Bf Bd:List Aa} {xl Cs Cx Cw Cy:List (List D)} {A6:List Bb} {A8:List ByteArray} {ob:Bool}
theorem Z9{enam:ByteArray}{eid:Int}{o:Bool}(hr:B4 (⟨enam,eid⟩:Aa) name=o):Fn Tryz.prog 322 [.agg [S enam,I eid],.ptr 0 0 0] [.box 9 [S name]] ⟨B o,[],[]⟩:=by
 refine Fn.goR E4 Tryz.func322 fun P hP Q hQ=>?_
 conv=>cbv
 refine .eql (fun h1=>?_) fun h1=>?_
 conv=>cbv
 have e:true=B4 (⟨enam,eid⟩:Aa) name:=(by unfold B4;symm;rw[decide_eq_true_eq];exact h1)
 rw[hr]at e
 subst e
 exact hQ _ _ (.of [] (.inl rfl) rfl rfl rfl rfl)
 conv=>cbv
 have e:false=B4 (⟨enam,eid⟩:Aa) name:=(by unfold B4;symm;rw[decide_eq_false_iff_not];exact h1)
 rw[hr]at e
 subst e
 exact hQ _ _ (.of [] (.inl rfl) rfl rfl rfl rfl)
theorem Qz{nid:Int}{ntex:ByteArray}{nsur:Int}{o:Bool}(hr:D3 (⟨nid,ntex,nsur⟩:Bb) id=o):Fn Tryz.prog 303 [.agg [I nid,S ntex,I nsur],.ptr 0 0 0] [.box 3 [I id]] ⟨B o,[],[]⟩:=by
 refine Fn.goR E4 Tryz.func303 fun P hP Q hQ=>?_
 conv=>cbv
 refine .eql (fun h1=>?_) fun h1=>?_
 conv=>cbv
 have e:true=D3 (⟨nid,ntex,nsur⟩:Bb) id:=(by unfold D3;symm;rw[decide_eq_true_eq];exact h1)
 rw[hr]at e
 subst e
 exact hQ _ _ (.of [] (.inl rfl) rfl rfl rfl rfl)
 conv=>cbv
 have e:false=D3 (⟨nid,ntex,nsur⟩:Bb) id:=(by unfold D3;symm;rw[decide_eq_false_iff_not];exact h1)
 rw[hr]at e
 subst e
 exact hQ _ _ (.of [] (.inl rfl) rfl rfl rfl rfl)
theorem Ky(hl:l.map Ac=xl)(hn:l.length<2^40)(hr:Do l name=o):Fn Tryz.prog 301 [.d (.row 2 xl),.clo 322 [.ptr 0 0 0]] [.box 9 [S name]] ⟨I o,[],[]⟩:=by
 refine Fn.goR E4 Tryz.func301 fun P hP Q hQ=>?_
 conv=>cbv
 refine .go hl fun v1 af=>?_
 conv=>cbv
 refine LoopW.lp (κ:=Int) E4 hP [] [0,1,7] (fun i8=>[(8,I i8)]) (fun i8=>[])
  (fun i8=>0≤i8∧i8≤l.length∧∀(j:Nat) (hj:j<l.length),j<i8.toNat→B4 l[j] name=false)
  (fun i8=>(l.length - i8).toNat) (0) ⟨by omega,by omega,fun j _ h=>by simp at h⟩ ⟨rfl,trivial⟩ rfl ?_
 rintro i8 J ⟨h0,h1,hb⟩ hJ
 conv=>cbv
 refine .lss (fun h2=>?_) fun h2=>?_
 conv=>cbv
 refine .go i8.toNat hl fun ae ⟨aa,ac⟩ ad=>?_
 conv=>cbv
 generalize ab:B4 (⟨aa,ac⟩:Aa) name=r4
 refine .bx [0] [] hP (Z9 ab) rfl rfl rfl rfl ?_
 cases r4
 conv=>cbv
 refine .add fun v5 ag=>?_
 conv=>cbv
 exact .go [] (v5) (hJ _ ⟨by omega,by omega,fun j hj h=>if e:j=i8.toNat then by subst e;rw[←ad];exact ab else hb j hj (by omega)⟩ mlt)
 conv=>cbv
 have e:i8=Do l name:=(by exact Mw (p:=fun x=>B4 x name) h0 (by omega) (ad▸ab) hb)
 rw[hr]at e
 subst e
 exact hQ _ _ (.of [] (.inl rfl) rfl rfl rfl rfl)
 conv=>cbv
 have e:(-1)=Do l name:=(by exact If (p:=fun x=>B4 x name) fun j hj=>hb j hj (by omega))
 rw[hr]at e
 subst e
 exact hQ _ _ (.of [] (.inl rfl) rfl rfl rfl rfl)
theorem Ma{l:List Bb}(hl:l.map Ci=xl)(hn:l.length<2^40)(hr:Dy l id=o):Fn Tryz.prog 302 [.d (.row 3 xl),.clo 303 [.ptr 0 0 0]] [.box 3 [I id]] ⟨I o,[],[]⟩:=by
 refine Fn.goR E4 Tryz.func302 fun P hP Q hQ=>?_
 conv=>cbv
 refine .go hl fun v1 ag=>?_
 conv=>cbv
 refine LoopW.lp (κ:=Int) E4 hP [] [0,1,7] (fun i8=>[(8,I i8)]) (fun i8=>[])
  (fun i8=>0≤i8∧i8≤l.length∧∀(j:Nat) (hj:j<l.length),j<i8.toNat→D3 l[j] id=false)
  (fun i8=>(l.length - i8).toNat) (0) ⟨by omega,by omega,fun j _ h=>by simp at h⟩ ⟨rfl,trivial⟩ rfl ?_
 rintro i8 J ⟨h0,h1,hb⟩ hJ
 conv=>cbv
 refine .lss (fun h2=>?_) fun h2=>?_
 conv=>cbv
 refine .go i8.toNat hl fun af ⟨ad,aa,ab⟩ ae=>?_
 conv=>cbv
 generalize ac:D3 (⟨ad,aa,ab⟩:Bb) id=r4
 refine .bx [0] [] hP (Qz ac) rfl rfl rfl rfl ?_
 cases r4
 conv=>cbv
 refine .add fun v5 ah=>?_
 conv=>cbv
 exact .go [] (v5) (hJ _ ⟨by omega,by omega,fun j hj h=>if e:j=i8.toNat then by subst e;rw[←ae];exact ac else hb j hj (by omega)⟩ mlt)
 conv=>cbv
 have e:i8=Dy l id:=(by exact Mw (p:=fun x=>D3 x id) h0 (by omega) (ae▸ac) hb)
 rw[hr]at e
 subst e
 exact hQ _ _ (.of [] (.inl rfl) rfl rfl rfl rfl)
 conv=>cbv
 have e:(-1)=Dy l id:=(by exact If (p:=fun x=>D3 x id) fun j hj=>hb j hj (by omega))
 rw[hr]at e
 subst e
 exact hQ _ _ (.of [] (.inl rfl) rfl rfl rfl rfl)
theorem Nd(hl:l.map Ac=xl)(hn:l.length<2^40)(hr:A7 l name=o):Fn Tryz.prog 280 [.d (.row 2 xl),S name] [] ⟨I o,[],[]⟩:=by
 refine Fn.go E4 Tryz.func280 fun P hP Q hQ=>?_
 conv=>cbv
 generalize aa:Do l name=r1
 refine .bx [0] [] hP (Ky hl (by omega) aa) rfl rfl rfl rfl ?_
 conv=>cbv
 have e:r1=A7 l name:=(by unfold A7;exact aa.symm)
 rw[hr]at e
 subst e
 exact hQ _ _ (.i rfl rfl)
theorem Kc(B9:A6.map Ci=Cs)(Cu:Bf.map Ac=Cx)(Ct:Bd.map Ac=Cw)(Cm:A8.map cS=Cy)(hn:A6.length<2^40)(hr:G8 (⟨A6,Bf,Bd,A8,Bj,Bh⟩:Ad) id=o):Fn Tryz.prog 249 [.agg [.d (.row 3 Cs),.d (.row 2 Cx),.d (.row 2 Cw),.d (.row 1 Cy),I Bj,I Bh],I id] [] ⟨I o,[],[]⟩:=by
 refine Fn.go E4 Tryz.func249 fun P hP Q hQ=>?_
 conv=>cbv
 generalize aa:Dy A6 id=r1
 refine .bx [1] [] hP (Ma B9 (by omega) aa) rfl rfl rfl rfl ?_
 conv=>cbv
 have e:r1=G8 (⟨A6,Bf,Bd,A8,Bj,Bh⟩:Ad) id:=(by unfold G8;exact aa.symm)
 rw[hr]at e
 subst e
 exact hQ _ _ (.i rfl rfl)
theorem Vm(B9:A6.map Ci=Cs)(Cu:Bf.map Ac=Cx)(Ct:Bd.map Ac=Cw)(Cm:A8.map cS=Cy)(hd:okD ⟨A6,Bf,Bd,A8,Bj,Bh⟩)(hr:Dx (⟨A6,Bf,Bd,A8,Bj,Bh⟩:Ad) name=o):Fn Tryz.prog 217 [.agg [.d (.row 3 Cs),.d (.row 2 Cx),.d (.row 2 Cw),.d (.row 1 Cy),I Bj,I Bh],S name] [] ⟨I o,[],[]⟩:=by
 refine Fn.go E4 Tryz.func217 fun P hP Q hQ=>?_
 conv=>cbv
 obtain⟨d1,d2,d3,d4,d5,d6⟩:=hd
 simp only[]at d1 d2 d3 d4 d5 d6
 generalize aa:A7 Bf name=r1
 refine .dd hP (Nd Cu (by omega) aa) ?_
 conv=>cbv
 have hb:=Gt aa
 refine .lss (fun h2=>?_) fun h2=>?_
 conv=>cbv
 have e:(-1)=Dx (⟨A6,Bf,Bd,A8,Bj,Bh⟩:Ad) name:=(by unfold Dx;rw[if_pos (by simp only[];omega)])
 rw[hr]at e
 subst e
 exact hQ _ _ (.i rfl rfl)
 conv=>cbv
 refine .go r1.toNat Cu fun ab ⟨ae,ac⟩ af=>?_
 conv=>cbv
 generalize ad:G8 (⟨A6,Bf,Bd,A8,Bj,Bh⟩:Ad) ac=r4
 refine .dd hP (Kc B9 Cu Ct Cm (by omega) ad) ?_
 conv=>cbv
 have e:r4=Dx (⟨A6,Bf,Bd,A8,Bj,Bh⟩:Ad) name:=(by unfold Dx C3;simp only[];rw[aa,if_neg (by omega),if_neg (by omega),←gD ab,←af];exact ad.symm)
 rw[hr]at e
 subst e
 exact hQ _ _ (.i rfl rfl)
theorem Xfi(B9:A6.map Ci=Cs)(Cu:Bf.map Ac=Cx)(Ct:Bd.map Ac=Cw)(Cm:A8.map cS=Cy)(hd:okD ⟨A6,Bf,Bd,A8,Bj,Bh⟩)(hr:Ff (⟨A6,Bf,Bd,A8,Bj,Bh⟩:Ad) name=(⟨oaid,oatex,oasur⟩,ob)):Fn Tryz.prog 147 [.agg [.d (.row 3 Cs),.d (.row 2 Cx),.d (.row 2 Cw),.d (.row 1 Cy),I Bj,I Bh],S name] [] ⟨.tup [.agg [I oaid,S oatex,I oasur],B ob],[],[]⟩:=by
 refine Fn.go E4 Tryz.func147 fun P hP Q hQ=>?_
 conv=>cbv
 generalize aa:Dx (⟨A6,Bf,Bd,A8,Bj,Bh⟩:Ad) name=r1
 refine .dd hP (Vm B9 Cu Ct Cm hd aa) ?_
 conv=>cbv
 have hb:=Sw aa
 simp only[]at hb
 refine .lss (fun h2=>?_) fun h2=>?_
 conv=>cbv
 have e:((⟨0,tx [],0⟩:Bb),false)=Ff (⟨A6,Bf,Bd,A8,Bj,Bh⟩:Ad) name:=(by unfold Ff;rw[if_pos (by rw[aa];omega)])
 rw[hr]at e
 simp only[Prod.mk.injEq,Bb.mk.injEq]at e
 obtain⟨⟨rfl,rfl,rfl⟩,rfl⟩:=e
 refine hQ _ _ ?_
 exact .many (.inl rfl) rfl rfl (.agg (.d rfl rfl (.d rfl rfl (.d rfl rfl (.nil)))) (.d rfl rfl (.nil)))
 conv=>cbv
 refine .go r1.toNat B9 fun af ⟨ad,ab,ac⟩ ae=>?_
 conv=>cbv
 have e:((⟨ad,ab,ac⟩:Bb),true)=Ff (⟨A6,Bf,Bd,A8,Bj,Bh⟩:Ad) name:=(by unfold Ff;rw[aa,if_neg (by omega)];simp only[];rw[←gD (show r1.toNat<A6.length by omega)];rw[←ae])
 rw[hr]at e
 simp only[Prod.mk.injEq,Bb.mk.injEq]at e
 obtain⟨⟨rfl,rfl,rfl⟩,rfl⟩:=e
 refine hQ _ _ ?_
 exact .many (.inl rfl) rfl rfl (.agg (.d rfl rfl (.d rfl rfl (.d rfl rfl (.nil)))) (.d rfl rfl (.nil)))
theorem Xb5(B9:A6.map Ci=Cs)(Cu:Bf.map Ac=Cx)(Ct:Bd.map Ac=Cw)(Cm:A8.map cS=Cy)(hd:okD ⟨A6,Bf,Bd,A8,Bj,Bh⟩)(hr:Fg (⟨A6,Bf,Bd,A8,Bj,Bh⟩:Ad) name=(oa,ob)):Fn Tryz.prog 261 [.agg [.d (.row 3 Cs),.d (.row 2 Cx),.d (.row 2 Cw),.d (.row 1 Cy),I Bj,I Bh],S name] [] ⟨.tup [S oa,B ob],[],[]⟩:=by
 refine Fn.go E4 Tryz.func261 fun P hP Q hQ=>?_
 conv=>cbv
 rcases ab:Ff (⟨A6,Bf,Bd,A8,Bj,Bh⟩:Ad) name with⟨⟨ad,aa,ac⟩,ae⟩
 refine .dd hP (Xfi B9 Cu Ct Cm hd ab) ?_
 conv=>cbv
 have e:(aa,ae)=Fg (⟨A6,Bf,Bd,A8,Bj,Bh⟩:Ad) name:=(by unfold Fg;rw[ab])
 rw[hr]at e
 simp only[Prod.mk.injEq]at e
 obtain⟨rfl,rfl⟩:=e
 refine hQ _ _ ?_
 exact .many (.inl rfl) rfl rfl (.d rfl rfl (.d rfl rfl (.nil)))
theorem P4(hl:l.map Ac=xl)(hn:l.length<2^40)(hr:C3 l name=o):Fn Tryz.prog 213 [.d (.row 2 xl),S name] [] ⟨I o,[],[]⟩:=by
 refine Fn.go E4 Tryz.func213 fun P hP Q hQ=>?_
 conv=>cbv
 refine LoopW.lp (κ:=Int) E4 hP [] [0,1] (fun i5=>[(5,I i5)]) (fun i5=>[])
  (fun i5=>0≤i5∧i5≤l.length∧∀(j:Nat) (hj:j<l.length),j<i5.toNat→B4 l[j] name=false)
  (fun i5=>(l.length - i5).toNat) (0) ⟨by omega,by omega,fun j _ h=>by simp at h⟩ ⟨rfl,trivial⟩ rfl ?_
 rintro i5 J ⟨h0,h1,hb⟩ hJ
 conv=>cbv
 refine .go hl fun v1 ai=>?_
 conv=>cbv
 refine .lss (fun h2=>?_) fun h2=>?_
 conv=>cbv
 refine .go i5.toNat hl fun ag ⟨ad,ah⟩ aa=>?_
 conv=>cbv
 refine .eql (fun h4=>?_) fun h4=>?_
 conv=>cbv
 refine .go i5.toNat hl fun ab ⟨ae,ac⟩ af=>?_
 conv=>cbv
 have e:ac=C3 l name:=(by have e2:A7 l name=i5:=(Mw (p:=fun x=>B4 x name) (l:=l) h0 (by omega) (by rw[←aa];unfold B4;rw[decide_eq_true_eq];exact h4) hb).symm;unfold C3;rw[e2,if_neg (by omega),←gD ab,←af])
 rw[hr]at e
 subst e
 exact hQ _ _ (.i rfl rfl)
 conv=>cbv
 refine .add fun v5 aj=>?_
 conv=>cbv
 exact .go [] (v5) (hJ _ ⟨by omega,by omega,fun j hj h=>if e:j=i5.toNat then by subst e;rw[←aa];unfold B4;rw[decide_eq_false_iff_not];exact h4 else hb j hj (by omega)⟩ mlt)
 conv=>cbv
 have e:0=C3 l name:=(by have e2:A7 l name= -1:=(If (p:=fun x=>B4 x name) fun j hj=>hb j hj (by omega)).symm;unfold C3;rw[e2,if_pos (by omega)])
 rw[hr]at e
 subst e
 exact hQ _ _ (.i rfl rfl)
theorem Xs(B9:A6.map Ci=Cs)(Cu:Bf.map Ac=Cx)(Ct:Bd.map Ac=Cw)(Cm:A8.map cS=Cy)(hn:A6.length<2^40)(hr:Is (⟨A6,Bf,Bd,A8,Bj,Bh⟩:Ad) id=o):Fn Tryz.prog 212 [.agg [.d (.row 3 Cs),.d (.row 2 Cx),.d (.row 2 Cw),.d (.row 1 Cy),I Bj,I Bh],I id] [] ⟨I o,[],[]⟩:=by
 refine Fn.go E4 Tryz.func212 fun P hP Q hQ=>?_
 conv=>cbv
 refine LoopW.lp (κ:=Int) E4 hP [] [1,2] (fun i5=>[(5,I i5)]) (fun i5=>[])
  (fun i5=>0≤i5∧i5≤A6.length∧∀(j:Nat) (hj:j<A6.length),j<i5.toNat→D3 A6[j] id=false)
  (fun i5=>(A6.length - i5).toNat) (0) ⟨by omega,by omega,fun j _ h=>by simp at h⟩ ⟨rfl,trivial⟩ rfl ?_
 rintro i5 J ⟨h0,h1,hb⟩ hJ
 conv=>cbv
 refine .go B9 fun v1 af=>?_
 conv=>cbv
 refine .lss (fun h2=>?_) fun h2=>?_
 conv=>cbv
 refine .go i5.toNat B9 fun ad ⟨ae,ab,ac⟩ aa=>?_
 conv=>cbv
 refine .eql (fun h4=>?_) fun h4=>?_
 conv=>cbv
 have e:i5=Is (⟨A6,Bf,Bd,A8,Bj,Bh⟩:Ad) id:=(by exact Mw (p:=fun x=>D3 x id) (l:=A6) h0 (by omega) (by rw[←aa];unfold D3;rw[decide_eq_true_eq];exact h4) hb)
 rw[hr]at e
 subst e
 exact hQ _ _ (.i rfl rfl)
 conv=>cbv
 refine .add fun v5 ag=>?_
 conv=>cbv
 exact .go [] (v5) (hJ _ ⟨by omega,by omega,fun j hj h=>if e:j=i5.toNat then by subst e;rw[←aa];unfold D3;rw[decide_eq_false_iff_not];exact h4 else hb j hj (by omega)⟩ mlt)
 conv=>cbv
 have e:(-1)=Is (⟨A6,Bf,Bd,A8,Bj,Bh⟩:Ad) id:=(by exact If (p:=fun x=>D3 x id) (l:=A6) fun j hj=>hb j hj (by omega))
 rw[hr]at e
 subst e
 exact hQ _ _ (.i rfl rfl)
theorem Xbe{o:Bool}(hl:l.map Ac=xl)(hn:l.length<2^40)(hr:Fj l name=o):Fn Tryz.prog 214 [.d (.row 2 xl),S name] [] ⟨B o,[],[]⟩:=by
 refine Fn.go E4 Tryz.func214 fun P hP Q hQ=>?_
 conv=>cbv
 refine LoopW.lp (κ:=Int) E4 hP [] [0,1] (fun i5=>[(5,I i5)]) (fun i5=>[])
  (fun i5=>0≤i5∧i5≤l.length∧∀(j:Nat) (hj:j<l.length),j<i5.toNat→B4 l[j] name=false)
  (fun i5=>(l.length - i5).toNat) (0) ⟨by omega,by omega,fun j _ h=>by simp at h⟩ ⟨rfl,trivial⟩ rfl ?_
 rintro i5 J ⟨h0,h1,hb⟩ hJ
 conv=>cbv
 refine .go hl fun v1 ae=>?_
 conv=>cbv
 refine .lss (fun h2=>?_) fun h2=>?_
 conv=>cbv
 refine .go i5.toNat hl fun ac ⟨ab,ad⟩ aa=>?_
 conv=>cbv
 refine .eql (fun h4=>?_) fun h4=>?_
 conv=>cbv
 have e:true=Fj l name:=(by have e2:A7 l name=i5:=(Mw (p:=fun x=>B4 x name) (l:=l) h0 (by omega) (by rw[←aa];unfold B4;rw[decide_eq_true_eq];exact h4) hb).symm;unfold Fj;rw[e2];symm;rw[decide_eq_true_eq];omega)
 rw[hr]at e
 subst e
 exact hQ _ _ (.b rfl rfl)
 conv=>cbv
 refine .add fun v5 af=>?_
 conv=>cbv
 exact .go [] (v5) (hJ _ ⟨by omega,by omega,fun j hj h=>if e:j=i5.toNat then by subst e;rw[←aa];unfold B4;rw[decide_eq_false_iff_not];exact h4 else hb j hj (by omega)⟩ mlt)
 conv=>cbv
 have e:false=Fj l name:=(by have e2:A7 l name= -1:=(If (p:=fun x=>B4 x name) fun j hj=>hb j hj (by omega)).symm;unfold Fj;rw[e2];rfl)
 rw[hr]at e
 subst e
 exact hQ _ _ (.b rfl rfl)
theorem XeY(B9:A6.map Ci=Cs)(Cu:Bf.map Ac=Cx)(Ct:Bd.map Ac=Cw)(Cm:A8.map cS=Cy)(hd:okD ⟨A6,Bf,Bd,A8,Bj,Bh⟩)(hr:Ff (⟨A6,Bf,Bd,A8,Bj,Bh⟩:Ad) name=(⟨oaid,oatex,oasur⟩,ob)):Fn Tryz.prog 135 [.agg [.d (.row 3 Cs),.d (.row 2 Cx),.d (.row 2 Cw),.d (.row 1 Cy),I Bj,I Bh],S name] [] ⟨.tup [.agg [I oaid,S oatex,I oasur],B ob],[],[]⟩:=by
 refine Fn.go E4 Tryz.func135 fun P hP Q hQ=>?_
 conv=>cbv
 obtain⟨d1,d2,d3,d4,d5,d6⟩:=hd
 simp only[]at d1 d2 d3 d4 d5 d6
 generalize ab:C3 Bf name=r1
 refine .dd hP (P4 Cu (by omega) ab) ?_
 conv=>cbv
 generalize aa:Is (⟨A6,Bf,Bd,A8,Bj,Bh⟩:Ad) r1=r2
 refine .dd hP (Xs B9 Cu Ct Cm (by omega) aa) ?_
 conv=>cbv
 have hb:=S6 (d:=⟨A6,Bf,Bd,A8,Bj,Bh⟩) (id:=r1) aa
 simp only[]at hb
 refine .lss (fun h3=>?_) fun h3=>?_
 conv=>cbv
 have e:((⟨0,tx [],0⟩:Bb),false)=Ff (⟨A6,Bf,Bd,A8,Bj,Bh⟩:Ad) name:=(by rw[Mp,if_pos (.inl (by simp only[];rw[ab,aa];omega))])
 rw[hr]at e
 simp only[Prod.mk.injEq,Bb.mk.injEq]at e
 obtain⟨⟨rfl,rfl,rfl⟩,rfl⟩:=e
 refine hQ _ _ ?_
 exact .many (.inl rfl) rfl rfl (.agg (.d rfl rfl (.d rfl rfl (.d rfl rfl (.nil)))) (.d rfl rfl (.nil)))
 conv=>cbv
 generalize ac:Fj Bf name=r4
 refine .dd hP (Xbe Cu (by omega) ac) ?_
 cases r4
 conv=>cbv
 have e:((⟨0,tx [],0⟩:Bb),false)=Ff (⟨A6,Bf,Bd,A8,Bj,Bh⟩:Ad) name:=(by rw[Mp,if_pos (.inr ac)])
 rw[hr]at e
 simp only[Prod.mk.injEq,Bb.mk.injEq]at e
 obtain⟨⟨rfl,rfl,rfl⟩,rfl⟩:=e
 refine hQ _ _ ?_
 exact .many (.inl rfl) rfl rfl (.agg (.d rfl rfl (.d rfl rfl (.d rfl rfl (.nil)))) (.d rfl rfl (.nil)))
 conv=>cbv
 refine .go r2.toNat B9 fun ah ⟨af,ad,ae⟩ ag=>?_
 conv=>cbv
 have e:((⟨af,ad,ae⟩:Bb),true)=Ff (⟨A6,Bf,Bd,A8,Bj,Bh⟩:Ad) name:=(by rw[Mp,if_neg (by simp only[];rw[ab,aa,ac];rintro(h|h);omega;cases h)];simp only[];rw[ab,aa,←gD (show r2.toNat<A6.length by omega),←ag])
 rw[hr]at e
 simp only[Prod.mk.injEq,Bb.mk.injEq]at e
 obtain⟨⟨rfl,rfl,rfl⟩,rfl⟩:=e
 refine hQ _ _ ?_
 exact .many (.inl rfl) rfl rfl (.agg (.d rfl rfl (.d rfl rfl (.d rfl rfl (.nil)))) (.d rfl rfl (.nil)))
theorem Xbz(B9:A6.map Ci=Cs)(Cu:Bf.map Ac=Cx)(Ct:Bd.map Ac=Cw)(Cm:A8.map cS=Cy)(hd:okD ⟨A6,Bf,Bd,A8,Bj,Bh⟩)(hr:Fg (⟨A6,Bf,Bd,A8,Bj,Bh⟩:Ad) name=(oa,ob)):Fn Tryz.prog 186 [.agg [.d (.row 3 Cs),.d (.row 2 Cx),.d (.row 2 Cw),.d (.row 1 Cy),I Bj,I Bh],S name] [] ⟨.tup [S oa,B ob],[],[]⟩:=by
 refine Fn.go E4 Tryz.func186 fun P hP Q hQ=>?_
 conv=>cbv
 rcases ab:Ff (⟨A6,Bf,Bd,A8,Bj,Bh⟩:Ad) name with⟨⟨ad,aa,ac⟩,ae⟩
 refine .dd hP (XeY B9 Cu Ct Cm hd ab) ?_
 conv=>cbv
 have e:(aa,ae)=Fg (⟨A6,Bf,Bd,A8,Bj,Bh⟩:Ad) name:=(by unfold Fg;rw[ab])
 rw[hr]at e
 simp only[Prod.mk.injEq]at e
 obtain⟨rfl,rfl⟩:=e
 refine hQ _ _ ?_
 exact .many (.inl rfl) rfl rfl (.d rfl rfl (.d rfl rfl (.nil)))
end
section
open Go.Proofs
open Go.Shelf
def Tryz.lays172_ren:Go.Shelf.Ren:=⟨fun|172=>305|244=>331|245=>324|247=>354|279=>346|280=>347|281=>348|282=>349|287=>323|316=>362|171=>216|205=>363|321=>344|322=>345|243=>279|246=>314|283=>335|284=>336|285=>337|286=>338|129=>357|317=>356|318=>358|319=>359|320=>360|337=>367|338=>368|n=>n,fun|9=>9|3=>3|75=>221|76=>222|4=>4|5=>5|167=>273|37=>135|0=>0|85=>279|2=>2|168=>275|53=>228|175=>229|46=>196|210=>287|127=>249|145=>294|143=>292|21=>21|171=>262|173=>265|212=>282|51=>260|20=>20|213=>283|232=>295|233=>296|80=>225|n=>n,fun|15=>2|16=>3|17=>1|18=>4|19=>5|n=>n⟩
def Tryz.laysM246_ren:Go.Shelf.Ren:=⟨fun|246=>314|283=>335|284=>336|285=>337|286=>338|129=>357|317=>356|318=>358|319=>359|320=>360|337=>367|338=>368|n=>n,fun|2=>2|3=>3|9=>9|4=>4|171=>262|0=>0|53=>228|37=>135|5=>5|173=>265|212=>282|51=>260|20=>20|213=>283|46=>196|232=>295|233=>296|n=>n,fun|17=>1|18=>4|19=>5|n=>n⟩
def Tryz.laysM243_ren:Go.Shelf.Ren:=⟨fun|243=>279|246=>314|283=>335|284=>336|285=>337|286=>338|129=>357|317=>356|318=>358|319=>359|320=>360|337=>367|338=>368|n=>n,fun|3=>3|9=>9|2=>2|4=>4|171=>262|0=>0|53=>228|37=>135|5=>5|173=>265|212=>282|51=>260|20=>20|213=>283|46=>196|232=>295|233=>296|n=>n,fun|17=>1|18=>4|19=>5|n=>n⟩
def Tryz.laysM171_ren:Go.Shelf.Ren:=⟨fun|171=>216|243=>279|246=>314|283=>335|284=>336|285=>337|286=>338|129=>357|317=>356|318=>358|319=>359|320=>360|337=>367|338=>368|n=>n,fun|3=>3|9=>9|2=>2|4=>4|171=>262|0=>0|53=>228|37=>135|5=>5|173=>265|212=>282|51=>260|20=>20|213=>283|46=>196|232=>295|233=>296|n=>n,fun|17=>1|18=>4|19=>5|n=>n⟩
theorem Tryz.laysM171:Go.Proofs.LaysM.n171 Tryz.prog Tryz.laysM171_ren:={
 mixed:=by kernel_rfl
 f129:=Tryz.func357.trans (congrArg some (by kernel_rfl))
 f171:=Tryz.func216.trans (congrArg some (by kernel_rfl))
 f243:=Tryz.func279.trans (congrArg some (by kernel_rfl))
 f246:=Tryz.func314.trans (congrArg some (by kernel_rfl))
 f283:=Tryz.func335.trans (congrArg some (by kernel_rfl))
 f284:=Tryz.func336.trans (congrArg some (by kernel_rfl))
 f285:=Tryz.func337.trans (congrArg some (by kernel_rfl))
 f286:=Tryz.func338.trans (congrArg some (by kernel_rfl))
 f317:=Tryz.func356.trans (congrArg some (by kernel_rfl))
 f318:=Tryz.func358.trans (congrArg some (by kernel_rfl))
 f319:=Tryz.func359.trans (congrArg some (by kernel_rfl))
 f320:=Tryz.func360.trans (congrArg some (by kernel_rfl))
 f337:=Tryz.func367.trans (congrArg some (by kernel_rfl))
 f338:=Tryz.func368.trans (congrArg some (by kernel_rfl))
 t0:=Tryz.underlying0
 a0:=Tryz.isAgg0
 z0:=Tryz.sizeOf0
 v0:=Tryz.zeroValue0
 t2:=Tryz.underlying2
 a2:=Tryz.isAgg2
 z2:=Tryz.sizeOf2
 v2:=Tryz.zeroValue2
 t3:=Tryz.underlying3
 a3:=Tryz.isAgg3
 z3:=Tryz.sizeOf3
 v3:=Tryz.zeroValue3
 t4:=Tryz.underlying4
 a4:=Tryz.isAgg4
 z4:=Tryz.sizeOf4
 v4:=Tryz.zeroValue4
 t5:=Tryz.underlying5
 a5:=Tryz.isAgg5
 z5:=Tryz.sizeOf5
 v5:=Tryz.zeroValue5
 t9:=Tryz.underlying9
 a9:=Tryz.isAgg9
 z9:=Tryz.sizeOf9
 v9:=Tryz.zeroValue9
 t20:=Tryz.underlying20
 a20:=Tryz.isAgg20
 z20:=Tryz.sizeOf20
 v20:=Tryz.zeroValue20
 t37:=Tryz.underlying135
 a37:=Tryz.isAgg135
 z37:=Tryz.sizeOf135
 v37:=Tryz.zeroValue135
 t46:=Tryz.underlying196
 a46:=Tryz.isAgg196
 z46:=Tryz.sizeOf196
 v46:=Tryz.zeroValue196
 t51:=Tryz.underlying260
 a51:=Tryz.isAgg260
 z51:=Tryz.sizeOf260
 v51:=Tryz.zeroValue260
 t53:=Tryz.underlying228
 a53:=Tryz.isAgg228
 z53:=Tryz.sizeOf228
 v53:=Tryz.zeroValue228
 t171:=Tryz.underlying262
 a171:=Tryz.isAgg262
 z171:=Tryz.sizeOf262
 v171:=Tryz.zeroValue262
 t173:=Tryz.underlying265
 a173:=Tryz.isAgg265
 z173:=Tryz.sizeOf265
 v173:=Tryz.zeroValue265
 t212:=Tryz.underlying282
 a212:=Tryz.isAgg282
 z212:=Tryz.sizeOf282
 v212:=Tryz.zeroValue282
 t213:=Tryz.underlying283
 a213:=Tryz.isAgg283
 z213:=Tryz.sizeOf283
 t232:=Tryz.underlying295
 a232:=Tryz.isAgg295
 z232:=Tryz.sizeOf295
 v232:=Tryz.zeroValue295
 t233:=Tryz.underlying296
 a233:=Tryz.isAgg296
 z233:=Tryz.sizeOf296
 v233:=Tryz.zeroValue296
 g17:=by kernel_rfl
 g18:=by kernel_rfl
 g19:=by kernel_rfl
 i0:=by kernel_rfl
 i2:=by kernel_rfl
 i3:=by kernel_rfl
 i4:=by kernel_rfl
 i5:=by kernel_rfl
 i9:=by kernel_rfl
 i20:=by kernel_rfl
 i37:=by kernel_rfl
 i46:=by kernel_rfl
 i51:=by kernel_rfl
 i53:=by kernel_rfl
 i171:=by kernel_rfl
 i173:=by kernel_rfl
 i212:=by kernel_rfl
 i232:=by kernel_rfl
 i233:=by kernel_rfl
 m17:=by kernel_rfl
 m18:=by kernel_rfl
 m19:=by kernel_rfl}
open Go.RowKit Go.Sort Go.Lib in
theorem Tryz.strconv_Itoa(n:Int)(h0: -9223372036854775808≤n)(h1:n≤9223372036854775807)(w:World)(htab:Lib.TabIs Tryz.prog w "internal/strconv.uint64pow10" .u64 Lib.pow10Tab):
  Calls Tryz.prog 216 #[.int .i64 n] w fun e w'=>e= .returned (.string ⟨(Lib.itoa n).toArray⟩)∧∃k os,w'=grow (w.drewN k) os:=Any.strconv_Itoa Tryz.laysM171 n h0 h1 w htab
def Tryz.laysC172_ren:Go.Shelf.Ren:=⟨fun|172=>305|244=>331|245=>324|247=>354|279=>346|280=>347|281=>348|282=>349|287=>323|316=>362|171=>216|205=>363|321=>344|322=>345|243=>279|246=>314|283=>335|284=>336|285=>337|286=>338|129=>357|317=>356|318=>358|319=>359|320=>360|337=>367|338=>368|n=>n,fun|9=>9|3=>3|75=>221|76=>222|4=>4|5=>5|167=>273|37=>135|0=>0|85=>279|2=>2|168=>275|53=>228|175=>229|46=>196|210=>287|127=>249|145=>294|143=>292|21=>21|171=>262|173=>265|212=>282|51=>260|20=>20|213=>283|232=>295|233=>296|80=>225|n=>n,fun|15=>2|16=>3|17=>1|18=>4|19=>5|n=>n⟩
theorem Tryz.laysC172:Go.Proofs.LaysC.n172 Tryz.prog Tryz.laysC172_ren:={
 mixed:=by kernel_rfl
 f129:=Tryz.func357.trans (congrArg some (by kernel_rfl))
 f171:=Tryz.func216.trans (congrArg some (by kernel_rfl))
 f172:=Tryz.func305.trans (congrArg some (by kernel_rfl))
 f205:=Tryz.func363.trans (congrArg some (by kernel_rfl))
 f243:=Tryz.func279.trans (congrArg some (by kernel_rfl))
 f244:=Tryz.func331.trans (congrArg some (by kernel_rfl))
 f245:=Tryz.func324.trans (congrArg some (by kernel_rfl))
 f246:=Tryz.func314.trans (congrArg some (by kernel_rfl))
 f247:=Tryz.func354.trans (congrArg some (by kernel_rfl))
 f279:=Tryz.func346.trans (congrArg some (by kernel_rfl))
 f280:=Tryz.func347.trans (congrArg some (by kernel_rfl))
 f281:=Tryz.func348.trans (congrArg some (by kernel_rfl))
 f282:=Tryz.func349.trans (congrArg some (by kernel_rfl))
 f283:=Tryz.func335.trans (congrArg some (by kernel_rfl))
 f284:=Tryz.func336.trans (congrArg some (by kernel_rfl))
 f285:=Tryz.func337.trans (congrArg some (by kernel_rfl))
 f286:=Tryz.func338.trans (congrArg some (by kernel_rfl))
 f287:=Tryz.func323.trans (congrArg some (by kernel_rfl))
 f316:=Tryz.func362.trans (congrArg some (by kernel_rfl))
 f317:=Tryz.func356.trans (congrArg some (by kernel_rfl))
 f318:=Tryz.func358.trans (congrArg some (by kernel_rfl))
 f319:=Tryz.func359.trans (congrArg some (by kernel_rfl))
 f320:=Tryz.func360.trans (congrArg some (by kernel_rfl))
 f321:=Tryz.func344.trans (congrArg some (by kernel_rfl))
 f322:=Tryz.func345.trans (congrArg some (by kernel_rfl))
 f337:=Tryz.func367.trans (congrArg some (by kernel_rfl))
 f338:=Tryz.func368.trans (congrArg some (by kernel_rfl))
 t0:=Tryz.underlying0
 a0:=Tryz.isAgg0
 z0:=Tryz.sizeOf0
 v0:=Tryz.zeroValue0
 t2:=Tryz.underlying2
 a2:=Tryz.isAgg2
 z2:=Tryz.sizeOf2
 v2:=Tryz.zeroValue2
 t3:=Tryz.underlying3
 a3:=Tryz.isAgg3
 z3:=Tryz.sizeOf3
 v3:=Tryz.zeroValue3
 t4:=Tryz.underlying4
 a4:=Tryz.isAgg4
 z4:=Tryz.sizeOf4
 v4:=Tryz.zeroValue4
 t5:=Tryz.underlying5
 a5:=Tryz.isAgg5
 z5:=Tryz.sizeOf5
 v5:=Tryz.zeroValue5
 t9:=Tryz.underlying9
 a9:=Tryz.isAgg9
 z9:=Tryz.sizeOf9
 v9:=Tryz.zeroValue9
 t20:=Tryz.underlying20
 a20:=Tryz.isAgg20
 z20:=Tryz.sizeOf20
 v20:=Tryz.zeroValue20
 t21:=Tryz.underlying21
 a21:=Tryz.isAgg21
 z21:=Tryz.sizeOf21
 v21:=Tryz.zeroValue21
 t37:=Tryz.underlying135
 a37:=Tryz.isAgg135
 z37:=Tryz.sizeOf135
 v37:=Tryz.zeroValue135
 t46:=Tryz.underlying196
 a46:=Tryz.isAgg196
 z46:=Tryz.sizeOf196
 v46:=Tryz.zeroValue196
 t51:=Tryz.underlying260
 a51:=Tryz.isAgg260
 z51:=Tryz.sizeOf260
 v51:=Tryz.zeroValue260
 t53:=Tryz.underlying228
 a53:=Tryz.isAgg228
 z53:=Tryz.sizeOf228
 v53:=Tryz.zeroValue228
 t75:=Tryz.underlying221
 a75:=Tryz.isAgg221
 z75:=Tryz.sizeOf221
 v75:=Tryz.zeroValue221
 t76:=Tryz.underlying222
 a76:=Tryz.isAgg222
 z76:=Tryz.sizeOf222
 v76:=Tryz.zeroValue222
 t85:=Tryz.underlying279
 a85:=Tryz.isAgg279
 z85:=Tryz.sizeOf279
 v85:=Tryz.zeroValue279
 t127:=Tryz.underlying249
 a127:=Tryz.isAgg249
 z127:=Tryz.sizeOf249
 v127:=Tryz.zeroValue249
 t143:=Tryz.underlying292
 a143:=Tryz.isAgg292
 z143:=Tryz.sizeOf292
 v143:=Tryz.zeroValue292
 t145:=Tryz.underlying294
 a145:=Tryz.isAgg294
 z145:=Tryz.sizeOf294
 v145:=Tryz.zeroValue294
 t167:=Tryz.underlying273
 a167:=Tryz.isAgg273
 z167:=Tryz.sizeOf273
 v167:=Tryz.zeroValue273
 t168:=Tryz.underlying275
 a168:=Tryz.isAgg275
 z168:=Tryz.sizeOf275
 v168:=Tryz.zeroValue275
 t171:=Tryz.underlying262
 a171:=Tryz.isAgg262
 z171:=Tryz.sizeOf262
 v171:=Tryz.zeroValue262
 t173:=Tryz.underlying265
 a173:=Tryz.isAgg265
 z173:=Tryz.sizeOf265
 v173:=Tryz.zeroValue265
 t175:=Tryz.underlying229
 a175:=Tryz.isAgg229
 z175:=Tryz.sizeOf229
 v175:=Tryz.zeroValue229
 t210:=Tryz.underlying287
 a210:=Tryz.isAgg287
 z210:=Tryz.sizeOf287
 v210:=Tryz.zeroValue287
 t212:=Tryz.underlying282
 a212:=Tryz.isAgg282
 z212:=Tryz.sizeOf282
 v212:=Tryz.zeroValue282
 t213:=Tryz.underlying283
 a213:=Tryz.isAgg283
 z213:=Tryz.sizeOf283
 t232:=Tryz.underlying295
 a232:=Tryz.isAgg295
 z232:=Tryz.sizeOf295
 v232:=Tryz.zeroValue295
 t233:=Tryz.underlying296
 a233:=Tryz.isAgg296
 z233:=Tryz.sizeOf296
 v233:=Tryz.zeroValue296
 g15:=by kernel_rfl
 g16:=by kernel_rfl
 g17:=by kernel_rfl
 g18:=by kernel_rfl
 g19:=by kernel_rfl
 t80:=Tryz.underlying225
 a80:=Tryz.isAgg225
 z80:=Tryz.sizeOf225
 v80:=Tryz.zeroValue225
 i0:=by kernel_rfl
 i2:=by kernel_rfl
 i3:=by kernel_rfl
 i4:=by kernel_rfl
 i5:=by kernel_rfl
 i9:=by kernel_rfl
 i20:=by kernel_rfl
 i21:=by kernel_rfl
 i37:=by kernel_rfl
 i46:=by kernel_rfl
 i51:=by kernel_rfl
 i53:=by kernel_rfl
 i75:=by kernel_rfl
 i76:=by kernel_rfl
 i80:=by kernel_rfl
 i85:=by kernel_rfl
 i127:=by kernel_rfl
 i143:=by kernel_rfl
 i145:=by kernel_rfl
 i167:=by kernel_rfl
 i168:=by kernel_rfl
 i171:=by kernel_rfl
 i173:=by kernel_rfl
 i175:=by kernel_rfl
 i210:=by kernel_rfl
 i212:=by kernel_rfl
 i232:=by kernel_rfl
 i233:=by kernel_rfl
 m15:=by kernel_rfl
 m16:=by kernel_rfl
 m17:=by kernel_rfl
 m18:=by kernel_rfl
 m19:=by kernel_rfl
 c0:=by kernel_rfl
 c2:=by kernel_rfl
 c3:=by kernel_rfl
 c4:=by kernel_rfl
 c5:=by kernel_rfl
 c9:=by kernel_rfl
 c20:=by kernel_rfl
 c21:=by kernel_rfl
 c37:=by kernel_rfl
 c46:=by kernel_rfl
 c51:=by kernel_rfl
 c53:=by kernel_rfl
 c75:=by kernel_rfl
 c76:=by kernel_rfl
 c80:=by kernel_rfl
 c85:=by kernel_rfl
 c127:=by kernel_rfl
 c143:=by kernel_rfl
 c145:=by kernel_rfl
 c167:=by kernel_rfl
 c168:=by kernel_rfl
 c171:=by kernel_rfl
 c173:=by kernel_rfl
 c175:=by kernel_rfl
 c210:=by kernel_rfl
 c212:=by kernel_rfl
 c213:=by kernel_rfl
 c232:=by kernel_rfl
 c233:=by kernel_rfl}
open Go.RowKit in
theorem Tryz.strconv_Atoi_ok(s:ByteArray)(hmax:s.size≤9223372036854775806)(v:Int)(h:Lib.atoiAll s.data.toList= .ok v)(w:World):
  Calls Tryz.prog 305 #[.string s] w fun e w'=>e= .returned (.tuple #[.int .i64 v,.nilIface])∧(w'=w∨∃t,w'=Lib.bytesWorld w 5 t):=Any.strconv_Atoi_ok Tryz.laysC172 s hmax v h w
open Go.RowKit in
theorem Tryz.strconv_Atoi_syntax(s:ByteArray)(hlim:s.size≤281474976710656)(h:Lib.atoiAll s.data.toList=(Lib.atoiAll []))(ev:Value)(w:World)(hv:w.cell? ⟨2,0,none⟩=some ev)(hev:ev= .nilIface∨∃te pe,ev= .iface te pe):
  Calls Tryz.prog 305 #[.string s] w fun e w'=>∃N,e= .returned (.tuple #[.int .i64 (0),.iface 275 (.pointer (some ⟨N,0,none⟩))])∧w.heap.size≤N∧w'.heap[N]? =some (.cells #[.string ⟨#[65,116,111,105]⟩,.string s,ev] 287 (0,0))∧Below w.heap.size w w':=Any.strconv_Atoi_syntax Tryz.laysC172 s hlim h ev w hv hev
open Go.RowKit in
theorem Tryz.strconv_Atoi_range(s:ByteArray)(hlim:s.size≤281474976710656)(h:Lib.atoiAll s.data.toList= .range)(ev:Value)(w:World)(hv:w.cell? ⟨3,0,none⟩=some ev)(hev:ev= .nilIface∨∃te pe,ev= .iface te pe):
  Calls Tryz.prog 305 #[.string s] w fun e w'=>∃N,e= .returned (.tuple #[.int .i64 (Lib.atoiSat s.data.toList),.iface 275 (.pointer (some ⟨N,0,none⟩))])∧w.heap.size≤N∧w'.heap[N]? =some (.cells #[.string ⟨#[65,116,111,105]⟩,.string s,ev] 287 (0,0))∧Below w.heap.size w w':=Any.strconv_Atoi_range Tryz.laysC172 s hlim h ev w hv hev
def Tryz.lays219_ren:Go.Shelf.Ren:=⟨fun|219=>330|217=>350|225=>351|224=>352|267=>353|266=>364|314=>365|n=>n,fun|9=>9|3=>3|4=>4|5=>5|46=>196|146=>267|51=>260|n=>n,fun|1=>0|n=>n⟩
theorem Tryz.lays219:Go.Proofs.Lays.n219 Tryz.prog Tryz.lays219_ren:={
 mixed:=by kernel_rfl
 f217:=Tryz.func350.trans (congrArg some (by kernel_rfl))
 f219:=Tryz.func330.trans (congrArg some (by kernel_rfl))
 f224:=Tryz.func352.trans (congrArg some (by kernel_rfl))
 f225:=Tryz.func351.trans (congrArg some (by kernel_rfl))
 f266:=Tryz.func364.trans (congrArg some (by kernel_rfl))
 f267:=Tryz.func353.trans (congrArg some (by kernel_rfl))
 f314:=Tryz.func365.trans (congrArg some (by kernel_rfl))
 t3:=Tryz.underlying3
 a3:=Tryz.isAgg3
 z3:=Tryz.sizeOf3
 v3:=Tryz.zeroValue3
 t4:=Tryz.underlying4
 a4:=Tryz.isAgg4
 z4:=Tryz.sizeOf4
 v4:=Tryz.zeroValue4
 t5:=Tryz.underlying5
 a5:=Tryz.isAgg5
 z5:=Tryz.sizeOf5
 v5:=Tryz.zeroValue5
 t9:=Tryz.underlying9
 a9:=Tryz.isAgg9
 z9:=Tryz.sizeOf9
 v9:=Tryz.zeroValue9
 t46:=Tryz.underlying196
 a46:=Tryz.isAgg196
 z46:=Tryz.sizeOf196
 v46:=Tryz.zeroValue196
 t51:=Tryz.underlying260
 a51:=Tryz.isAgg260
 z51:=Tryz.sizeOf260
 v51:=Tryz.zeroValue260
 t146:=Tryz.underlying267
 a146:=Tryz.isAgg267
 z146:=Tryz.sizeOf267
 v146:=Tryz.zeroValue267
 g1:=by kernel_rfl}
open Go.RowKit Go.Lib in
theorem Tryz.stringslite_Index_one(s:ByteArray)(c:UInt8)(w:World):
  Calls Tryz.prog 330 #[.string s,.string ⟨#[c]⟩] w fun e w'=>e= .returned (.int .i64 (Lib.indexByte s.data.toList c))∧w'=w:=Any.stringslite_Index_one Tryz.lays219 s c w
def Tryz.lays105_ren:Go.Shelf.Ren:=⟨fun|105=>267|212=>315|99=>316|165=>317|166=>271|170=>272|169=>273|263=>339|264=>340|206=>341|240=>319|241=>342|276=>343|277=>361|n=>n,fun|9=>9|3=>3|4=>4|20=>20|0=>0|46=>196|109=>244|5=>5|72=>219|76=>222|51=>260|146=>267|53=>228|148=>269|70=>217|37=>135|75=>221|127=>249|164=>271|80=>225|n=>n,fun|n=>n⟩
theorem Tryz.lays105:Go.Proofs.Lays.n105 Tryz.prog Tryz.lays105_ren:={
 mixed:=by kernel_rfl
 f99:=Tryz.func316.trans (congrArg some (by kernel_rfl))
 f105:=Tryz.func267.trans (congrArg some (by kernel_rfl))
 f165:=Tryz.func317.trans (congrArg some (by kernel_rfl))
 f166:=Tryz.func271.trans (congrArg some (by kernel_rfl))
 f169:=Tryz.func273.trans (congrArg some (by kernel_rfl))
 f170:=Tryz.func272.trans (congrArg some (by kernel_rfl))
 f206:=Tryz.func341.trans (congrArg some (by kernel_rfl))
 f212:=Tryz.func315.trans (congrArg some (by kernel_rfl))
 f240:=Tryz.func319.trans (congrArg some (by kernel_rfl))
 f241:=Tryz.func342.trans (congrArg some (by kernel_rfl))
 f263:=Tryz.func339.trans (congrArg some (by kernel_rfl))
 f264:=Tryz.func340.trans (congrArg some (by kernel_rfl))
 f276:=Tryz.func343.trans (congrArg some (by kernel_rfl))
 f277:=Tryz.func361.trans (congrArg some (by kernel_rfl))
 t0:=Tryz.underlying0
 a0:=Tryz.isAgg0
 z0:=Tryz.sizeOf0
 v0:=Tryz.zeroValue0
 t3:=Tryz.underlying3
 a3:=Tryz.isAgg3
 z3:=Tryz.sizeOf3
 v3:=Tryz.zeroValue3
 t4:=Tryz.underlying4
 a4:=Tryz.isAgg4
 z4:=Tryz.sizeOf4
 v4:=Tryz.zeroValue4
 t5:=Tryz.underlying5
 a5:=Tryz.isAgg5
 z5:=Tryz.sizeOf5
 v5:=Tryz.zeroValue5
 t9:=Tryz.underlying9
 a9:=Tryz.isAgg9
 z9:=Tryz.sizeOf9
 v9:=Tryz.zeroValue9
 t20:=Tryz.underlying20
 a20:=Tryz.isAgg20
 z20:=Tryz.sizeOf20
 v20:=Tryz.zeroValue20
 t37:=Tryz.underlying135
 a37:=Tryz.isAgg135
 z37:=Tryz.sizeOf135
 v37:=Tryz.zeroValue135
 t46:=Tryz.underlying196
 a46:=Tryz.isAgg196
 z46:=Tryz.sizeOf196
 v46:=Tryz.zeroValue196
 t51:=Tryz.underlying260
 a51:=Tryz.isAgg260
 z51:=Tryz.sizeOf260
 v51:=Tryz.zeroValue260
 t53:=Tryz.underlying228
 a53:=Tryz.isAgg228
 z53:=Tryz.sizeOf228
 v53:=Tryz.zeroValue228
 t70:=Tryz.underlying217
 a70:=Tryz.isAgg217
 z70:=Tryz.sizeOf217
 v70:=Tryz.zeroValue217
 t72:=Tryz.underlying219
 a72:=Tryz.isAgg219
 z72:=Tryz.sizeOf219
 v72:=Tryz.zeroValue219
 t75:=Tryz.underlying221
 a75:=Tryz.isAgg221
 z75:=Tryz.sizeOf221
 v75:=Tryz.zeroValue221
 t76:=Tryz.underlying222
 a76:=Tryz.isAgg222
 z76:=Tryz.sizeOf222
 v76:=Tryz.zeroValue222
 t109:=Tryz.underlying244
 a109:=Tryz.isAgg244
 z109:=Tryz.sizeOf244
 v109:=Tryz.zeroValue244
 t127:=Tryz.underlying249
 a127:=Tryz.isAgg249
 z127:=Tryz.sizeOf249
 v127:=Tryz.zeroValue249
 t146:=Tryz.underlying267
 a146:=Tryz.isAgg267
 z146:=Tryz.sizeOf267
 v146:=Tryz.zeroValue267
 t148:=Tryz.underlying269
 a148:=Tryz.isAgg269
 z148:=Tryz.sizeOf269
 v148:=Tryz.zeroValue269
 t164:=Tryz.underlying271
 a164:=Tryz.isAgg271
 z164:=Tryz.sizeOf271
 v164:=Tryz.zeroValue271}
theorem Tryz.Builder_Extra_105:Builder.Extra Tryz.prog Tryz.lays105_ren:={
 sizeBuilder:=by kernel_rfl
 liesBuilder:=by kernel_rfl
 t5:=Tryz.underlying5
 a5:=Tryz.isAgg5
 z5:=Tryz.sizeOf5
 v5:=Tryz.zeroValue5
 infoByte:=by kernel_rfl
 cellsByte:=by kernel_rfl
 sizeByte:=by kernel_rfl
 neB5:=by decide}
open Go.RowKit Go.Lib in
theorem Tryz.strings_Repeat(s:ByteArray)(c:Nat)(w:World)(hc:c≤9223372036854775807)(hlen:s.size*c≤140737488355328):
  Calls Tryz.prog 267 #[.string s,.int .i64 c] w fun e w'=>e= .returned (.string ⟨(Lib.repeatL s.data.toList c).toArray⟩)∧Below w.heap.size w w':=Any.strings_Repeat Tryz.lays105 Tryz.Builder_Extra_105 s c w hc hlen
end
section
open Go Go.Proofs
set_option maxRecDepth 20000
set_option maxHeartbeats 4000000
def Xbm:List (Nat×TyRow):=[ty2,ty3,ty4,ty5,ty9,XeM,Xhc,ty228]
theorem Ys:Ce Tryz.prog Xbm:=Ce.of (by kernel_rfl)
theorem Lk:Setup Tryz.prog Xbm:=⟨Ys,mixed⟩
def dig(n:Nat):UInt8:=if n% 16<10 then UInt8.ofNat (48+n% 16)else UInt8.ofNat (87+n% 16)
def Xcn:Nat→Nat→List UInt8
 |0,_=>[]
 |k+1,n=>Xcn k (n/16)++[dig n]
def Yi(n:Nat):List UInt8:=if h:n<16 then[dig n]else Yi (n/16)++[dig n]
termination_by n
decreasing_by omega
theorem N4{n:Nat}(h:n<16):Yi n=[dig n]:=by rw[Yi,dif_pos h]
theorem Xx{n:Nat}(h:¬n<16):Yi n=Yi (n/16)++[dig n]:=by rw[Yi,dif_neg h]
theorem XeA:dig 0=48:=rfl
theorem Xm:∀(k:Nat),Xcn k 0=List.replicate k 48
 |0=>rfl
 |k+1=>by rw[Xcn,Nat.zero_div,Xm k,XeA,List.replicate_succ']
theorem Xbr:∀(k n:Nat),(Xcn k n).length=k
 |0,_=>rfl
 |k+1,n=>by rw[Xcn,List.length_append,Xbr];rfl
theorem XfD:∀(k n:Nat),n<16^ (k+1)→Xcn (k+1) n=List.replicate (k+1 - (Yi n).length) 48++Yi n∧1≤(Yi n).length∧(Yi n).length≤k+1
 |0,n,h=>by
  have h:n<16:=by simpa using h
  rw[N4 h]
  simp[Xcn]
 |k+1,n,h=>by
  by_cases hn:n<16
  ·rw[N4 hn,Xcn,Nat.div_eq_of_lt hn,Xm]
   simp
  ·have h2:n/16<16^ (k+1):=by rw[Nat.pow_succ]at h;omega
   obtain⟨i1,i2,i3⟩:=XfD k (n/16) h2
   rw[Xx hn,Xcn,i1,List.length_append,List.length_singleton,List.append_assoc]
   refine⟨?_,by omega,by omega⟩
   congr 2
   omega
def Be(n:Int):ByteArray:=if 0≤n∧n≤1000000000 then tx (115::(Xcn 8 n.toNat++[46,115,101,103]))else tx []
theorem digL:∀(j:Nat) (h:j<(⟨⟨[48,49,50,51,52,53,54,55,56,57,97,98,99,100,101,102]⟩⟩:ByteArray).size),(⟨⟨[48,49,50,51,52,53,54,55,56,57,97,98,99,100,101,102]⟩⟩:ByteArray)[j]=dig j:=by
 have key:∀j:Fin 16,(⟨⟨[48,49,50,51,52,53,54,55,56,57,97,98,99,100,101,102]⟩⟩:ByteArray)[j.val]'j.isLt=dig j.val:=by decide
 intro j h
 exact key ⟨j,h⟩
theorem Xc6(n:Nat):dig (n% 16)=dig n:=by unfold dig;rw[Nat.mod_mod]
theorem and15(a:Int):N0 .and .i64 a 15=a% 16:=G6 (k:=4) (by omega)
theorem Xhm{x:Nat}(h:x<18446744073709551616):N0 .and .u64 (x:Int) 15=((x% 16:Nat):Int):=by
 show IntKind.u64.wrap ((BitVec.ofInt 64 (x:Int)&&&BitVec.ofInt 64 ((15:Nat):Int)).toNat:Int)=_
 rw[BitVec.toNat_and,Iq (by omega),Iq (by omega),G1,show(15:Nat)=2^4 - 1 from rfl,Nat.and_two_pow_sub_one_eq_mod]
 omega
theorem digF:∀(j:Nat) (hj:j<16) (h:j<(⟨⟨[48,49,50,51,52,53,54,55,56,57,97,98,99,100,101,102,103,104,105,106,107,108,109,110,111,112,113,114,115,116,117,118,119,120,121,122]⟩⟩:ByteArray).size),(⟨⟨[48,49,50,51,52,53,54,55,56,57,97,98,99,100,101,102,103,104,105,106,107,108,109,110,111,112,113,114,115,116,117,118,119,120,121,122]⟩⟩:ByteArray)[j]=dig j:=by
 have key:∀j:Fin 16,(⟨⟨[48,49,50,51,52,53,54,55,56,57,97,98,99,100,101,102,103,104,105,106,107,108,109,110,111,112,113,114,115,116,117,118,119,120,121,122]⟩⟩:ByteArray)[j.val]'(Nat.lt_of_lt_of_le j.isLt (by decide))=dig j.val:=by decide
 intro j hj h
 exact key ⟨j,hj⟩
theorem XdM{v:Int}{n:Nat}(h:v=((dig n).toNat:Int)):[D.sc (.int .u8 v)]=cB (dig n):=by rw[h];rfl
theorem Xbw{α:Type}{l:List α}{p:Nat}{x:α}(h:p<l.length):(l.set p x).drop p=x::l.drop (p+1):=by
 rw[List.drop_eq_getElem_cons (by rw[List.length_set];exact h),List.getElem_set_self]
 congr 1
 rw[List.drop_set_of_lt (by omega)]
def Hm:Bool:=true
def Mh(_:Int):Int:=4
def Kf(u:Int):List UInt8×ByteArray:=([],tx (Yi u.toNat))
def F7(n:Int):ByteArray:=tx (Yi n.toNat)
def Q5(n:Int):ByteArray:=tx (List.replicate n.toNat 48)
theorem tz64{w:World}(h:Lib.TabIs Tryz.prog w "math/bits.deBruijn64tab" .u8 Ou):Calls Tryz.prog 368 #[.int .u64 16] w fun e w'=>e= .returned (.int .i64 4)∧w'=w:=by
 have hq:IntKind.u64.wrap (bits BinOp.and IntKind.u64 16 (IntKind.u64.wrap (-16))*285870213051353865)/288230376151711744=15:=by decide+kernel
 have hc:w.cell? ⟨5,15,none⟩=some (.int .u8 4):=h.cell gn5 15 (by decide)
 go_enter Tryz.func368,Tryz.ntmps368
 go_wp2
 go_ret
 exact⟨rfl,rfl⟩
theorem tz{w:World}(h:Lib.TabIs Tryz.prog w "math/bits.deBruijn64tab" .u8 Ou):Calls Tryz.prog 360 #[.int .u64 16] w fun e w'=>e= .returned (.int .i64 4)∧w'=w:=by
 go_enter Tryz.func360,Tryz.ntmps360
 go_wp2_with (first
  |(go_at_call 368;refine(tz64 h).mono ?_;rintro e w' ⟨rfl,rfl⟩)
  |go_in)
 go_ret
 exact⟨rfl,rfl⟩
variable {o:ByteArray} {n:Int}
theorem I3{x o:Int}(hx:x=16)(hr:Mh x=o):Fn Tryz.prog 360 [.d (.sc (.int .u64 x))] [] ⟨I o,[],[]⟩:=by
 refine⟨Fp Tryz.func360 rfl rfl,CallOk.ofCallsG fun E vs hS hG hA=>?_⟩
 obtain⟨u,rfl,h1⟩:=Xgi hA
 rw[Nv h1,hx]
 refine(tz (XfV hG)).mono ?_
 rintro e w' ⟨rfl,rfl⟩
 exact⟨_,rfl,⟨rfl,rfl,rfl,Nat.le_refl _,fun _ _=>rfl⟩,by rw[←hr];exact .sc _ rfl⟩
theorem Vb(hr:Be n=o):Fn Tryz.prog 157 [I n] [] ⟨S o,[],[]⟩:=by
 refine Fn.go Lk Tryz.func157 fun P hP Q hQ=>?_
 conv=>cbv
 generalize ac:A2 n 0 1000000000=r1
 refine .dd hP (Cz ac) ?_
 cases r1
 simp only[A2,decide_eq_true_eq,decide_eq_false_iff_not]at ac
 conv=>cbv
 have e:(tx [])=Be n:=(by unfold Be;rw[if_neg (by omega)])
 rw[hr]at e
 subst e
 exact hQ _ _ (.s rfl rfl)
 simp only[A2,decide_eq_true_eq,decide_eq_false_iff_not]at ac
 conv=>cbv
 refine LoopW.lp (κ:=Int×(List (List D))×Nat) Lk hP [0] [0] (fun(i4,aa,ab)=>[(3,.ref 1 0 ab),(4,I i4)]) (fun(i4,aa,ab)=>[(1,.row 1 false aa)])
  (fun(i4,aa,ab)=>∃(w1:List UInt8),w1.map cB=aa∧ab=w1.length∧-1≤i4∧i4≤7∧w1=Xcn (7 - i4).toNat (n.toNat/16^ (i4+1).toNat))
  (fun(i4,aa,ab)=>(i4+1).toNat) (7,[],0) ⟨[],rfl,rfl,by omega,by omega,rfl⟩ ⟨rfl,rfl,trivial⟩ rfl ?_
 rintro⟨i4,aa,ab⟩ J ⟨w1,ad,an,h0,h1,hw⟩ hJ
 have hwl:w1.length=(7 - i4).toNat:=by rw[hw,Xbr]
 have hsz:(⟨⟨[48,49,50,51,52,53,54,55,56,57,97,98,99,100,101,102]⟩⟩:ByteArray).size=16:=rfl
 conv=>cbv
 refine .geq (fun h2=>?_) fun h2=>?_
 conv=>cbv
 refine .mul fun v3 ap=>?_
 conv=>cbv
 refine .go fun v4 af=>?_
 conv=>cbv
 have e4:v4=v3:=by rw[af,G1];omega
 refine .shr fun v5 ag=>?_
 conv=>cbv
 refine .and fun v6 ah=>?_
 conv=>cbv
 have e5:v5=((n.toNat/16^i4.toNat:Nat):Int):=by
  have e2:(2:Int)^v4.toNat=((16^i4.toNat:Nat):Int):=by
   rw[show v4.toNat=4*i4.toNat by omega,Int.pow_mul,Int.natCast_pow]
   rfl
  rw[ag,e2,Int.natCast_ediv,Int.toNat_of_nonneg (by omega)]
 have e6:v6=((n.toNat/16^i4.toNat% 16:Nat):Int):=by rw[ah,and15,e5];omega
 have aq:n.toNat/16^i4.toNat% 16<16:=Nat.mod_lt _ (by omega)
 refine .go v6.toNat fun hjv7 v7 ai bv7=>?_
 conv=>cbv
 have e7:[D.sc (.int .u8 v7)]=cB (dig (n.toNat/16^i4.toNat)):=XdM (by rw[ai,digL,e6,Int.toNat_natCast,Xc6])
 refine .one (dig (n.toNat/16^i4.toNat)) ad e7 fun aj z8 ao ak=>?_
 conv=>cbv
 refine .sub fun v9 ar=>?_
 conv=>cbv
 exact .go [3] (v9,z8,aj) (hJ _ ⟨_,ak,Oq,by omega,by omega,by rw[hw,show(7 - v9).toNat=(7 - i4).toNat+1 by omega,Xcn,show(v9+1).toNat=i4.toNat by omega,Nat.div_div_eq_div_mul,←Nat.pow_succ,show(i4+1).toNat=i4.toNat+1 by omega]⟩ mlt)
 conv=>cbv
 refine .go ad fun s3 ae=>?_
 conv=>cbv
 have au:s3.size=w1.length:=by rw[ae,D4]
 refine .litL 1 fun s4 al aw=>?_
 conv=>cbv
 refine .litR 4 fun s5 am ax=>?_
 conv=>cbv
 have e:s5=Be n:=(by unfold Be;rw[if_pos (by omega),am,al,ae,hw,show i4= -1 by omega];show tx [115]++tx _++tx [46,115,101,103]=_;rw[Eb,Eb];simp)
 rw[hr]at e
 subst e
 exact hQ _ _ (.s rfl rfl)
theorem Gn{o:Bool}(hr:Hm=o):Fn Tryz.prog 359 [I 16] [] ⟨B o,[],[]⟩:=by
 refine Fn.go Lk Tryz.func359 fun P hP Q hQ=>?_
 conv=>cbv
 refine .sub fun v1 aa=>?_
 conv=>cbv
 refine .and fun v2 ab=>?_
 conv=>cbv
 refine .eql (fun h3=>?_) fun h3=>?_
 conv=>cbv
 have e:true=Hm:=(by rfl)
 rw[hr]at e
 subst e
 exact hQ _ _ (.b rfl rfl)
 conv=>cbv
 have e:false=Hm:=(by exfalso;apply h3;rw[ab,aa];rfl)
 rw[hr]at e
 subst e
 exact hQ _ _ (.b rfl rfl)
theorem G9{u:Int}{oa:List UInt8}{xoa:List (List D)}{ob:ByteArray}(hu:0≤u∧u<4294967296)(hr:Kf u=(oa,ob))(hoa:oa.map cB=xoa):Fn Tryz.prog 338 [.d (.row 1 []),.d (.sc (.int .u64 u)),I 16,B false,B false] [] ⟨.tup [.d (.row 1 xoa),S ob],[],[]⟩:=by
 refine Fn.go Lk Tryz.func338 fun P hP Q hQ=>?_
 conv=>cbv
 refine .lss (fun h1=>?_) fun h1=>?_
 omega
 conv=>cbv
 refine .eql (fun h2=>?_) fun h2=>?_
 omega
 conv=>cbv
 refine .gtr (fun h3=>?_) fun h3=>?_
 omega
 conv=>cbv
 refine .go 65 hP (by kernel_rfl) fun z4 ay=>?_
 conv=>cbv
 generalize ai:Hm=r5
 refine .dd hP (Gn ai) ?_
 cases r5
 cases ai
 conv=>cbv
 refine .go fun v6 az=>?_
 conv=>cbv
 generalize aj:Mh v6=r7
 refine .dd hP (I3 (by rw[az,G1];rfl) aj) ?_
 conv=>cbv
 refine .go fun v8 a0=>?_
 conv=>cbv
 refine .go fun v9 a1=>?_
 conv=>cbv
 refine .go fun be ak=>?_
 conv=>cbv
 refine .subW fun a2 al=>?_
 conv=>cbv
 refine LoopW.lp (κ:=Int×Int×(List (List D))) Lk hP [] [0,3,4,10,11,12,14,15,16] (fun(i1,aa,ab)=>[(1,.d (.sc (.int .u64 i1))),(13,I aa)]) (fun(i1,aa,ab)=>[(1,.row 1 false ab)])
  (fun(i1,aa,ab)=>∃(w1:List UInt8),w1.map cB=ab∧∃k:Nat,i1=((u.toNat/16^k:Nat):Int)∧aa=65 - (k:Int)∧k≤7∧w1.length=65∧Yi u.toNat=Yi (u.toNat/16^k)++w1.drop (65 - k))
  (fun(i1,aa,ab)=>(aa).toNat) (u,65,z4) ⟨(List.replicate 65 (0:UInt8)),ay,0,by simp;omega,rfl,by omega,by simp,by simp⟩ ⟨rfl,rfl,trivial⟩ rfl ?_
 rintro⟨i1,aa,ab⟩ J ⟨w1,am,k,af,ba,hk,hwl,hx⟩ hJ
 have e7:r7=4:=aj.symm
 have e8:v8=4:=by rw[a0,G1,e7];rfl
 have e9:v9=16:=by rw[a1,G1];rfl
 have a3:a2=15:=by rw[al,ak,G1,G1];rfl
 have hlt:u.toNat/16^k≤u.toNat:=Nat.div_le_self _ _
 have a4:16≤u.toNat/16^k→k<7:=by
  intro h
  rcases Nat.lt_or_ge k 7 with h7|h7
  ·exact h7
  ·obtain rfl:k=7:=by omega
   omega
 have hnx:u.toNat/16^ (k+1)=u.toNat/16^k/16:=by rw[Nat.pow_succ,←Nat.div_div_eq_div_mul]
 generalize hq:u.toNat/16^k=q at*
 conv=>cbv
 refine .geq (fun h12=>?_) fun h12=>?_
 conv=>cbv
 refine .sub fun ag an=>?_
 conv=>cbv
 refine .and fun ac ad=>?_
 conv=>cbv
 have h7:=a4 (by omega)
 have ah:ac=((q% 16:Nat):Int):=by rw[ad,a3,af,Xhm (by omega)]
 have bb:q% 16<16:=Nat.mod_lt _ (by omega)
 refine .go ac.toNat (hj:=by show ac.toNat<36;omega) fun hjv15 a5 ao bv15=>?_
 conv=>cbv
 refine .go hP Tryz.underlying283 (by kernel_rfl) fun ap bc=>?_
 conv=>cbv
 have a6:[D.sc (.int .u8 a5)]=cB (dig q):=XdM (by rw[ao,digF _ (by omega),ah,Int.toNat_natCast,Xc6])
 refine .all (dig q) am a6 fun a7 aq=>?_
 conv=>cbv
 refine .shrW fun a8 ar=>?_
 conv=>cbv
 exact .go [] (a8,ag,a7) (hJ _ ⟨_,aq,k+1,by rw[ar,e8,af,Int.fdiv_eq_ediv_of_nonneg _ (by decide),hnx];show(q:Int)/16=_;omega,by omega,by omega,by rw[List.length_set];exact hwl,by rw[hx,Xx (show¬q<16 by omega),List.append_assoc,hnx,show 65 - (k+1)=ap by omega,Xbw (by omega),show ap+1=65 - k by omega];rfl⟩ mlt)
 conv=>cbv
 refine .sub fun ag an=>?_
 conv=>cbv
 refine .go i1.toNat (hj:=by show i1.toNat<36;omega) fun hjv14 ac ad bv14=>?_
 conv=>cbv
 refine .go hP Tryz.underlying283 (by kernel_rfl) fun au bd=>?_
 conv=>cbv
 have ah:[D.sc (.int .u8 ac)]=cB (dig q):=XdM (by rw[ad,digF _ (by omega),af,Int.toNat_natCast])
 refine .all (dig q) am ah fun bf ae=>?_
 conv=>cbv
 refine .lo hP ae Tryz.underlying283 (by kernel_rfl) fun on17 bg hon17 aw=>?_
 conv=>cbv
 refine .off ae fun a9 ax=>?_
 conv=>cbv
 have e:([],a9)=Kf u:=(by unfold Kf;rw[ax,hx,N4 (show q<16 by omega),hon17,aw,show ag.toNat=au by omega,Xbw (by omega),show au+1=65 - k by omega,List.take_of_length_le (by simp;omega)];rfl)
 rw[hr]at e
 simp only[Prod.mk.injEq]at e
 obtain⟨rfl,rfl⟩:=e
 refine hQ _ _ ?_
 exact .many (.inl rfl) rfl rfl (.ref rfl rfl (by rw[←hoa];rfl) (.d rfl rfl (.nil)))
theorem Hq(hn:0≤n∧n≤1000000000)(hr:F7 n=o):Fn Tryz.prog 314 [I n,I 16] [] ⟨S o,[],[]⟩:=by
 refine Fn.go Lk Tryz.func314 fun P hP Q hQ=>?_
 conv=>cbv
 refine .eql (fun h1=>?_) fun h1=>?_
 omega
 conv=>cbv
 refine .go fun v2 aa=>?_
 conv=>cbv
 refine .lss (fun h3=>?_) fun h3=>?_
 omega
 conv=>cbv
 rcases ab:Kf v2 with⟨ad,ae⟩
 generalize ac:ad.map cB=af
 refine .dd hP (G9 (by rw[aa,G1];omega) ab ac) ?_
 conv=>cbv
 have e:ae=F7 n:=(by have e2:v2=n:=(by rw[aa,G1];omega);unfold F7;rw[←e2];exact(congrArg Prod.snd ab).symm)
 rw[hr]at e
 subst e
 exact hQ _ _ (.s rfl rfl)
theorem Ml(hn:0≤n∧n≤1000000000)(hr:F7 n=o):Fn Tryz.prog 266 [I n,I 16] [] ⟨S o,[],[]⟩:=by
 refine Fn.go Lk Tryz.func266 fun P hP Q hQ=>?_
 conv=>cbv
 generalize aa:F7 n=r1
 refine .dd hP (Hq hn aa) ?_
 conv=>cbv
 have e:r1=F7 n:=(by exact aa.symm)
 rw[hr]at e
 subst e
 exact hQ _ _ (.s rfl rfl)
theorem Pa{c:Int}(hc:0≤c∧c≤8)(hr:Q5 c=o):Fn Tryz.prog 267 [S (tx [48]),I c] [] ⟨S o,[],[]⟩:=by
 refine⟨Fp Tryz.func267 rfl rfl,CallOk.ofCalls fun E vs hS hA=>?_⟩
 obtain⟨u,v,rfl,h1,h2⟩:=Xhl hA
 rw[Nv h1,Nv h2]
 obtain⟨k,rfl⟩:=Int.eq_ofNat_of_zero_le hc.1
 refine(Tryz.strings_Repeat (tx [48]) k E.w (by omega) (by rw[D4];simp;omega)).mono ?_
 rintro e w' ⟨rfl,hb⟩
 refine⟨_,rfl,hb,?_⟩
 have:(⟨(Lib.repeatL (tx [48]).data.toList k).toArray⟩:ByteArray)=o:=by
  rw[←hr]
  unfold Q5 tx
  congr 2
  rw[Int.toNat_natCast]
  have key:∀k,Lib.repeatL (tx [48]).data.toList k=List.replicate k 48:=by
   intro k
   induction k with
   |zero=>rfl
   |succ k ih=>show[48]++Lib.repeatL _ k=_;rw[ih];rfl
  exact key k
 rw[this]
 exact .sc _ rfl
theorem Uc(hr:Be n=o):Fn Tryz.prog 203 [I n] [] ⟨S o,[],[]⟩:=by
 refine Fn.go Lk Tryz.func203 fun P hP Q hQ=>?_
 conv=>cbv
 generalize aa:Bg n=r1
 refine .dd hP (Fo aa) ?_
 cases r1
 simp only[Bg,decide_eq_true_eq,decide_eq_false_iff_not]at aa
 conv=>cbv
 have e:(tx [])=Be n:=(by unfold Be;rw[if_neg (by omega)])
 rw[hr]at e
 subst e
 exact hQ _ _ (.s rfl rfl)
 simp only[Bg,decide_eq_true_eq,decide_eq_false_iff_not]at aa
 conv=>cbv
 generalize ab:F7 n=r2
 refine .dd hP (Ml aa ab) ?_
 conv=>cbv
 obtain⟨p1,p2,p3⟩:=XfD 7 n.toNat (by omega)
 have z2:r2.size=(Yi n.toNat).length:=by rw[←ab];exact D4
 refine .go fun v3 ag=>?_
 conv=>cbv
 refine .sub fun v4 ah=>?_
 conv=>cbv
 generalize ac:Q5 v4=r5
 refine .dd hP (Pa (by omega) ac) ?_
 conv=>cbv
 have z5:r5.size=v4.toNat:=by rw[←ac];unfold Q5;rw[D4,List.length_replicate]
 refine .litL 1 fun s6 ad ai=>?_
 conv=>cbv
 refine .go fun s7 ae aj=>?_
 conv=>cbv
 refine .litR 4 fun s8 af ak=>?_
 conv=>cbv
 have e:s8=Be n:=(by unfold Be;rw[if_pos (by omega),af,ae,ad,←ac,←ab,p1];unfold Q5 F7;show tx [115]++tx _++tx _++tx [46,115,101,103]=_;rw[Eb,Eb,Eb,show v4.toNat=7+1 - (Yi n.toNat).length by omega];simp)
 rw[hr]at e
 subst e
 exact hQ _ _ (.s rfl rfl)
end
section
open Go Go.Proofs
set_option maxRecDepth 20000
set_option maxHeartbeats 4000000
open Go.RowKit
theorem CallOk.callsV{P:Program}{f:FuncId}{as0:List AV}{val:Value}(h:CallOk P f as0 [] ⟨.d (.sc val),[],[]⟩){w:World}(hG:Globs.ok w fun b=>b<w.heap.size){vs:Array Value}
  (hA:Xbd (Bm w (fun b=>b<w.heap.size) (fun _=>none) [] []) as0 vs):Calls P f vs w fun e w'=>e= .returned val∧Below w.heap.size w w':=by
 have hM:Mem (Ex w (fun b=>b<w.heap.size) (fun _=>none) []) (Bm w (fun b=>b<w.heap.size) (fun _=>none) [] []):={
  os:=rfl
  output:=rfl
  tape:=rfl
  size:=Nat.le_refl _
  keep:=fun _ _ _=>rfl
  shape:=fun _ _ h=>h
  s0:=fun _ h=>h
  slt:=fun _ h=>h
  glob:=hG
  snew:=fun _ h=>.inl h
  blt:=fun r b h=>absurd h (Nat.not_lt_zero r)
  bown:=fun r R b h=>absurd h (Nat.not_lt_zero r)
  bkeep:=fun r R h=>absurd h (Nat.not_lt_zero r)
  inj:=fun r r' R R' b h=>absurd h (Nat.not_lt_zero r)
  roots:=fun r R h=>absurd h (Nat.not_lt_zero r)}
 refine(h _ _ _ _ hM hA).mono ?_
 rintro e w' ⟨v,E',rfl,rfl,o⟩
 refine⟨?_,⟨o.mem.os,o.mem.tape,o.mem.output,o.mem.size,fun b hb=>o.mem.keep b hb (fun hn=>?_)⟩⟩
 ·have:=o.rel
  have h2:=Nv this
  rw[h2]
 ·obtain⟨r,R,h1,-⟩:=hn
  simp at h1
theorem Gw{w w':World}(hG:Globs.ok w fun b=>b<w.heap.size)(hb:Below w.heap.size w w'):Globs.ok w' fun b=>b<w'.heap.size:=
 Globs.step (fun b h=>Nat.lt_of_lt_of_le h hb.size) (fun b h=>hb.block b h) hG
theorem CallOk.ofCallsT{P:Program}{f:FuncId}{as0:List AV}{v1 v2:Value}(o1:v1.oneCell'=true)(o2:v2.oneCell'=true)(h:∀(E:Env) (vs:Array Value),(∀b,E.S b→b<E.w.heap.size)→Globs.ok E.w E.S→Xbd E as0 vs→Calls P f vs E.w fun e w'=>e= .returned (.tuple #[v1,v2])∧Below E.w.heap.size E.w w'):CallOk P f as0 [] ⟨.tup [.d (.sc v1),.d (.sc v2)],[],[]⟩:=by
 intro w S β vs hM hA
 refine(h (Bm w S β [] []) vs hM.slt hM.glob hA).mono ?_
 rintro e w' ⟨he,hb⟩
 have hb:Below w.heap.size w w':=hb
 have st:Step (Bm w S β [] []) {Bm w S β [] []with w:=w'}:=⟨fun r R hR=>⟨R,hR,.inr rfl⟩,fun _ h=>h,fun _ _=>rfl,fun _ h=>h,fun b hS=>hb.block b (hM.slt b hS),fun b s hs=>J7 hb hs⟩
 refine⟨.tuple #[v1,v2],{Bm w S β [] []with w:=w'},he,rfl,?_,st,?_,?_,hb.size,.tup _ _ rfl ?_⟩
 ·exact{
   os:=hb.os.trans hM.os
   output:=hb.output.trans hM.output
   tape:=hb.tape.trans hM.tape
   size:=hb.size
   keep:=fun b hlt hn=>hb.block b hlt
   shape:=fun b s hs=>J7 hb hs
   s0:=hM.s0
   slt:=fun b hS=>Nat.lt_of_lt_of_le (hM.slt b hS) hb.size
   glob:=Globs.step st.S st.heap hM.glob
   snew:=hM.snew
   blt:=fun r b hp hβ=>absurd hp (Nat.not_lt_zero r)
   bown:=fun r R b hp=>absurd hp (Nat.not_lt_zero r)
   bkeep:=fun r R hlt hp=>absurd hp (Nat.not_lt_zero r)
   inj:=fun r r' R R' b hp=>absurd hp (Nat.not_lt_zero r)
   roots:=fun r R hp=>absurd hp (Nat.not_lt_zero r)}
 ·rfl
 ·intro r
  constructor
  ·exact fun h=>.inl h
  ·rintro(h|⟨_,h⟩)
   ·exact h
   ·exact absurd h (by simp)
 ·intro j y hy
  match j,hy with
  |0,hy=>cases hy;exact .d _ _ (.sc _ o1)
  |1,hy=>cases hy;exact .d _ _ (.sc _ o2)
end
section
open Go Go.Proofs
set_option maxRecDepth 20000
set_option maxHeartbeats 4000000
open Go.RowKit
theorem Xg6{a b:ByteArray}(h:¬a=b):(a.toList==b.toList)=false:=by
 rw[Bool.eq_false_iff]
 exact fun hh=>h ((Lib.bytes_beq_iff _ _).1 hh)
theorem Ry{w:World}(hG:Globs.ok w fun b=>b<w.heap.size){n:Int}{o:Bool}(hr:Bg n=o):Calls Tryz.prog 173 #[.int .i64 n] w fun e w'=>e= .returned (.bool o)∧Below w.heap.size w w':=by
 refine(Fo (n:=n) hr).ok.callsV hG ⟨rfl,?_⟩
 intro j y hy
 match j,hy with
 |0,hy=>cases hy;exact .d _ _ (.sc _ rfl)
end
section
open Go Go.Proofs
set_option maxRecDepth 20000
set_option maxHeartbeats 4000000
def Xa4:List (Nat×TyRow):=[ty3,ty9,Xcl,Xfy,Xco,Xd0,Xhe,Xf8,XgL]
theorem Zu:Ce Tryz.prog Xa4:=Ce.of (by kernel_rfl)
theorem Ep:Setup Tryz.prog Xa4:=⟨Zu,mixed⟩
def Cq(d:Ad)(base:Int):ByteArray:=(Fg d (Be base)).1
def C7(b:ByteArray)(base link:Int):Bool:=(Br b).2&&decide ((Br b).1.base_=base)&&decide ((Br b).1.link_=link)
def Gj(link:Int)(r:ByteArray):Int:=E8 link (Aq r.size 4++r)
def E7(link:Int)(l:List ByteArray):Int:=l.foldl Gj link
def Cf(b:ByteArray):List ByteArray:=(Bk b).records_
def Gr(b:ByteArray):Int:=E7 (Bk b).head_.link_ (Bk b).records_
def Hf(d:Ad):Nat→Int→Int→List R9
 |0,_,_=>[]
 |k+1,base,sum=>if C7 (Cq d base) base sum=true∧Cf (Cq d base)≠[]then
   ⟨base,Cq d base,Bk (Cq d base)⟩::Hf d k (base+(Cf (Cq d base)).length) (E7 sum (Cf (Cq d base)))else[]
def Kw(d:Ad):List R9:=Hf d 16 0 0
def Jl(d:Ad):List Int:=(Kw d).map (·.base_)
def H2(d:Ad):List ByteArray:=(Kw d).flatMap fun x=>x.scan_.records_
theorem Jf{d:Ad}{b:Int}{t:ByteArray}(hd:okD d)(e:Cq d b=t):t.size≤1000000000:=by
 rw[←e]
 exact Zt (ok:=(Fg d (Be b)).2) hd rfl
theorem Ru{t:ByteArray}{b s:Int}(h:C7 t b s=true):∃hh,Br t=(hh,true)∧hh.base_=b∧hh.link_=s∧0≤b∧b≤1000000000:=by
 unfold C7 at h
 simp only[Bool.and_eq_true,decide_eq_true_eq]at h
 rcases e:Br t with⟨hh,ok⟩
 rw[e]at h
 obtain⟨⟨h1,h2⟩,h3⟩:=h
 simp only[]at h1 h2 h3
 subst h1
 have h4:=(F5 e).2.2
 obtain⟨v,st,bs,lk⟩:=hh
 have h5:=Lc h4
 exact⟨_,rfl,h2,h3,by simp only[]at h2;omega,by simp only[]at h2;omega⟩
theorem XdP{t:ByteArray}{hh:C5}(e:Br t=(hh,true)):(Bk t).head_=hh∧(Bk t).ok_=true:=by unfold Bk;rw[e];exact⟨rfl,rfl⟩
theorem R7{t:ByteArray}{b s:Int}(h:C7 t b s=true):Gr t=E7 s (Cf t):=by
 obtain⟨hh,h1,h2,h3,_⟩:=Ru h
 unfold Gr Cf
 rw[(XdP h1).1,h3]
theorem N2{t:ByteArray}{b s:Int}{l:List ByteArray}(h:C7 t b s=true)(e:Cf t=l):Gr t=E7 s l:=by rw[R7 h,e]
theorem Np{d:Ad}{k:Nat}{b s:Int}{t:ByteArray}(h1:Cq d b=t)(h2:C7 t b s=false∨Cf t=[]):Hf d k b s=[]:=by
 cases k with
 |zero=>rfl
 |succ k=>
  rw[Hf,h1,if_neg]
  rintro⟨h3,h4⟩
  rcases h2 with h2|h2
  ·rw[h2]at h3;cases h3
  ·exact h4 h2
theorem Rr{d:Ad}{k:Nat}{b s:Int}{t:ByteArray}(h1:Cq d b=t)(h2:C7 t b s=true)(h3:Cf t≠[]):Hf d (k+1) b s=⟨b,t,Bk t⟩::Hf d k (b+(Cf t).length) (E7 s (Cf t)):=by
 rw[Hf,h1,if_pos ⟨h2,h3⟩]
theorem N5{d:Ad}:∀{k:Nat} {b s:Int},(Hf d k b s).length≤k
 |0,_,_=>Nat.le_refl _
 |k+1,b,s=>by
  rw[Hf]
  split
  ·rw[List.length_cons];exact Nat.succ_le_succ N5
  ·exact Nat.zero_le _
theorem S2{d:Ad}:∀{k:Nat} {b s:Int},∀x∈Hf d k b s,x.text_=Cq d x.base_∧x.scan_=Bk (Cq d x.base_)∧∃s',C7 (Cq d x.base_) x.base_ s'=true
 |0,_,_,x,hx=>by simp[Hf]at hx
 |k+1,b,s,x,hx=>by
  rw[Hf]at hx
  split at hx
  ·rename_i h
   rw[List.mem_cons]at hx
   rcases hx with rfl|hx
   ·exact⟨rfl,rfl,s,h.1⟩
   ·exact S2 x hx
  ·simp at hx
theorem XbC{d:Ad}{l:List R9}(e:Kw d=l):l.length≤16:=by rw[←e];exact N5
theorem Sm{d:Ad}{l:List Int}(e:Jl d=l):l.length≤16:=by rw[←e];unfold Jl;rw[List.length_map];exact N5
theorem Tu{d:Ad}{l:List R9}(e:Kw d=l){x:R9}(hx:x∈l):x.text_=Cq d x.base_∧x.scan_=Bk (Cq d x.base_)∧∃s',C7 (Cq d x.base_) x.base_ s'=true:=by rw[←e]at hx;exact S2 x hx
theorem Xd2{d:Ad}{α:Type}(f:R9→α)(g:Int→α)(h:∀x,x.text_=Cq d x.base_→x.scan_=Bk (Cq d x.base_)→f x=g x.base_):(Kw d).map f=(Jl d).map g:=by
 unfold Jl
 rw[List.map_map]
 refine List.map_congr_left fun x hx=>?_
 obtain⟨h1,h2,_⟩:=Tu rfl hx
 exact h x h1 h2
theorem Qx{d:Ad}:H2 d=(Jl d).flatMap fun b=>Cf (Cq d b):=by
 unfold H2
 rw[List.flatMap_def,List.flatMap_def]
 congr 1
 exact Xd2 _ _ fun x h1 h2=>by rw[h2];rfl
theorem Xbv:∀(k:Nat) {h:C5} {b:ByteArray} {n:Nat} {p:Int},(b.size - p).toNat≤k→0≤p∧p≤b.size→∀r∈(Gp h b n p).1,r.size≤60
 |k,h,b,n,p,hk,hp=>by
  cases hm:Dt h.version_ (h.base_+n) b p
  ·rcases hf:Ap h.version_ (h.base_+n) b p with⟨r,q,ok⟩
   cases ok
   ·rw[Ll hm hf];simp
   ·have h2:=Gk hf
    rw[Ln hm hf]
    cases k with
    |zero=>omega
    |succ k=>
     have ih:=Xbv k (h:=h) (b:=b) (n:=n+1) (p:=q) (by omega) (by omega)
     intro x hx
     rcases List.mem_cons.1 hx with rfl|hx
     ·omega
     ·exact ih x hx
  ·rw[Lw hm];simp
theorem Up{b:ByteArray}:∀r∈(Bk b).records_,r.size≤60:=by
 unfold Bk
 split
 ·rename_i h e
  have h2:=F5 e
  exact Xbv _ (h:=h) (b:=b) (n:=0) (p:=24) (Nat.le_refl _) (by omega)
 ·simp
theorem XeR{α β:Type}{f:α→β}{l:List α}{k:Nat}(h:k<l.length):(l.take (k+1)).map f=(l.take k).map f++[f l[k]]:=by rw[List.take_succ_eq_append_getElem h,List.map_append];rfl
theorem Xec{α β:Type}{f:α→List β}{l:List α}{k:Nat}(h:k<l.length):(l.take (k+1)).flatMap f=(l.take k).flatMap f++f l[k]:=by rw[List.take_succ_eq_append_getElem h,List.flatMap_append];simp
variable {A6:List Bb} {Cs Cx Cw Cy xo:List (List D)} {Bf Bd:List Aa} {A8:List ByteArray} {Bj Bh base o link:Int} {b r:ByteArray}
theorem Xe0{o:ByteArray}(B9:A6.map Ci=Cs)(Cu:Bf.map Ac=Cx)(Ct:Bd.map Ac=Cw)(Cm:A8.map cS=Cy)(hd:okD ⟨A6,Bf,Bd,A8,Bj,Bh⟩)(hr:Cq (⟨A6,Bf,Bd,A8,Bj,Bh⟩:Ad) base=o):Fn Tryz.prog 198 [.agg [.d (.row 3 Cs),.d (.row 2 Cx),.d (.row 2 Cw),.d (.row 1 Cy),I Bj,I Bh],I base] [] ⟨S o,[],[]⟩:=by
 refine Fn.go Ep Tryz.func198 fun P hP Q hQ=>?_
 conv=>cbv
 generalize aa:Be base=r1
 refine .dd hP (Uc aa) ?_
 conv=>cbv
 rcases ab:Fg (⟨A6,Bf,Bd,A8,Bj,Bh⟩:Ad) r1 with⟨ac,ad⟩
 refine .dd hP (Xb5 B9 Cu Ct Cm hd ab) ?_
 conv=>cbv
 have e:ac=Cq (⟨A6,Bf,Bd,A8,Bj,Bh⟩:Ad) base:=(by unfold Cq;rw[aa,ab])
 rw[hr]at e
 subst e
 exact hQ _ _ (.s rfl rfl)
theorem XaE{o:ByteArray}(B9:A6.map Ci=Cs)(Cu:Bf.map Ac=Cx)(Ct:Bd.map Ac=Cw)(Cm:A8.map cS=Cy)(hd:okD ⟨A6,Bf,Bd,A8,Bj,Bh⟩)(hr:Cq (⟨A6,Bf,Bd,A8,Bj,Bh⟩:Ad) base=o):Fn Tryz.prog 99 [.agg [.d (.row 3 Cs),.d (.row 2 Cx),.d (.row 2 Cw),.d (.row 1 Cy),I Bj,I Bh],I base] [] ⟨S o,[],[]⟩:=by
 refine Fn.go Ep Tryz.func99 fun P hP Q hQ=>?_
 conv=>cbv
 generalize aa:Be base=r1
 refine .dd hP (Vb aa) ?_
 conv=>cbv
 rcases ab:Fg (⟨A6,Bf,Bd,A8,Bj,Bh⟩:Ad) r1 with⟨ac,ad⟩
 refine .dd hP (Xbz B9 Cu Ct Cm hd ab) ?_
 conv=>cbv
 have e:ac=Cq (⟨A6,Bf,Bd,A8,Bj,Bh⟩:Ad) base:=(by unfold Cq;rw[aa,ab])
 rw[hr]at e
 subst e
 exact hQ _ _ (.s rfl rfl)
theorem Xev{o:Bool}(hs:b.size<2^47)(hr:C7 b base link=o):Fn Tryz.prog 200 [S b,I base,I link] [] ⟨B o,[],[]⟩:=by
 refine Fn.go Ep Tryz.func200 fun P hP Q hQ=>?_
 conv=>cbv
 rcases aa:Br b with⟨⟨ab,ac,ad,ae⟩,af⟩
 refine .dd hP (Td (by omega) aa) ?_
 conv=>cbv
 cases af
 conv=>cbv
 have e:false=C7 b base link:=(by unfold C7;rw[aa];rfl)
 rw[hr]at e
 subst e
 exact hQ _ _ (.b rfl rfl)
 conv=>cbv
 refine .eql (fun h2=>?_) fun h2=>?_
 conv=>cbv
 refine .eql (fun h3=>?_) fun h3=>?_
 conv=>cbv
 have e:true=C7 b base link:=(by unfold C7;rw[aa];simp[h2,h3])
 rw[hr]at e
 subst e
 exact hQ _ _ (.b rfl rfl)
 conv=>cbv
 have e:false=C7 b base link:=(by unfold C7;rw[aa];simp[h2,h3])
 rw[hr]at e
 subst e
 exact hQ _ _ (.b rfl rfl)
 conv=>cbv
 have e:false=C7 b base link:=(by unfold C7;rw[aa];simp[h2])
 rw[hr]at e
 subst e
 exact hQ _ _ (.b rfl rfl)
theorem Xce(hb:r.size<2^40)(hr:Gj link r=o):Fn Tryz.prog 265 [I link,S r] [] ⟨I o,[],[]⟩:=by
 refine Fn.go Ep Tryz.func265 fun P hP Q hQ=>?_
 conv=>cbv
 refine .go fun v1 ac=>?_
 conv=>cbv
 generalize aa:Aq v1 4=r2
 have zr2:=By aa
 refine .dd hP (E5 (by omega) aa) ?_
 conv=>cbv
 refine .go fun s3 ad ae=>?_
 conv=>cbv
 generalize ab:E8 link s3=r4
 have zr4:=Lz ab
 refine .dd hP (X1 (by omega) ab) ?_
 conv=>cbv
 have e:r4=Gj link r:=(by subst_vars;rfl)
 rw[hr]at e
 subst e
 exact hQ _ _ (.i rfl rfl)
theorem Xfd{o:Bool}(hs:b.size<2^47)(hr:C7 b base link=o):Fn Tryz.prog 184 [S b,I base,I link] [] ⟨B o,[],[]⟩:=by
 refine Fn.go Ep Tryz.func184 fun P hP Q hQ=>?_
 conv=>cbv
 rcases aa:Br b with⟨⟨ab,ac,ad,ae⟩,af⟩
 refine .dd hP (Tm (by omega) aa) ?_
 conv=>cbv
 cases af
 conv=>cbv
 have e:false=C7 b base link:=(by unfold C7;rw[aa];rfl)
 rw[hr]at e
 subst e
 exact hQ _ _ (.b rfl rfl)
 conv=>cbv
 refine .eql (fun h2=>?_) fun h2=>?_
 conv=>cbv
 refine .eql (fun h3=>?_) fun h3=>?_
 conv=>cbv
 have e:true=C7 b base link:=(by unfold C7;rw[aa];simp[h2,h3])
 rw[hr]at e
 subst e
 exact hQ _ _ (.b rfl rfl)
 conv=>cbv
 have e:false=C7 b base link:=(by unfold C7;rw[aa];simp[h2,h3])
 rw[hr]at e
 subst e
 exact hQ _ _ (.b rfl rfl)
 conv=>cbv
 have e:false=C7 b base link:=(by unfold C7;rw[aa];simp[h2])
 rw[hr]at e
 subst e
 exact hQ _ _ (.b rfl rfl)
theorem XbF(hb:r.size<2^40)(hr:Gj link r=o):Fn Tryz.prog 255 [I link,S r] [] ⟨I o,[],[]⟩:=by
 refine Fn.go Ep Tryz.func255 fun P hP Q hQ=>?_
 conv=>cbv
 refine .go fun v1 ac=>?_
 conv=>cbv
 generalize aa:Aq v1 4=r2
 have zr2:=By aa
 refine .dd hP (En (by omega) aa) ?_
 conv=>cbv
 refine .go fun s3 ad ae=>?_
 conv=>cbv
 generalize ab:E8 link s3=r4
 have zr4:=Lz ab
 refine .dd hP (Wh (by omega) ab) ?_
 conv=>cbv
 have e:r4=Gj link r:=(by subst_vars;rfl)
 rw[hr]at e
 subst e
 exact hQ _ _ (.i rfl rfl)
theorem XcA{l:List ByteArray}{xl:List (List D)}(hl:l.map cS=xl)(hn:l.length<2^40)(hb:∀r∈l,r.size≤60)(hr:E7 link l=o):Fn Tryz.prog 201 [I link,.d (.row 1 xl)] [] ⟨I o,[],[]⟩:=by
 refine Fn.go Ep Tryz.func201 fun P hP Q hQ=>?_
 conv=>cbv
 refine .go hl fun v1 ad=>?_
 conv=>cbv
 refine LoopW.lp (κ:=Int×Int) Ep hP [] [7,8] (fun(i0,i9)=>[(0,I i0),(9,I i9)]) (fun(i0,i9)=>[])
  (fun(i0,i9)=>0≤i9∧i9≤l.length∧i0=E7 link (l.take i9.toNat))
  (fun(i0,i9)=>(l.length - i9).toNat) (link,0) ⟨by omega,by omega,rfl⟩ ⟨rfl,rfl,trivial⟩ rfl ?_
 rintro⟨i0,i9⟩ J ⟨h0,h1,hx⟩ hJ
 conv=>cbv
 refine .lss (fun h2=>?_) fun h2=>?_
 conv=>cbv
 refine .go i9.toNat hl fun aa e3 ab=>?_
 conv=>cbv
 have zb:=hb e3 (ab▸List.getElem_mem _)
 generalize ac:Gj i0 e3=r4
 refine .dd hP (Xce (by omega) ac) ?_
 conv=>cbv
 refine .add fun v5 ae=>?_
 conv=>cbv
 exact .go [] (r4,v5) (hJ _ ⟨by omega,by omega,by rw[show v5.toNat=i9.toNat+1 by omega,List.take_succ_eq_append_getElem aa,E7,List.foldl_append,←ab];show r4=Gj (E7 link (l.take i9.toNat)) e3;rw[←hx,ac]⟩ mlt)
 conv=>cbv
 have e:i0=E7 link l:=(by rw[hx,List.take_of_length_le (by omega)])
 rw[hr]at e
 subst e
 exact hQ _ _ (.i rfl rfl)
theorem P2{o:List ByteArray}(hs:b.size<2^47)(hr:Cf b=o)(ho:o.map cS=xo):Fn Tryz.prog 138 [S b] [] ⟨.d (.row 1 xo),[],[]⟩:=by
 refine Fn.go Ep Tryz.func138 fun P hP Q hQ=>?_
 conv=>cbv
 rcases ai:Bk b with⟨an,⟨ae,af,ag,ah⟩,ab,ad,al,am⟩
 generalize aa:ab.map cS=aj
 generalize ac:ad.map cI=ak
 refine .dd hP (Tp (by omega) ai aa ac) ?_
 conv=>cbv
 have e:ab=Cf b:=(by unfold Cf;rw[ai])
 rw[hr]at e
 subst e
 exact hQ _ _ (.d rfl (by rw[←aa,←ho]))
theorem Z3(hs:b.size<2^40)(hr:Gr b=o):Fn Tryz.prog 185 [S b] [] ⟨I o,[],[]⟩:=by
 refine Fn.go Ep Tryz.func185 fun P hP Q hQ=>?_
 conv=>cbv
 rcases ae:Bk b with⟨aq,⟨ag,ah,ai,aa⟩,ab,af,ao,ap⟩
 generalize ac:ab.map cS=am
 generalize ad:af.map cI=an
 refine .dd hP (Tp (by omega) ae ac ad) ?_
 conv=>cbv
 refine LoopW.lp (κ:=Int×Int) Ep hP [] [3] (fun(i4,i5)=>[(4,I i4),(5,I i5)]) (fun(i4,i5)=>[])
  (fun(i4,i5)=>0≤i5∧i5≤ab.length∧i4=E7 aa (ab.take i5.toNat))
  (fun(i4,i5)=>(ab.length - i5).toNat) (aa,0) ⟨by omega,by omega,rfl⟩ ⟨rfl,rfl,trivial⟩ rfl ?_
 rintro⟨i4,i5⟩ J ⟨h0,h1,hx⟩ hJ
 have zs:=Up (b:=b)
 have zl:=Hw (b:=b)
 rw[ae]at zs zl
 simp only[]at zs zl
 conv=>cbv
 refine .go ac fun v2 ar=>?_
 conv=>cbv
 refine .lss (fun h3=>?_) fun h3=>?_
 conv=>cbv
 refine .go i5.toNat ac fun aj e4 ak=>?_
 conv=>cbv
 have zb:=zs e4 (ak▸List.getElem_mem _)
 generalize al:Gj i4 e4=r5
 refine .dd hP (XbF (by omega) al) ?_
 conv=>cbv
 refine .add fun v6 au=>?_
 conv=>cbv
 exact .go [] (r5,v6) (hJ _ ⟨by omega,by omega,by rw[show v6.toNat=i5.toNat+1 by omega,List.take_succ_eq_append_getElem aj,E7,List.foldl_append,←ak];show r5=Gj (E7 aa (ab.take i5.toNat)) e4;rw[←hx,al]⟩ mlt)
 conv=>cbv
 have e:i4=Gr b:=(by unfold Gr;rw[ae,hx,List.take_of_length_le (by omega)])
 rw[hr]at e
 subst e
 exact hQ _ _ (.i rfl rfl)
theorem Xgp{o:List R9}(B9:A6.map Ci=Cs)(Cu:Bf.map Ac=Cx)(Ct:Bd.map Ac=Cw)(Cm:A8.map cS=Cy)(hd:okD ⟨A6,Bf,Bd,A8,Bj,Bh⟩)(hr:Kw (⟨A6,Bf,Bd,A8,Bj,Bh⟩:Ad)=o)(ho:o.map Xgj=xo):Fn Tryz.prog 108 [.agg [.d (.row 3 Cs),.d (.row 2 Cx),.d (.row 2 Cw),.d (.row 1 Cy),I Bj,I Bh]] [] ⟨.d (.row 11 xo),[],[]⟩:=by
 refine Fn.go Ep Tryz.func108 fun P hP Q hQ=>?_
 conv=>cbv
 refine LoopW.lp (κ:=Int×Int×(List (List D))×Nat) Ep hP [2] [1] (fun(i4,i5,af,ac)=>[(3,.ref 3 0 ac),(4,I i4),(5,I i5)]) (fun(i4,i5,af,ac)=>[(3,.row 11 false af)])
  (fun(i4,i5,af,ac)=>∃(w3:List R9),w3.map Xgj=af∧ac=w3.length∧(w3.length≤16∧0≤i4∧i4≤2000000000)∧Kw (⟨A6,Bf,Bd,A8,Bj,Bh⟩:Ad)=w3++Hf (⟨A6,Bf,Bd,A8,Bj,Bh⟩:Ad) (16 - w3.length) i4 i5)
  (fun(i4,i5,af,ac)=>16 - ac) (0,0,[],0) ⟨[],rfl,rfl,by simp,rfl⟩ ⟨rfl,rfl,rfl,trivial⟩ rfl ?_
 rintro⟨i4,i5,af,ac⟩ J ⟨w3,ad,a4,hb,hI⟩ hJ
 conv=>cbv
 refine .go fun v1 a6=>?_
 conv=>cbv
 refine .lss (fun h2=>?_) fun h2=>?_
 conv=>cbv
 generalize ak:Cq (⟨A6,Bf,Bd,A8,Bj,Bh⟩:Ad) i4=r3
 refine .dd hP (Xe0 B9 Cu Ct Cm hd ak) ?_
 conv=>cbv
 have z3:=Jf hd ak
 rcases am:Bk r3 with⟨au,⟨ag,ah,ai,aj⟩,ab,al,ap,aq⟩
 generalize aa:ab.map cS=ax
 generalize ae:al.map cI=ay
 refine .dd hP (Xb3 (by omega) am aa ae) ?_
 conv=>cbv
 have zr:=Hw (b:=r3)
 have zq:=Up (b:=r3)
 rw[am]at zr zq
 simp only[]at zr zq
 have rq:Cf r3=ab:=by unfold Cf;rw[am]
 generalize an:C7 r3 i4 i5=r5
 refine .dd hP (Xev (by omega) an) ?_
 cases r5
 conv=>cbv
 have e:w3=Kw (⟨A6,Bf,Bd,A8,Bj,Bh⟩:Ad):=(by rw[hI,Np ak (.inl an),List.append_nil])
 rw[hr]at e
 subst e
 exact hQ _ _ (.r rfl rfl (by rw[←ad,List.length_map];first|omega|(simp;omega)) (by rw[←ad,←ho]))
 conv=>cbv
 refine .go aa fun v6 ar=>?_
 conv=>cbv
 refine .eql (fun h7=>?_) fun h7=>?_
 conv=>cbv
 have e:w3=Kw (⟨A6,Bf,Bd,A8,Bj,Bh⟩:Ad):=(by rw[hI,Np ak (.inr (by rw[rq];exact List.eq_nil_of_length_eq_zero (by omega))),List.append_nil])
 rw[hr]at e
 subst e
 exact hQ _ _ (.r rfl rfl (by rw[←ad,List.length_map];first|omega|(simp;omega)) (by rw[←ad,←ho]))
 conv=>cbv
 have hg:=Ru an
 obtain⟨hh,g1,g2,g3,g4,g5⟩:=hg
 have hne:ab≠[]:=by intro e;rw[e]at ar;simp at ar;exact h7 ar
 refine .one (⟨i4,r3,⟨au,⟨ag,ah,ai,aj⟩,ab,al,ap,aq⟩⟩:R9) ad (by rw[←aa,←ae];rfl) fun az z8 a5 a0=>?_
 conv=>cbv
 refine .go aa fun v9 a1=>?_
 conv=>cbv
 refine .add fun a2 aw=>?_
 conv=>cbv
 generalize ao:E7 i5 ab=a3
 refine .dd hP (XcA aa (by omega) zq ao) ?_
 conv=>cbv
 exact .go [10] (a2,a3,z8,az) (hJ _ ⟨_,a0,Oq,by rw[List.length_append];simp;omega,by rw[hI,show 16 - w3.length=(15 - w3.length)+1 by omega,Rr ak an (by rw[rq];exact hne),List.append_assoc,am,List.length_append,rq,ao,←a1,←aw];simp only[List.length_singleton];rw[show 16 - (w3.length+1)=15 - w3.length by omega];rfl⟩ mlt)
 conv=>cbv
 have e:w3=Kw (⟨A6,Bf,Bd,A8,Bj,Bh⟩:Ad):=(by rw[hI,show 16 - w3.length=0 by omega];simp[Hf])
 rw[hr]at e
 subst e
 exact hQ _ _ (.r rfl rfl (by rw[←ad,List.length_map];first|omega|(simp;omega)) (by rw[←ad,←ho]))
theorem Xgw{o:List Int}(B9:A6.map Ci=Cs)(Cu:Bf.map Ac=Cx)(Ct:Bd.map Ac=Cw)(Cm:A8.map cS=Cy)(hd:okD ⟨A6,Bf,Bd,A8,Bj,Bh⟩)(hr:Jl (⟨A6,Bf,Bd,A8,Bj,Bh⟩:Ad)=o)(ho:o.map cI=xo):Fn Tryz.prog 98 [.agg [.d (.row 3 Cs),.d (.row 2 Cx),.d (.row 2 Cw),.d (.row 1 Cy),I Bj,I Bh]] [] ⟨.d (.row 1 xo),[],[]⟩:=by
 refine Fn.go Ep Tryz.func98 fun P hP Q hQ=>?_
 conv=>cbv
 refine LoopW.lp (κ:=Int×Int×(List (List D))×Nat) Ep hP [2] [1] (fun(i4,i5,ac,aa)=>[(3,.ref 3 0 aa),(4,I i4),(5,I i5)]) (fun(i4,i5,ac,aa)=>[(3,.row 1 false ac)])
  (fun(i4,i5,ac,aa)=>∃(w3:List Int),w3.map cI=ac∧aa=w3.length∧(w3.length≤16∧0≤i4∧i4≤2000000000)∧Jl (⟨A6,Bf,Bd,A8,Bj,Bh⟩:Ad)=w3++(Hf (⟨A6,Bf,Bd,A8,Bj,Bh⟩:Ad) (16 - w3.length) i4 i5).map (·.base_))
  (fun(i4,i5,ac,aa)=>16 - aa) (0,0,[],0) ⟨[],rfl,rfl,by simp,rfl⟩ ⟨rfl,rfl,rfl,trivial⟩ rfl ?_
 rintro⟨i4,i5,ac,aa⟩ J ⟨w3,ab,an,hb,hI⟩ hJ
 conv=>cbv
 refine .go fun v1 ap=>?_
 conv=>cbv
 refine .lss (fun h2=>?_) fun h2=>?_
 conv=>cbv
 generalize ae:Cq (⟨A6,Bf,Bd,A8,Bj,Bh⟩:Ad) i4=r3
 refine .dd hP (XaE B9 Cu Ct Cm hd ae) ?_
 conv=>cbv
 have z3:=Jf hd ae
 generalize ad:Cf r3=l4
 generalize ah:l4.map cS=aq
 refine .dd hP (P2 (by omega) ad ah) ?_
 conv=>cbv
 refine .go ah fun v5 ag=>?_
 conv=>cbv
 refine .eql (fun h6=>?_) fun h6=>?_
 conv=>cbv
 have e:w3=Jl (⟨A6,Bf,Bd,A8,Bj,Bh⟩:Ad):=(by rw[hI,Np ae (.inr (by rw[ad];exact List.eq_nil_of_length_eq_zero (by omega)))];simp)
 rw[hr]at e
 subst e
 exact hQ _ _ (.r rfl rfl (by rw[←ab,List.length_map];first|omega|(simp;omega)) (by rw[←ab,←ho]))
 conv=>cbv
 generalize af:C7 r3 i4 i5=r7
 refine .dd hP (Xfd (by omega) af) ?_
 cases r7
 conv=>cbv
 have e:w3=Jl (⟨A6,Bf,Bd,A8,Bj,Bh⟩:Ad):=(by rw[hI,Np ae (.inl af)];simp)
 rw[hr]at e
 subst e
 exact hQ _ _ (.r rfl rfl (by rw[←ab,List.length_map];first|omega|(simp;omega)) (by rw[←ab,←ho]))
 conv=>cbv
 have hg:=Ru af
 obtain⟨hh,g1,g2,g3,g4,g5⟩:=hg
 have hne:l4≠[]:=by intro e;rw[e]at ag;simp at ag;exact h6 ag
 have zr:=Hw (b:=r3)
 have rq:(Bk r3).records_=l4:=ad
 rw[rq]at zr
 refine .one i4 ab rfl fun ak z8 ao al=>?_
 conv=>cbv
 generalize ai:Gr r3=r9
 refine .dd hP (Z3 (by omega) ai) ?_
 conv=>cbv
 refine .add fun am aj=>?_
 conv=>cbv
 exact .go [5] (am,r9,z8,ak) (hJ _ ⟨_,al,Oq,by rw[List.length_append];simp;omega,by rw[hI,show 16 - w3.length=(15 - w3.length)+1 by omega,Rr ae af (by rw[ad];exact hne),ad,List.map_cons,List.append_assoc,List.length_append,←N2 af ad,ai,←ag,←aj];simp only[List.length_singleton];rw[show 16 - (w3.length+1)=15 - w3.length by omega];rfl⟩ mlt)
 conv=>cbv
 have e:w3=Jl (⟨A6,Bf,Bd,A8,Bj,Bh⟩:Ad):=(by rw[hI,show 16 - w3.length=0 by omega];simp[Hf])
 rw[hr]at e
 subst e
 exact hQ _ _ (.r rfl rfl (by rw[←ab,List.length_map];first|omega|(simp;omega)) (by rw[←ab,←ho]))
theorem XdA{o:List ByteArray}(B9:A6.map Ci=Cs)(Cu:Bf.map Ac=Cx)(Ct:Bd.map Ac=Cw)(Cm:A8.map cS=Cy)(hd:okD ⟨A6,Bf,Bd,A8,Bj,Bh⟩)(hr:H2 (⟨A6,Bf,Bd,A8,Bj,Bh⟩:Ad)=o)(ho:o.map cS=xo):Fn Tryz.prog 67 [.agg [.d (.row 3 Cs),.d (.row 2 Cx),.d (.row 2 Cw),.d (.row 1 Cy),I Bj,I Bh]] [] ⟨.d (.row 1 xo),[],[]⟩:=by
 refine Fn.go Ep Tryz.func67 fun P hP Q hQ=>?_
 conv=>cbv
 generalize ap:Kw (⟨A6,Bf,Bd,A8,Bj,Bh⟩:Ad)=l1
 generalize ar:l1.map Xgj=a8
 refine .dd hP (Xgp B9 Cu Ct Cm hd ap ar) ?_
 conv=>cbv
 refine .go ar fun v2 a9=>?_
 conv=>cbv
 refine LoopW.lp (κ:=Int×(List (List D))×Nat) Ep hP [2] [8,9] (fun(ae,am,an)=>[(3,.ref 3 0 an),(10,I ae)]) (fun(ae,am,an)=>[(3,.row 1 false am)])
  (fun(ae,am,an)=>∃(w3:List ByteArray),w3.map cS=am∧an=w3.length∧0≤ae∧ae≤l1.length∧w3.length≤1000000000*ae.toNat∧w3=(l1.take ae.toNat).flatMap fun x=>x.scan_.records_)
  (fun(ae,am,an)=>(l1.length - ae).toNat) (0,[],0) ⟨[],rfl,rfl,by omega,by omega,by simp,by simp⟩ ⟨rfl,rfl,trivial⟩ rfl ?_
 rintro⟨ae,am,an⟩ J ⟨w3,au,a5,h0,h1,hb,hw⟩ hJ
 have a6:=XbC ap
 conv=>cbv
 refine .lss (fun h3=>?_) fun h3=>?_
 conv=>cbv
 refine .goX ae.toNat ar fun az ⟨ao,ak,⟨aj,⟨aa,ab,ac,ad⟩,af,ag,ah,ai⟩⟩ fe4 a0 hfe4=>?_
 replace hfe4:[.sc (.int .i64 ao),.sc (.string ak),.sc (.bool aj),.sc (.int .i64 aa),.sc (.int .i64 ab),.sc (.int .i64 ac),.sc (.int .i64 ad),.row 1 (af.map cS),.row 1 (ag.map cI),.sc (.int .i64 ah),.sc (.bool ai)]=fe4:=hfe4
 generalize al:af.map cS=aw at hfe4
 generalize ax:ag.map cI=ay at hfe4
 subst hfe4
 conv=>cbv
 have hm:=Tu ap (x:=⟨ao,ak,⟨aj,⟨aa,ab,ac,ad⟩,af,ag,ah,ai⟩⟩) (by rw[a0];exact List.getElem_mem _)
 obtain⟨aq,a1,s9,a2⟩:=hm
 simp only[]at aq a1 a2
 have hz:=Jf hd aq.symm
 have zr:=Hw (b:=ak)
 rw[aq,←a1]at zr
 simp only[]at zr
 rw[←aq]at zr
 refine .row au al fun a3 z5 a7 a4=>?_
 conv=>cbv
 refine .add fun v6 ba=>?_
 conv=>cbv
 exact .go [7] (v6,z5,a3) (hJ _ ⟨_,a4,Oq,by omega,by omega,by rw[List.length_append,show v6.toNat=ae.toNat+1 by omega];omega,by rw[hw,show v6.toNat=ae.toNat+1 by omega,Xec az,←a0]⟩ mlt)
 conv=>cbv
 have e:w3=H2 (⟨A6,Bf,Bd,A8,Bj,Bh⟩:Ad):=(by unfold H2;rw[hw,ap,List.take_of_length_le (by omega)])
 rw[hr]at e
 subst e
 exact hQ _ _ (.r rfl rfl (by rw[←au,List.length_map];first|omega|(simp;omega)) (by rw[←au,←ho]))
theorem Xel{o:List ByteArray}(B9:A6.map Ci=Cs)(Cu:Bf.map Ac=Cx)(Ct:Bd.map Ac=Cw)(Cm:A8.map cS=Cy)(hd:okD ⟨A6,Bf,Bd,A8,Bj,Bh⟩)(hr:H2 (⟨A6,Bf,Bd,A8,Bj,Bh⟩:Ad)=o)(ho:o.map cS=xo):Fn Tryz.prog 58 [.agg [.d (.row 3 Cs),.d (.row 2 Cx),.d (.row 2 Cw),.d (.row 1 Cy),I Bj,I Bh]] [] ⟨.d (.row 1 xo),[],[]⟩:=by
 refine Fn.go Ep Tryz.func58 fun P hP Q hQ=>?_
 conv=>cbv
 generalize ac:Jl (⟨A6,Bf,Bd,A8,Bj,Bh⟩:Ad)=l1
 generalize ad:l1.map cI=ap
 refine .dd hP (Xgw B9 Cu Ct Cm hd ac ad) ?_
 conv=>cbv
 refine LoopW.lp (κ:=Int×(List (List D))×Nat) Ep hP [2] [1,4] (fun(i5,aa,ab)=>[(3,.ref 3 0 ab),(5,I i5)]) (fun(i5,aa,ab)=>[(3,.row 1 false aa)])
  (fun(i5,aa,ab)=>∃(w3:List ByteArray),w3.map cS=aa∧ab=w3.length∧0≤i5∧i5≤l1.length∧w3.length≤1000000000*i5.toNat∧w3=(l1.take i5.toNat).flatMap fun b=>Cf (Cq (⟨A6,Bf,Bd,A8,Bj,Bh⟩:Ad) b))
  (fun(i5,aa,ab)=>(l1.length - i5).toNat) (0,[],0) ⟨[],rfl,rfl,by omega,by omega,by simp,by simp⟩ ⟨rfl,rfl,trivial⟩ rfl ?_
 rintro⟨i5,aa,ab⟩ J ⟨w3,ae,am,h0,h1,hb,hw⟩ hJ
 have an:=Sm ac
 conv=>cbv
 refine .go ad fun v2 aq=>?_
 conv=>cbv
 refine .lss (fun h3=>?_) fun h3=>?_
 conv=>cbv
 refine .go i5.toNat ad fun ah e4 aj=>?_
 conv=>cbv
 generalize af:Cq (⟨A6,Bf,Bd,A8,Bj,Bh⟩:Ad) e4=r5
 refine .dd hP (XaE B9 Cu Ct Cm hd af) ?_
 conv=>cbv
 have z5:=Jf hd af
 generalize ag:Cf r5=l6
 generalize ai:l6.map cS=ar
 refine .dd hP (P2 (by omega) ag ai) ?_
 conv=>cbv
 have zr:=Hw (b:=r5)
 have rq:(Bk r5).records_=l6:=ag
 rw[rq]at zr
 refine .row ae ai fun ak z7 ao al=>?_
 conv=>cbv
 refine .add fun v8 au=>?_
 conv=>cbv
 exact .go [4] (v8,z7,ak) (hJ _ ⟨_,al,Oq,by omega,by omega,by rw[List.length_append,show v8.toNat=i5.toNat+1 by omega];omega,by rw[hw,show v8.toNat=i5.toNat+1 by omega,Xec ah,←aj,af,ag]⟩ mlt)
 conv=>cbv
 have e:w3=H2 (⟨A6,Bf,Bd,A8,Bj,Bh⟩:Ad):=(by rw[Qx,ac,hw,List.take_of_length_le (by omega)])
 rw[hr]at e
 subst e
 exact hQ _ _ (.r rfl rfl (by rw[←ae,List.length_map];first|omega|(simp;omega)) (by rw[←ae,←ho]))
end
section
open Go Go.Proofs
set_option maxRecDepth 20000
set_option maxHeartbeats 4000000
def Wr:List (Nat×TyRow):=[ty3,ty9,Xcl,Xfy,Xco,ty43,Xd0,Xhe,Xf8,XgL]
theorem Xw:Ce Tryz.prog Wr:=Ce.of (by kernel_rfl)
theorem J6:Setup Tryz.prog Wr:=⟨Xw,mixed⟩
def XgF{α:Type}(f:α→Int)(l:List α):Int:=(l.map f).foldl (·+·) 0
theorem Vt{α:Type}{f:α→Int}{l:List α}{k:Nat}(h:k<l.length):XgF f (l.take (k+1))=XgF f (l.take k)+f l[k]:=by unfold XgF;rw[XeR h,List.foldl_append];rfl
theorem U5{d:Ad}{l:List ByteArray}(hd:okD d)(e:H2 d=l):l.length≤16000000000∧∀x∈l,x.size≤60:=by
 rw[←e,Qx]
 refine⟨?_,?_⟩
 ·have key:∀c:List Int,(c.flatMap fun b=>Cf (Cq d b)).length≤1000000000*c.length:=by
   intro c
   induction c with
   |nil=>simp
   |cons b c ih=>
    rw[List.flatMap_cons,List.length_append,List.length_cons]
    have h1:=Hw (b:=Cq d b)
    have h2:=Jf hd (rfl:Cq d b=_)
    have h3:(Cf (Cq d b)).length=(Bk (Cq d b)).records_.length:=rfl
    omega
  have h1:=key (Jl d)
  have h2:=Sm (rfl:Jl d=_)
  omega
 ·intro x hx
  obtain⟨b,_,hb⟩:=List.mem_flatMap.1 hx
  exact Up x hb
def El{α:Type}[DecidableEq α](a b:List α):Bool:=decide (a=b)
def C1(a b:List ByteArray):Bool:=decide (a.length≤b.length∧b.take a.length=a)
theorem XeB{a b:List ByteArray}(h:a.length=b.length)(h2:∀(j:Nat) (h1:j<a.length) (h2:j<b.length),a[j]=b[j]):a=b:=List.ext_getElem h h2
theorem Xe8{a b:List ByteArray}(h:a.length≤b.length)(h2:∀(j:Nat) (h1:j<a.length) (h2:j<b.length),a[j]=b[j]):b.take a.length=a:=by
 refine List.ext_getElem (by rw[List.length_take];omega) ?_
 intro j h3 h4
 rw[List.getElem_take]
 exact(h2 j h4 (by omega)).symm
theorem Za{a b:List ByteArray}(h:b.take a.length=a){j:Nat}(h1:j<a.length)(h2:j<b.length):a[j]=b[j]:=by
 have:(b.take a.length)[j]'(by rw[List.length_take];omega)=b[j]:=List.getElem_take ..
 rw[←this]
 congr 1
 exact h.symm
variable {a b wdisste wtol:List ByteArray} {xa xb xwdisnod xwdisent xwdisold xwdisste xwwrioff xwtol:List (List D)} {o wwriope:Bool} {wsetroo wsetver wsetstr wsetrol wdisroo wdisnex wwriver wwristr wwrirol wwribas wwrilin wwriend wwricod wsur wfal:Int} {wdisnod:List Bb} {wdisent wdisold:List Aa} {wwrioff:List Int}
theorem Fa(ha:a.map cS=xa)(hb:b.map cS=xb)(af:a.length<2^40)(hr:El a b=o):Fn Tryz.prog 90 [.d (.row 1 xa),.d (.row 1 xb)] [] ⟨B o,[],[]⟩:=by
 refine Fn.go J6 Tryz.func90 fun P hP Q hQ=>?_
 conv=>cbv
 refine .go ha fun v1 ag=>?_
 conv=>cbv
 refine .go hb fun v2 ah=>?_
 conv=>cbv
 refine .neq (fun h3=>?_) fun h3=>?_
 conv=>cbv
 have e:false=El a b:=(by unfold El;symm;rw[decide_eq_false_iff_not];intro h;subst h;omega)
 rw[hr]at e
 subst e
 exact hQ _ _ (.b rfl rfl)
 conv=>cbv
 refine .go ha fun v4 ai=>?_
 conv=>cbv
 refine LoopW.lp (κ:=Int) J6 hP [] [0,1,12] (fun aa=>[(13,I aa)]) (fun aa=>[])
  (fun aa=>0≤aa∧aa≤a.length∧∀(j:Nat) (h1:j<a.length) (h2:j<b.length),j<aa.toNat→a[j]=b[j])
  (fun aa=>(a.length - aa).toNat) (0) ⟨by omega,by omega,fun j _ _ h=>by simp at h⟩ ⟨rfl,trivial⟩ rfl ?_
 rintro aa J ⟨h0,h1,hs⟩ hJ
 conv=>cbv
 refine .lss (fun h5=>?_) fun h5=>?_
 conv=>cbv
 refine .go aa.toNat ha fun ad e6 ab=>?_
 conv=>cbv
 refine .go aa.toNat hb fun ae e7 ac=>?_
 conv=>cbv
 refine .neq (fun h8=>?_) fun h8=>?_
 conv=>cbv
 have e:false=El a b:=(by unfold El;symm;rw[decide_eq_false_iff_not];intro h;subst h;exact h8 (ab.trans ac.symm))
 rw[hr]at e
 subst e
 exact hQ _ _ (.b rfl rfl)
 conv=>cbv
 refine .add fun v9 aj=>?_
 conv=>cbv
 exact .go [] (v9) (hJ _ ⟨by omega,by omega,fun j p q h=>if e:j=aa.toNat then by subst e;rw[←ab,←ac];exact h8 else hs j p q (by omega)⟩ mlt)
 conv=>cbv
 have e:true=El a b:=(by unfold El;symm;rw[decide_eq_true_eq];exact XeB (by omega) fun j p q=>hs j p q (by omega))
 rw[hr]at e
 subst e
 exact hQ _ _ (.b rfl rfl)
theorem XbG(ha:a.map cS=xa)(hb:b.map cS=xb)(ab:a.length<2^40)(hr:C1 a b=o):Fn Tryz.prog 169 [.d (.row 1 xa),.d (.row 1 xb)] [] ⟨B o,[],[]⟩:=by
 refine Fn.go J6 Tryz.func169 fun P hP Q hQ=>?_
 conv=>cbv
 refine .go ha fun v1 ac=>?_
 conv=>cbv
 refine .go hb fun v2 ad=>?_
 conv=>cbv
 refine .leq (fun h3=>?_) fun h3=>?_
 conv=>cbv
 refine .go ha fun v4 ae=>?_
 conv=>cbv
 refine .hi hb fun x5 hx5=>?_
 conv=>cbv
 generalize aa:El a (b.take v4.toNat)=r6
 refine .dd hP (Fa ha hx5 (by omega) aa) ?_
 have e4:v4.toNat=a.length:=by omega
 rw[e4]at aa
 unfold El at aa
 cases r6
 conv=>cbv
 have e:false=C1 a b:=(by unfold C1;symm;rw[decide_eq_false_iff_not];intro h;exact of_decide_eq_false aa h.2.symm)
 rw[hr]at e
 subst e
 exact hQ _ _ (.b rfl rfl)
 conv=>cbv
 have e:true=C1 a b:=(by unfold C1;symm;rw[decide_eq_true_eq];exact⟨by omega,(of_decide_eq_true aa).symm⟩)
 rw[hr]at e
 subst e
 exact hQ _ _ (.b rfl rfl)
 conv=>cbv
 have e:false=C1 a b:=(by unfold C1;symm;rw[decide_eq_false_iff_not];intro h;omega)
 rw[hr]at e
 subst e
 exact hQ _ _ (.b rfl rfl)
theorem Xb7(ha:a.map cS=xa)(hb:b.map cS=xb)(ae:a.length<2^40)(hr:C1 a b=o):Fn Tryz.prog 166 [.d (.row 1 xa),.d (.row 1 xb)] [] ⟨B o,[],[]⟩:=by
 refine Fn.go J6 Tryz.func166 fun P hP Q hQ=>?_
 conv=>cbv
 refine .go ha fun v1 af=>?_
 conv=>cbv
 refine .go hb fun v2 ag=>?_
 conv=>cbv
 refine .gtr (fun h3=>?_) fun h3=>?_
 conv=>cbv
 have e:false=C1 a b:=(by unfold C1;symm;rw[decide_eq_false_iff_not];intro h;omega)
 rw[hr]at e
 subst e
 exact hQ _ _ (.b rfl rfl)
 conv=>cbv
 refine LoopW.lp (κ:=Int) J6 hP [] [0,1] (fun i5=>[(5,I i5)]) (fun i5=>[])
  (fun i5=>0≤i5∧i5≤a.length∧∀(j:Nat) (h1:j<a.length) (h2:j<b.length),j<i5.toNat→a[j]=b[j])
  (fun i5=>(a.length - i5).toNat) (0) ⟨by omega,by omega,fun j _ _ h=>by simp at h⟩ ⟨rfl,trivial⟩ rfl ?_
 rintro i5 J ⟨h0,h1,hs⟩ hJ
 conv=>cbv
 refine .go ha fun v4 ah=>?_
 conv=>cbv
 refine .lss (fun h5=>?_) fun h5=>?_
 conv=>cbv
 refine .go i5.toNat ha fun aa e6 ab=>?_
 conv=>cbv
 refine .go i5.toNat hb fun ac e7 ad=>?_
 conv=>cbv
 refine .neq (fun h8=>?_) fun h8=>?_
 conv=>cbv
 have e:false=C1 a b:=(by unfold C1;symm;rw[decide_eq_false_iff_not];intro h;have:=Za h.2 aa ac;rw[←ab,←ad]at this;exact h8 this)
 rw[hr]at e
 subst e
 exact hQ _ _ (.b rfl rfl)
 conv=>cbv
 refine .add fun v9 ai=>?_
 conv=>cbv
 exact .go [] (v9) (hJ _ ⟨by omega,by omega,fun j p q h=>if e:j=i5.toNat then by subst e;rw[←ab,←ad];exact h8 else hs j p q (by omega)⟩ mlt)
 conv=>cbv
 have e:true=C1 a b:=(by unfold C1;symm;rw[decide_eq_true_eq];exact⟨by omega,Xe8 (by omega) fun j p q=>hs j p q (by omega)⟩)
 rw[hr]at e
 subst e
 exact hQ _ _ (.b rfl rfl)
def Cg(w:Bl):Bool:=C1 (H2 w.disk_) w.told_&&decide (w.sure_≤(H2 w.disk_).length)
theorem Qq(hwdisnod:wdisnod.map Ci=xwdisnod)(hwdisent:wdisent.map Ac=xwdisent)(hwdisold:wdisold.map Ac=xwdisold)(hwdisste:wdisste.map cS=xwdisste)(hwwrioff:wwrioff.map cI=xwwrioff)(hwtol:wtol.map cS=xwtol)(hd:okD ⟨wdisnod,wdisent,wdisold,wdisste,wdisroo,wdisnex⟩)(hr:Cg (⟨⟨wsetroo,wsetver,wsetstr,wsetrol⟩,⟨wdisnod,wdisent,wdisold,wdisste,wdisroo,wdisnex⟩,⟨wwriver,wwristr,wwrirol,wwribas,wwrilin,wwrioff,wwriend,wwriope,wwricod⟩,wtol,wsur,wfal⟩:Bl)=o):Fn Tryz.prog 83 [.agg [I wsetroo,I wsetver,I wsetstr,I wsetrol,.d (.row 3 xwdisnod),.d (.row 2 xwdisent),.d (.row 2 xwdisold),.d (.row 1 xwdisste),I wdisroo,I wdisnex,I wwriver,I wwristr,I wwrirol,I wwribas,I wwrilin,.d (.row 1 xwwrioff),I wwriend,B wwriope,I wwricod,.d (.row 1 xwtol),I wsur,I wfal]] [] ⟨B o,[],[]⟩:=by
 refine Fn.go J6 Tryz.func83 fun P hP Q hQ=>?_
 conv=>cbv
 generalize aa:H2 (⟨wdisnod,wdisent,wdisold,wdisste,wdisroo,wdisnex⟩:Ad)=l1
 generalize ac:l1.map cS=ad
 refine .dd hP (XdA hwdisnod hwdisent hwdisold hwdisste hd aa ac) ?_
 conv=>cbv
 have ae:=U5 hd aa
 generalize ab:C1 l1 wtol=r2
 refine .dd hP (XbG ac hwtol (by omega) ab) ?_
 cases r2
 conv=>cbv
 have e:false=Cg (⟨⟨wsetroo,wsetver,wsetstr,wsetrol⟩,⟨wdisnod,wdisent,wdisold,wdisste,wdisroo,wdisnex⟩,⟨wwriver,wwristr,wwrirol,wwribas,wwrilin,wwrioff,wwriend,wwriope,wwricod⟩,wtol,wsur,wfal⟩:Bl):=(by unfold Cg;simp only[];rw[aa,ab];rfl)
 rw[hr]at e
 subst e
 exact hQ _ _ (.b rfl rfl)
 conv=>cbv
 refine .go ac fun v3 af=>?_
 conv=>cbv
 refine .geq (fun h4=>?_) fun h4=>?_
 conv=>cbv
 have e:true=Cg (⟨⟨wsetroo,wsetver,wsetstr,wsetrol⟩,⟨wdisnod,wdisent,wdisold,wdisste,wdisroo,wdisnex⟩,⟨wwriver,wwristr,wwrirol,wwribas,wwrilin,wwrioff,wwriend,wwriope,wwricod⟩,wtol,wsur,wfal⟩:Bl):=(by unfold Cg;simp only[];rw[aa,ab];symm;simp;omega)
 rw[hr]at e
 subst e
 exact hQ _ _ (.b rfl rfl)
 conv=>cbv
 have e:false=Cg (⟨⟨wsetroo,wsetver,wsetstr,wsetrol⟩,⟨wdisnod,wdisent,wdisold,wdisste,wdisroo,wdisnex⟩,⟨wwriver,wwristr,wwrirol,wwribas,wwrilin,wwrioff,wwriend,wwriope,wwricod⟩,wtol,wsur,wfal⟩:Bl):=(by unfold Cg;simp only[];rw[aa,ab];symm;simp;omega)
 rw[hr]at e
 subst e
 exact hQ _ _ (.b rfl rfl)
theorem Ra(hwdisnod:wdisnod.map Ci=xwdisnod)(hwdisent:wdisent.map Ac=xwdisent)(hwdisold:wdisold.map Ac=xwdisold)(hwdisste:wdisste.map cS=xwdisste)(hwwrioff:wwrioff.map cI=xwwrioff)(hwtol:wtol.map cS=xwtol)(hd:okD ⟨wdisnod,wdisent,wdisold,wdisste,wdisroo,wdisnex⟩)(hr:Cg (⟨⟨wsetroo,wsetver,wsetstr,wsetrol⟩,⟨wdisnod,wdisent,wdisold,wdisste,wdisroo,wdisnex⟩,⟨wwriver,wwristr,wwrirol,wwribas,wwrilin,wwrioff,wwriend,wwriope,wwricod⟩,wtol,wsur,wfal⟩:Bl)=o):Fn Tryz.prog 81 [.agg [I wsetroo,I wsetver,I wsetstr,I wsetrol,.d (.row 3 xwdisnod),.d (.row 2 xwdisent),.d (.row 2 xwdisold),.d (.row 1 xwdisste),I wdisroo,I wdisnex,I wwriver,I wwristr,I wwrirol,I wwribas,I wwrilin,.d (.row 1 xwwrioff),I wwriend,B wwriope,I wwricod,.d (.row 1 xwtol),I wsur,I wfal]] [] ⟨B o,[],[]⟩:=by
 refine Fn.go J6 Tryz.func81 fun P hP Q hQ=>?_
 conv=>cbv
 generalize aa:H2 (⟨wdisnod,wdisent,wdisold,wdisste,wdisroo,wdisnex⟩:Ad)=l1
 generalize ac:l1.map cS=ad
 refine .dd hP (Xel hwdisnod hwdisent hwdisold hwdisste hd aa ac) ?_
 conv=>cbv
 have ae:=U5 hd aa
 generalize ab:C1 l1 wtol=r2
 refine .dd hP (Xb7 ac hwtol (by omega) ab) ?_
 cases r2
 conv=>cbv
 have e:false=Cg (⟨⟨wsetroo,wsetver,wsetstr,wsetrol⟩,⟨wdisnod,wdisent,wdisold,wdisste,wdisroo,wdisnex⟩,⟨wwriver,wwristr,wwrirol,wwribas,wwrilin,wwrioff,wwriend,wwriope,wwricod⟩,wtol,wsur,wfal⟩:Bl):=(by unfold Cg;simp only[];rw[aa,ab];rfl)
 rw[hr]at e
 subst e
 exact hQ _ _ (.b rfl rfl)
 conv=>cbv
 refine .go ac fun v3 af=>?_
 conv=>cbv
 refine .geq (fun h4=>?_) fun h4=>?_
 conv=>cbv
 have e:true=Cg (⟨⟨wsetroo,wsetver,wsetstr,wsetrol⟩,⟨wdisnod,wdisent,wdisold,wdisste,wdisroo,wdisnex⟩,⟨wwriver,wwristr,wwrirol,wwribas,wwrilin,wwrioff,wwriend,wwriope,wwricod⟩,wtol,wsur,wfal⟩:Bl):=(by unfold Cg;simp only[];rw[aa,ab];symm;simp;omega)
 rw[hr]at e
 subst e
 exact hQ _ _ (.b rfl rfl)
 conv=>cbv
 have e:false=Cg (⟨⟨wsetroo,wsetver,wsetstr,wsetrol⟩,⟨wdisnod,wdisent,wdisold,wdisste,wdisroo,wdisnex⟩,⟨wwriver,wwristr,wwrirol,wwribas,wwrilin,wwrioff,wwriend,wwriope,wwricod⟩,wtol,wsur,wfal⟩:Bl):=(by unfold Cg;simp only[];rw[aa,ab];symm;simp;omega)
 rw[hr]at e
 subst e
 exact hQ _ _ (.b rfl rfl)
end
section
open Go Go.Proofs
set_option maxRecDepth 20000
set_option maxHeartbeats 4000000
end
section
open Go Go.Proofs
set_option maxRecDepth 20000
set_option maxHeartbeats 4000000
end
section
open Go Go.Proofs
set_option maxRecDepth 20000
set_option maxHeartbeats 4000000
end
section
open Go Go.Proofs
set_option maxRecDepth 20000
set_option maxHeartbeats 4000000
theorem F2{α:Type}{p:α→Bool}{l:List α}{k:Nat}(h:k<l.length):(l.take (k+1)).filter p=(l.take k).filter p++(if p l[k]then[l[k]]else[]):=by
 rw[List.take_succ_eq_append_getElem h,List.filter_append,List.filter_cons,List.filter_nil]
end
end Go.Proofs.YtgdmjbcllgmepaaGreatDoor.Ab
