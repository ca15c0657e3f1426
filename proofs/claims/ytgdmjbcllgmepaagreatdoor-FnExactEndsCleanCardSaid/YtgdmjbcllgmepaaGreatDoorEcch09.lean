/- What functions of the program come to, for all arguments in the given bounds. -/
import Derived.Test.YtgdmjbcllgmepaaGreatDoorEcch01a
set_option linter.unusedVariables false
set_option linter.unusedSimpArgs false
namespace Go.Proofs.YtgdmjbcllgmepaaGreatDoor.Ab
section
open Go Go.Proofs
set_option maxRecDepth 20000
set_option maxHeartbeats 4000000
def Xe8:List (Nat×TyRow):=[ty3,ty5,ty9,Xab]
theorem Xd6:Cb Tryz.prog Xe8:=Cb.of (by kernel_rfl)
theorem No:Setup Tryz.prog Xe8:=⟨Xd6,mixed⟩
def D8(s p:ByteArray):Bool:=decide (s.extract 0 p.size=p)
def Gs(b:ByteArray)(p:Int)(t:ByteArray):Bool:=decide ((0≤p∧p+t.size≤b.size)∧b.extract p.toNat (p.toNat+t.size)=t)
theorem Q6{s:ByteArray}{i j:Nat}(h:i≤j)(h2:j≤s.size):(s.extract i j).size=j - i:=by
 rw[ByteArray.size_extract]
 omega
theorem XlF{s:ByteArray}{i k:Nat}(h:i≤s.size):(s.extract i s.size).extract 0 k=s.extract i (i+k):=by
 rw[XaS,XaS,XaS s i (i+k),N4,List.drop_zero,Nat.sub_zero,List.take_take,Nat.add_sub_cancel_left]
 congr 1
 have:(s.data.toList.drop i).length=s.size - i:=by rw[List.length_drop,Je]
 by_cases hk:k≤s.size - i
 ·rw[Nat.min_eq_left hk]
 ·rw[Nat.min_eq_right (by omega),List.take_of_length_le (by omega),List.take_of_length_le (by omega)]
theorem Y6{s p:ByteArray}(h:D8 s p=true):p.size≤s.size:=by
 have:=of_decide_eq_true h
 have h2:=congrArg ByteArray.size this
 rw[ByteArray.size_extract]at h2
 omega
theorem Oi(n:Int)(h:0≤n∧n<4294967296):(Av n 4).size=4:=Sj ⟨h.1,by omega,by omega,Nat.div_eq_of_lt (show n.toNat<2^ (8*4)by omega)⟩
theorem Q0{v n:Int}{r:ByteArray}(hv:v=1∨v=2)(hn:0≤n∧n≤1000000000)(hr:r.size≤60):Aq v n r≠tx []:=by
 unfold Aq
 rw[if_pos ⟨hv,hn,hr⟩]
 intro h
 have:=congrArg ByteArray.size h
 rw[ByteArray.size_append,Oi _ (Wc r),Bh]at this
 simp at this
theorem Ko{v n:Int}{r:ByteArray}(h:¬((v=1∨v=2)∧0≤n∧n≤1000000000)):Aq v n r=tx []:=if_neg (fun hh=>h ⟨hh.1,hh.2.1⟩)
def Ih(v n:Int)(b:ByteArray)(p x q:Int):ByteArray×Int×Bool:=
 if x≤60∧q+x≤b.size∧Aq v n (b.extract q.toNat (q+x).toNat)≠tx []∧Gs b p (Aq v n (b.extract q.toNat (q+x).toNat))=true then
  (b.extract q.toNat (q+x).toNat,p+(Aq v n (b.extract q.toNat (q+x).toNat)).size,true)else(tx [],0,false)
def Az(v n:Int)(b:ByteArray)(p:Int):ByteArray×Int×Bool:=
 if v=2 then(if(Ch b p 4).2=true then Ih v n b p (Ch b p 4).1 (p+8)else(tx [],0,false))
 else(if(Dd b p).2.2=true then Ih v n b p (Dd b p).1 (Dd b p).2.1 else(tx [],0,false))
theorem K4{v n p x:Int}{b:ByteArray}{ok:Bool}(h1:v=2)(h:Ch b p 4=(x,ok)):Az v n b p=if ok=true then Ih v n b p x (p+8)else(tx [],0,false):=by
 unfold Az
 rw[if_pos h1,h]
theorem Ku{v n p x q:Int}{b:ByteArray}{ok:Bool}(h1:v≠2)(h:Dd b p=(x,q,ok)):Az v n b p=if ok=true then Ih v n b p x q else(tx [],0,false):=by
 unfold Az
 rw[if_neg h1,h]
theorem Ni{b:ByteArray}{p w x:Int}(h:Ch b p w=(x,true)):(1≤w∧w≤8)∧0≤p∧p+w≤b.size∧0≤x∧x<9223372036854775808:=by
 unfold Ch at h
 split at h
 ·split at h
  ·simp only[Prod.mk.injEq,and_true]at h
   omega
  ·simp at h
 ·simp at h
theorem Xfm:∀{f:Nat} {l:List UInt8} {n k:Nat},Qe f l=some (n,k)→1≤k∧k≤l.length
 |0,l,n,k,h=>by simp[Qe]at h
 |f+1,[],n,k,h=>by simp[Qe]at h
 |f+1,x::l,n,k,h=>by
  simp only[Qe]at h
  split at h
  ·simp only[Option.some.injEq,Prod.mk.injEq]at h
   simp
   omega
  ·split at h
   ·rename_i m j hm
    have:=Xfm hm
    split at h
    ·cases h
    ·simp only[Option.some.injEq,Prod.mk.injEq]at h
     simp
     omega
   ·cases h
theorem Nn{b:ByteArray}{p x q:Int}(h:Dd b p=(x,q,true)):0≤p∧p<q∧q≤b.size∧0≤x∧x≤1000000000:=by
 unfold Dd at h
 split at h
 ·split at h
  ·rename_i n k hv
   have:=Xfm hv
   rw[List.length_drop,Je]at this
   split at h
   ·simp only[Prod.mk.injEq,and_true]at h
    omega
   ·simp at h
  ·simp at h
 ·simp at h
theorem L0{v n p x q:Int}{b:ByteArray}(h:¬(x≤60∧q+x≤b.size)):(tx [],0,false)=Ih v n b p x q:=(if_neg (fun hh=>h ⟨hh.1,hh.2.1⟩)).symm
theorem Xf{v n p x q:Int}{b t:ByteArray}(h:Aq v n (b.extract q.toNat (q+x).toNat)=t)(h2:t=tx []∨Gs b p t=false):(tx [],0,false)=Ih v n b p x q:=by
 unfold Ih
 rw[h,if_neg]
 rintro⟨_,_,h3,h4⟩
 rcases h2 with h2|h2
 ·exact h3 h2
 ·rw[h2]at h4;cases h4
theorem Xfi{v n p x q:Int}{b t:ByteArray}(hx:x≤60∧q+x≤b.size)(h:Aq v n (b.extract q.toNat (q+x).toNat)=t)(h2:t≠tx [])(h3:Gs b p t=true):(b.extract q.toNat (q+x).toNat,p+(t.size:Int),true)=Ih v n b p x q:=by
 unfold Ih
 rw[h,if_pos ⟨hx.1,hx.2,h2,h3⟩]
def D9(v n:Int)(b:ByteArray)(p:Int):Bool:=decide (Cx v n≠tx [])&&Gs b p (Cx v n)
theorem XkO{v n p:Int}{b:ByteArray}(h:¬((v=1∨v=2)∧0≤n∧n≤1000000000)):(tx [],0,false)=Az v n b p:=by
 unfold Az
 split
 ·split
  ·exact Xf (Ko h) (.inl rfl)
  ·rfl
 ·split
  ·exact Xf (Ko h) (.inl rfl)
  ·rfl
theorem Xmu{v n p:Int}{b:ByteArray}(h:¬(0≤p∧p≤b.size)):(tx [],0,false)=Az v n b p:=by
 rcases h1:Ch b p 4 with⟨x,ok⟩
 rcases h2:Dd b p with⟨y,q,ok2⟩
 by_cases hv:v=2
 ·rw[K4 hv h1]
  cases ok
  ·rfl
  ·have:=Ni h1;omega
 ·rw[Ku hv h2]
  cases ok2
  ·rfl
  ·have:=Nn h2;omega
def bAt(b:ByteArray)(i:Nat):Int:=(((b.data.toList[i]?).getD 0).toNat:Nat)
theorem Xf3{b:ByteArray}{i:Nat}(h:i<b.size):((b[i].toNat:Nat):Int)=bAt b i:=by
 unfold bAt
 rw[Zp h,List.getElem?_eq_getElem (by rw[Je];exact h)]
 rfl
def Ca(b:ByteArray):Bp×Bool:=
 if 24≤b.size∧(Ch b 8 8).2=true∧Br ⟨bAt b 4,bAt b 5,(Ch b 8 8).1,(Ch b 16 4).1⟩=b.extract 0 24 then(⟨bAt b 4,bAt b 5,(Ch b 8 8).1,(Ch b 16 4).1⟩,true)else(⟨0,0,0,0⟩,false)
theorem F4{b:ByteArray}{h:Bp}(e:Ca b=(h,true)):24≤b.size∧Br h=b.extract 0 24∧Df h=true:=by
 unfold Ca at e
 split at e
 ·rename_i hh
  simp only[Prod.mk.injEq,and_true]at e
  rw[←e]
  refine⟨hh.1,hh.2.2,?_⟩
  by_cases hk:Df ⟨bAt b 4,bAt b 5,(Ch b 8 8).1,(Ch b 16 4).1⟩=true
  ·exact hk
  ·have h2:=hh.2.2
   unfold Br at h2
   rw[if_neg hk]at h2
   have:=congrArg ByteArray.size h2
   rw[Bh,Q6 (by omega) (by omega)]at this
   simp at this
 ·simp at e
variable {s b oa:ByteArray} {p v n oaver oastr oabas oalin ob:Int} {o oc:Bool}
theorem Iw{p:ByteArray}(hs:s.size<2^47)(hr:D8 s p=o):Fn Tryz.prog 341 [S s,S p] [] ⟨B o,[],[]⟩:=by
 refine Fn.go No Tryz.func341 fun P hP Q hQ=>?_
 conv=>cbv
 refine .go fun v1 ab=>?_
 conv=>cbv
 refine .go fun v2 ac=>?_
 conv=>cbv
 refine .geq (fun h3=>?_) fun h3=>?_
 conv=>cbv
 refine .go fun v4 ad=>?_
 conv=>cbv
 refine .hi fun s5 aa=>?_
 conv=>cbv
 refine .eql (fun h6=>?_) fun h6=>?_
 conv=>cbv
 have e:true=D8 s p:=(by unfold D8;symm;rw[decide_eq_true_eq,show p.size=v4.toNat by omega,←aa];exact h6)
 rw[hr]at e
 subst e
 exact hQ _ _ (.b rfl rfl)
 conv=>cbv
 have e:false=D8 s p:=(by unfold D8;symm;rw[decide_eq_false_iff_not];intro h;refine h6 ?_;rw[aa,show v4.toNat=p.size by omega];exact h)
 rw[hr]at e
 subst e
 exact hQ _ _ (.b rfl rfl)
 conv=>cbv
 have e:false=D8 s p:=(by symm;cases hh:D8 s p;rfl;have:=Y6 hh;omega)
 rw[hr]at e
 subst e
 exact hQ _ _ (.b rfl rfl)
theorem Qs{p:ByteArray}(hs:s.size<2^47)(hr:D8 s p=o):Fn Tryz.prog 316 [S s,S p] [] ⟨B o,[],[]⟩:=by
 refine Fn.go No Tryz.func316 fun P hP Q hQ=>?_
 conv=>cbv
 generalize aa:D8 s p=r1
 refine .dd hP (Iw (by omega) aa) ?_
 cases r1
 conv=>cbv
 have e:false=D8 s p:=(by exact aa.symm)
 rw[hr]at e
 subst e
 exact hQ _ _ (.b rfl rfl)
 conv=>cbv
 have e:true=D8 s p:=(by exact aa.symm)
 rw[hr]at e
 subst e
 exact hQ _ _ (.b rfl rfl)
theorem XdV{t:ByteArray}(hs:b.size<2^47)(hr:Gs b p t=o):Fn Tryz.prog 311 [S b,I p,S t] [] ⟨B o,[],[]⟩:=by
 refine Fn.go No Tryz.func311 fun P hP Q hQ=>?_
 conv=>cbv
 refine .go fun v1 ad=>?_
 conv=>cbv
 generalize aa:Cg p 0 v1=r2
 refine .dd hP (Gr aa) ?_
 cases r2
 simp only[Cg,decide_eq_true_eq,decide_eq_false_iff_not]at aa
 conv=>cbv
 have e:false=Gs b p t:=(by unfold Gs;symm;rw[decide_eq_false_iff_not];intro h;omega)
 rw[hr]at e
 subst e
 exact hQ _ _ (.b rfl rfl)
 simp only[Cg,decide_eq_true_eq,decide_eq_false_iff_not]at aa
 conv=>cbv
 refine .lo fun s3 ac=>?_
 conv=>cbv
 have z3:s3.size≤b.size:=by rw[ac,ByteArray.size_extract];omega
 have key:D8 s3 t=Gs b p t:=by
  unfold D8 Gs
  rw[ac,XlF (by omega)]
  simp only[decide_eq_decide]
  constructor
  ·intro h;refine⟨?_,h⟩;have h2:=congrArg ByteArray.size h;rw[ByteArray.size_extract]at h2;omega
  ·intro h;exact h.2
 generalize ab:D8 s3 t=r4
 refine .dd hP (Qs (by omega) ab) ?_
 cases r4
 conv=>cbv
 have e:false=Gs b p t:=(by rw[←key];exact ab.symm)
 rw[hr]at e
 subst e
 exact hQ _ _ (.b rfl rfl)
 conv=>cbv
 have e:true=Gs b p t:=(by rw[←key];exact ab.symm)
 rw[hr]at e
 subst e
 exact hQ _ _ (.b rfl rfl)
theorem Xjs(hs:b.size<2^47)(hp: -140737488355328≤p∧p<140737488355328)(hr:D9 v n b p=o):Fn Tryz.prog 263 [I v,I n,S b,I p] [] ⟨B o,[],[]⟩:=by
 refine Fn.go No Tryz.func263 fun P hP Q hQ=>?_
 conv=>cbv
 generalize aa:Cx v n=r1
 have zr1:=Mj aa
 refine .dd hP (XbW aa) ?_
 conv=>cbv
 refine .neq (fun h2=>?_) fun h2=>?_
 conv=>cbv
 generalize ab:Gs b p r1=r3
 refine .dd hP (XdV (by omega) ab) ?_
 cases r3
 conv=>cbv
 have e:false=D9 v n b p:=(by unfold D9;rw[aa];simp[show r1≠tx []from h2,ab])
 rw[hr]at e
 subst e
 exact hQ _ _ (.b rfl rfl)
 conv=>cbv
 have e:true=D9 v n b p:=(by unfold D9;rw[aa];simp[show r1≠tx []from h2,ab])
 rw[hr]at e
 subst e
 exact hQ _ _ (.b rfl rfl)
 conv=>cbv
 have e:false=D9 v n b p:=(by unfold D9;rw[aa];simp[show r1=tx []from h2])
 rw[hr]at e
 subst e
 exact hQ _ _ (.b rfl rfl)
theorem Xj1(hs:b.size<2^47)(hp: -140737488355328≤p∧p<140737488355328)(hr:D9 v n b p=o):Fn Tryz.prog 257 [I v,I n,S b,I p] [] ⟨B o,[],[]⟩:=by
 refine Fn.go No Tryz.func257 fun P hP Q hQ=>?_
 conv=>cbv
 generalize aa:Cx v n=r1
 have zr1:=Mj aa
 refine .dd hP (XaT aa) ?_
 conv=>cbv
 refine .neq (fun h2=>?_) fun h2=>?_
 conv=>cbv
 refine .go fun v3 ad=>?_
 conv=>cbv
 refine .go fun v4 ae=>?_
 conv=>cbv
 refine .sub fun v5 af=>?_
 conv=>cbv
 generalize ab:A6 p 0 v5=r6
 refine .dd hP (Dr ab) ?_
 cases r6
 simp only[A6,decide_eq_true_eq,decide_eq_false_iff_not]at ab
 conv=>cbv
 have e:false=D9 v n b p:=(by unfold D9 Gs;rw[aa];symm;simp;omega)
 rw[hr]at e
 subst e
 exact hQ _ _ (.b rfl rfl)
 simp only[A6,decide_eq_true_eq,decide_eq_false_iff_not]at ab
 conv=>cbv
 refine .go fun v7 ag=>?_
 conv=>cbv
 refine .add fun v8 ah=>?_
 conv=>cbv
 refine .lohi fun s9 ac=>?_
 conv=>cbv
 refine .eql (fun h10=>?_) fun h10=>?_
 conv=>cbv
 have e:true=D9 v n b p:=(by unfold D9 Gs;rw[aa,ac,show v8.toNat=p.toNat+r1.size by omega]at*;symm;simp[h10,show r1≠tx []from h2];omega)
 rw[hr]at e
 subst e
 exact hQ _ _ (.b rfl rfl)
 conv=>cbv
 have e:false=D9 v n b p:=(by unfold D9 Gs;rw[aa];rw[ac,show v8.toNat=p.toNat+r1.size by omega]at h10;symm;simp[h10])
 rw[hr]at e
 subst e
 exact hQ _ _ (.b rfl rfl)
 conv=>cbv
 have e:false=D9 v n b p:=(by unfold D9;rw[aa];simp[show r1=tx []from h2])
 rw[hr]at e
 subst e
 exact hQ _ _ (.b rfl rfl)
theorem Yd{ob:Bool}(hs:b.size<2^47)(hr:Ca b=(⟨oaver,oastr,oabas,oalin⟩,ob)):Fn Tryz.prog 262 [S b] [] ⟨.tup [.agg [I oaver,I oastr,I oabas,I oalin],B ob],[],[]⟩:=by
 refine Fn.go No Tryz.func262 fun P hP Q hQ=>?_
 conv=>cbv
 refine .go fun v1 al=>?_
 conv=>cbv
 refine .lss (fun h2=>?_) fun h2=>?_
 conv=>cbv
 have e:((⟨0,0,0,0⟩:Bp),false)=Ca b:=(by unfold Ca;rw[if_neg (by omega)])
 rw[hr]at e
 simp only[Prod.mk.injEq,Bp.mk.injEq]at e
 obtain⟨⟨rfl,rfl,rfl,rfl⟩,rfl⟩:=e
 refine hQ _ _ ?_
 exact .many (.inl rfl) rfl rfl (.agg (.d rfl rfl (.d rfl rfl (.d rfl rfl (.d rfl rfl (.nil))))) (.d rfl rfl (.nil)))
 conv=>cbv
 rcases aa:Ch b 8 8 with⟨ae,ag⟩
 refine .dd hP (Wn (by omega) aa) ?_
 conv=>cbv
 rcases ab:Ch b 16 4 with⟨af,am⟩
 refine .dd hP (Wn (by omega) ab) ?_
 conv=>cbv
 refine .go 4 fun hjv5 v5 ah bv5=>?_
 conv=>cbv
 refine .id fun v6 ai=>?_
 conv=>cbv
 refine .go 5 fun hjv7 v7 aj bv7=>?_
 conv=>cbv
 refine .id fun v8 ak=>?_
 conv=>cbv
 cases ag
 conv=>cbv
 have e:((⟨0,0,0,0⟩:Bp),false)=Ca b:=(by unfold Ca;rw[aa,ab,if_neg];simp)
 rw[hr]at e
 simp only[Prod.mk.injEq,Bp.mk.injEq]at e
 obtain⟨⟨rfl,rfl,rfl,rfl⟩,rfl⟩:=e
 refine hQ _ _ ?_
 exact .many (.inl rfl) rfl rfl (.agg (.d rfl rfl (.d rfl rfl (.d rfl rfl (.d rfl rfl (.nil))))) (.d rfl rfl (.nil)))
 conv=>cbv
 have e4:v6=bAt b 4:=by rw[ai,ah,Xf3]
 have e5:v8=bAt b 5:=by rw[ak,aj,Xf3]
 generalize ac:Br (⟨v6,v8,ae,af⟩:Bp)=r9
 have zr9:=I0 ac
 refine .dd hP (Xq ac) ?_
 conv=>cbv
 refine .hi fun an ad=>?_
 conv=>cbv
 refine .neq (fun h11=>?_) fun h11=>?_
 conv=>cbv
 have e:((⟨0,0,0,0⟩:Bp),false)=Ca b:=(by unfold Ca;rw[aa,ab,if_neg];rintro⟨_,_,h⟩;refine h11 ?_;rw[←ac,ad,e4,e5];exact h)
 rw[hr]at e
 simp only[Prod.mk.injEq,Bp.mk.injEq]at e
 obtain⟨⟨rfl,rfl,rfl,rfl⟩,rfl⟩:=e
 refine hQ _ _ ?_
 exact .many (.inl rfl) rfl rfl (.agg (.d rfl rfl (.d rfl rfl (.d rfl rfl (.d rfl rfl (.nil))))) (.d rfl rfl (.nil)))
 conv=>cbv
 have e:((⟨v6,v8,ae,af⟩:Bp),true)=Ca b:=(by unfold Ca;rw[aa,ab,←e4,←e5,if_pos];refine⟨by omega,rfl,?_⟩;rw[ac,h11,ad];rfl)
 rw[hr]at e
 simp only[Prod.mk.injEq,Bp.mk.injEq]at e
 obtain⟨⟨rfl,rfl,rfl,rfl⟩,rfl⟩:=e
 refine hQ _ _ ?_
 exact .many (.inl rfl) rfl rfl (.agg (.d rfl rfl (.d rfl rfl (.d rfl rfl (.d rfl rfl (.nil))))) (.d rfl rfl (.nil)))
theorem Tb{ob:Bool}(hs:b.size<2^47)(hr:Ca b=(⟨oaver,oastr,oabas,oalin⟩,ob)):Fn Tryz.prog 100 [S b] [] ⟨.tup [.agg [I oaver,I oastr,I oabas,I oalin],B ob],[],[]⟩:=by
 refine Fn.go No Tryz.func100 fun P hP Q hQ=>?_
 conv=>cbv
 refine .go fun v1 al=>?_
 conv=>cbv
 refine .lss (fun h2=>?_) fun h2=>?_
 conv=>cbv
 have e:((⟨0,0,0,0⟩:Bp),false)=Ca b:=(by unfold Ca;rw[if_neg (by omega)])
 rw[hr]at e
 simp only[Prod.mk.injEq,Bp.mk.injEq]at e
 obtain⟨⟨rfl,rfl,rfl,rfl⟩,rfl⟩:=e
 refine hQ _ _ ?_
 exact .many (.inl rfl) rfl rfl (.agg (.d rfl rfl (.d rfl rfl (.d rfl rfl (.d rfl rfl (.nil))))) (.d rfl rfl (.nil)))
 conv=>cbv
 rcases aa:Ch b 8 8 with⟨ae,ag⟩
 refine .dd hP (Wv (by omega) aa) ?_
 conv=>cbv
 rcases ab:Ch b 16 4 with⟨af,am⟩
 refine .dd hP (Wv (by omega) ab) ?_
 conv=>cbv
 refine .go 4 fun hjv5 v5 ah bv5=>?_
 conv=>cbv
 refine .id fun v6 ai=>?_
 conv=>cbv
 refine .go 5 fun hjv7 v7 aj bv7=>?_
 conv=>cbv
 refine .id fun v8 ak=>?_
 conv=>cbv
 cases ag
 conv=>cbv
 have e:((⟨0,0,0,0⟩:Bp),false)=Ca b:=(by unfold Ca;rw[aa,ab,if_neg];simp)
 rw[hr]at e
 simp only[Prod.mk.injEq,Bp.mk.injEq]at e
 obtain⟨⟨rfl,rfl,rfl,rfl⟩,rfl⟩:=e
 refine hQ _ _ ?_
 exact .many (.inl rfl) rfl rfl (.agg (.d rfl rfl (.d rfl rfl (.d rfl rfl (.d rfl rfl (.nil))))) (.d rfl rfl (.nil)))
 conv=>cbv
 have e4:v6=bAt b 4:=by rw[ai,ah,Xf3]
 have e5:v8=bAt b 5:=by rw[ak,aj,Xf3]
 generalize ac:Br (⟨v6,v8,ae,af⟩:Bp)=r9
 have zr9:=I0 ac
 refine .dd hP (X4 ac) ?_
 conv=>cbv
 refine .hi fun an ad=>?_
 conv=>cbv
 refine .neq (fun h11=>?_) fun h11=>?_
 conv=>cbv
 have e:((⟨0,0,0,0⟩:Bp),false)=Ca b:=(by unfold Ca;rw[aa,ab,if_neg];rintro⟨_,_,h⟩;refine h11 ?_;rw[←ac,ad,e4,e5];exact h)
 rw[hr]at e
 simp only[Prod.mk.injEq,Bp.mk.injEq]at e
 obtain⟨⟨rfl,rfl,rfl,rfl⟩,rfl⟩:=e
 refine hQ _ _ ?_
 exact .many (.inl rfl) rfl rfl (.agg (.d rfl rfl (.d rfl rfl (.d rfl rfl (.d rfl rfl (.nil))))) (.d rfl rfl (.nil)))
 conv=>cbv
 have e:((⟨v6,v8,ae,af⟩:Bp),true)=Ca b:=(by unfold Ca;rw[aa,ab,←e4,←e5,if_pos];refine⟨by omega,rfl,?_⟩;rw[ac,h11,ad];rfl)
 rw[hr]at e
 simp only[Prod.mk.injEq,Bp.mk.injEq]at e
 obtain⟨⟨rfl,rfl,rfl,rfl⟩,rfl⟩:=e
 refine hQ _ _ ?_
 exact .many (.inl rfl) rfl rfl (.agg (.d rfl rfl (.d rfl rfl (.d rfl rfl (.d rfl rfl (.nil))))) (.d rfl rfl (.nil)))
theorem Xd9(hs:b.size<2^47)(hp: -140737488355328≤p∧p<140737488355328)(hr:Az v n b p=(oa,ob,oc)):Fn Tryz.prog 264 [I v,I n,S b,I p] [] ⟨.tup [S oa,I ob,B oc],[],[]⟩:=by
 refine Fn.go No Tryz.func264 fun P hP Q hQ=>?_
 conv=>cbv
 refine .eql (fun h1=>?_) fun h1=>?_
 conv=>cbv
 rcases aa:Ch b p 4 with⟨al,ag⟩
 refine .dd hP (Wn (by omega) aa) ?_
 conv=>cbv
 refine .add fun v3 au=>?_
 conv=>cbv
 cases ag
 conv=>cbv
 have e:((tx []),0,false)=Az v n b p:=(by rw[K4 h1 aa];rfl)
 rw[hr]at e
 simp only[Prod.mk.injEq]at e
 obtain⟨rfl,rfl,rfl⟩:=e
 refine hQ _ _ ?_
 exact .many (.inl rfl) rfl rfl (.d rfl rfl (.d rfl rfl (.d rfl rfl (.nil))))
 conv=>cbv
 have zz:=Ni aa
 refine .gtr (fun h4=>?_) fun h4=>?_
 conv=>cbv
 have e:((tx []),0,false)=Az v n b p:=(by rw[K4 h1 aa];rw[if_pos rfl];exact L0 (by omega))
 rw[hr]at e
 simp only[Prod.mk.injEq]at e
 obtain⟨rfl,rfl,rfl⟩:=e
 refine hQ _ _ ?_
 exact .many (.inl rfl) rfl rfl (.d rfl rfl (.d rfl rfl (.d rfl rfl (.nil))))
 conv=>cbv
 refine .go fun v5 a8=>?_
 conv=>cbv
 refine .gtr (fun h6=>?_) fun h6=>?_
 conv=>cbv
 have e:((tx []),0,false)=Az v n b p:=(by rw[K4 h1 aa];rw[if_pos rfl];exact L0 (by omega))
 rw[hr]at e
 simp only[Prod.mk.injEq]at e
 obtain⟨rfl,rfl,rfl⟩:=e
 refine hQ _ _ ?_
 exact .many (.inl rfl) rfl rfl (.d rfl rfl (.d rfl rfl (.d rfl rfl (.nil))))
 conv=>cbv
 refine .go fun v7 aw=>?_
 conv=>cbv
 refine .sub fun v8 ba=>?_
 conv=>cbv
 refine .gtr (fun h9=>?_) fun h9=>?_
 conv=>cbv
 have e:((tx []),0,false)=Az v n b p:=(by rw[K4 h1 aa];rw[if_pos rfl];exact L0 (by omega))
 rw[hr]at e
 simp only[Prod.mk.injEq]at e
 obtain⟨rfl,rfl,rfl⟩:=e
 refine hQ _ _ ?_
 exact .many (.inl rfl) rfl rfl (.d rfl rfl (.d rfl rfl (.d rfl rfl (.nil))))
 conv=>cbv
 refine .add fun bb ao=>?_
 conv=>cbv
 refine .lohi fun ah aj=>?_
 conv=>cbv
 have bc:ah.size≤b.size:=by rw[aj,ByteArray.size_extract];omega
 have am:ah=b.extract (p+8).toNat (p+8+al).toNat:=by rw[aj,ao,au]
 generalize ab:Aq v n ah=ax
 have zr12:=F2 ab
 refine .dd hP (Qh (by omega) ab) ?_
 conv=>cbv
 refine .eql (fun h13=>?_) fun h13=>?_
 conv=>cbv
 have e:((tx []),0,false)=Az v n b p:=(by rw[K4 h1 aa];rw[if_pos rfl];rw[am]at ab;exact Xf ab (.inl h13))
 rw[hr]at e
 simp only[Prod.mk.injEq]at e
 obtain⟨rfl,rfl,rfl⟩:=e
 refine hQ _ _ ?_
 exact .many (.inl rfl) rfl rfl (.d rfl rfl (.d rfl rfl (.d rfl rfl (.nil))))
 conv=>cbv
 generalize ad:Gs b p ax=ay
 refine .dd hP (XdV (by omega) ad) ?_
 cases ay
 conv=>cbv
 have e:((tx []),0,false)=Az v n b p:=(by rw[K4 h1 aa];rw[if_pos rfl];rw[am]at ab;exact Xf ab (.inr ad))
 rw[hr]at e
 simp only[Prod.mk.injEq]at e
 obtain⟨rfl,rfl,rfl⟩:=e
 refine hQ _ _ ?_
 exact .many (.inl rfl) rfl rfl (.d rfl rfl (.d rfl rfl (.d rfl rfl (.nil))))
 conv=>cbv
 refine .go fun ap ae=>?_
 conv=>cbv
 refine .add fun az aq=>?_
 conv=>cbv
 have e:(ah,az,true)=Az v n b p:=(by rw[K4 h1 aa];rw[if_pos rfl];rw[am]at ab⊢;rw[aq,ae];exact Xfi (by omega) ab h13 ad)
 rw[hr]at e
 simp only[Prod.mk.injEq]at e
 obtain⟨rfl,rfl,rfl⟩:=e
 refine hQ _ _ ?_
 exact .many (.inl rfl) rfl rfl (.d rfl rfl (.d rfl rfl (.d rfl rfl (.nil))))
 conv=>cbv
 rcases aa:Dd b p with⟨al,ag,a1⟩
 refine .dd hP (XhA (by omega) aa) ?_
 conv=>cbv
 cases a1
 conv=>cbv
 have e:((tx []),0,false)=Az v n b p:=(by rw[Ku h1 aa];rfl)
 rw[hr]at e
 simp only[Prod.mk.injEq]at e
 obtain⟨rfl,rfl,rfl⟩:=e
 refine hQ _ _ ?_
 exact .many (.inl rfl) rfl rfl (.d rfl rfl (.d rfl rfl (.d rfl rfl (.nil))))
 conv=>cbv
 have zz:=Nn aa
 refine .gtr (fun h3=>?_) fun h3=>?_
 conv=>cbv
 have e:((tx []),0,false)=Az v n b p:=(by rw[Ku h1 aa];rw[if_pos rfl];exact L0 (by omega))
 rw[hr]at e
 simp only[Prod.mk.injEq]at e
 obtain⟨rfl,rfl,rfl⟩:=e
 refine hQ _ _ ?_
 exact .many (.inl rfl) rfl rfl (.d rfl rfl (.d rfl rfl (.d rfl rfl (.nil))))
 conv=>cbv
 refine .go fun v4 bd=>?_
 conv=>cbv
 refine .gtr (fun h5=>?_) fun h5=>?_
 conv=>cbv
 have e:((tx []),0,false)=Az v n b p:=(by rw[Ku h1 aa];rw[if_pos rfl];exact L0 (by omega))
 rw[hr]at e
 simp only[Prod.mk.injEq]at e
 obtain⟨rfl,rfl,rfl⟩:=e
 refine hQ _ _ ?_
 exact .many (.inl rfl) rfl rfl (.d rfl rfl (.d rfl rfl (.d rfl rfl (.nil))))
 conv=>cbv
 refine .go fun v6 be=>?_
 conv=>cbv
 refine .sub fun v7 aw=>?_
 conv=>cbv
 refine .gtr (fun h8=>?_) fun h8=>?_
 conv=>cbv
 have e:((tx []),0,false)=Az v n b p:=(by rw[Ku h1 aa];rw[if_pos rfl];exact L0 (by omega))
 rw[hr]at e
 simp only[Prod.mk.injEq]at e
 obtain⟨rfl,rfl,rfl⟩:=e
 refine hQ _ _ ?_
 exact .many (.inl rfl) rfl rfl (.d rfl rfl (.d rfl rfl (.d rfl rfl (.nil))))
 conv=>cbv
 refine .add fun v9 a2=>?_
 conv=>cbv
 refine .lohi fun ai ak=>?_
 conv=>cbv
 have bf:ai.size≤b.size:=by rw[ak,ByteArray.size_extract];omega
 have an:ai=b.extract ag.toNat (ag+al).toNat:=by rw[ak,a2]
 generalize ac:Aq v n ai=a6
 have zr11:=F2 ac
 refine .dd hP (Qh (by omega) ac) ?_
 conv=>cbv
 refine .eql (fun h12=>?_) fun h12=>?_
 conv=>cbv
 have e:((tx []),0,false)=Az v n b p:=(by rw[Ku h1 aa];rw[if_pos rfl];rw[an]at ac;exact Xf ac (.inl h12))
 rw[hr]at e
 simp only[Prod.mk.injEq]at e
 obtain⟨rfl,rfl,rfl⟩:=e
 refine hQ _ _ ?_
 exact .many (.inl rfl) rfl rfl (.d rfl rfl (.d rfl rfl (.d rfl rfl (.nil))))
 conv=>cbv
 generalize af:Gs b p a6=a7
 refine .dd hP (XdV (by omega) af) ?_
 cases a7
 conv=>cbv
 have e:((tx []),0,false)=Az v n b p:=(by rw[Ku h1 aa];rw[if_pos rfl];rw[an]at ac;exact Xf ac (.inr af))
 rw[hr]at e
 simp only[Prod.mk.injEq]at e
 obtain⟨rfl,rfl,rfl⟩:=e
 refine hQ _ _ ?_
 exact .many (.inl rfl) rfl rfl (.d rfl rfl (.d rfl rfl (.d rfl rfl (.nil))))
 conv=>cbv
 refine .go fun bg ar=>?_
 conv=>cbv
 refine .add fun ap ae=>?_
 conv=>cbv
 have e:(ai,ap,true)=Az v n b p:=(by rw[Ku h1 aa];rw[if_pos rfl];rw[an]at ac⊢;rw[ae,ar];exact Xfi (by omega) ac h12 af)
 rw[hr]at e
 simp only[Prod.mk.injEq]at e
 obtain⟨rfl,rfl,rfl⟩:=e
 refine hQ _ _ ?_
 exact .many (.inl rfl) rfl rfl (.d rfl rfl (.d rfl rfl (.d rfl rfl (.nil))))
theorem Xcz{b t:ByteArray}{p:Int}(hp:0≤p)(h:(b.size:Int) - p<t.size):Gs b p t=false:=by
 unfold Gs
 rw[decide_eq_false_iff_not]
 omega
theorem Re{b t:ByteArray}{p q:Int}(hp:0≤p)(h:(t.size:Int)≤b.size - p)(hq:q=p+t.size):Gs b p t=true↔b.extract p.toNat q.toNat=t:=by
 unfold Gs
 rw[decide_eq_true_eq,show q.toNat=p.toNat+t.size by omega]
 exact⟨fun hh=>hh.2,fun hh=>⟨by omega,hh⟩⟩
theorem Xea(hs:b.size<2^47)(hp: -140737488355328≤p∧p<140737488355328)(hr:Az v n b p=(oa,ob,oc)):Fn Tryz.prog 258 [I v,I n,S b,I p] [] ⟨.tup [S oa,I ob,B oc],[],[]⟩:=by
 refine Fn.go No Tryz.func258 fun P hP Q hQ=>?_
 conv=>cbv
 generalize al:A6 v 1 2=r1
 refine .dd hP (Dr al) ?_
 cases r1
 simp only[A6,decide_eq_true_eq,decide_eq_false_iff_not]at al
 conv=>cbv
 have e:((tx []),0,false)=Az v n b p:=(by exact XkO (by omega))
 rw[hr]at e
 simp only[Prod.mk.injEq]at e
 obtain⟨rfl,rfl,rfl⟩:=e
 refine hQ _ _ ?_
 exact .many (.inl rfl) rfl rfl (.d rfl rfl (.d rfl rfl (.d rfl rfl (.nil))))
 simp only[A6,decide_eq_true_eq,decide_eq_false_iff_not]at al
 conv=>cbv
 generalize am:A6 n 0 1000000000=r2
 refine .dd hP (Dr am) ?_
 cases r2
 simp only[A6,decide_eq_true_eq,decide_eq_false_iff_not]at am
 conv=>cbv
 have e:((tx []),0,false)=Az v n b p:=(by exact XkO (by omega))
 rw[hr]at e
 simp only[Prod.mk.injEq]at e
 obtain⟨rfl,rfl,rfl⟩:=e
 refine hQ _ _ ?_
 exact .many (.inl rfl) rfl rfl (.d rfl rfl (.d rfl rfl (.d rfl rfl (.nil))))
 simp only[A6,decide_eq_true_eq,decide_eq_false_iff_not]at am
 conv=>cbv
 refine .go fun v3 bp=>?_
 conv=>cbv
 generalize an:A6 p 0 v3=r4
 refine .dd hP (Dr an) ?_
 cases r4
 simp only[A6,decide_eq_true_eq,decide_eq_false_iff_not]at an
 conv=>cbv
 have e:((tx []),0,false)=Az v n b p:=(by exact Xmu (by omega))
 rw[hr]at e
 simp only[Prod.mk.injEq]at e
 obtain⟨rfl,rfl,rfl⟩:=e
 refine hQ _ _ ?_
 exact .many (.inl rfl) rfl rfl (.d rfl rfl (.d rfl rfl (.d rfl rfl (.nil))))
 simp only[A6,decide_eq_true_eq,decide_eq_false_iff_not]at an
 conv=>cbv
 rcases ac:Dd b p with⟨a8,aq,ba⟩
 refine .dd hP (Xhr (by omega) ac) ?_
 conv=>cbv
 refine .eql (fun h6=>?_) fun h6=>?_
 conv=>cbv
 rcases ad:Ch b p 4 with⟨bb,bc⟩
 refine .dd hP (Wv (by omega) ad) ?_
 conv=>cbv
 refine .add fun v8 ar=>?_
 conv=>cbv
 cases bc
 conv=>cbv
 have e:((tx []),0,false)=Az v n b p:=(by rw[K4 h6 ad];rfl)
 rw[hr]at e
 simp only[Prod.mk.injEq]at e
 obtain⟨rfl,rfl,rfl⟩:=e
 refine hQ _ _ ?_
 exact .many (.inl rfl) rfl rfl (.d rfl rfl (.d rfl rfl (.d rfl rfl (.nil))))
 conv=>cbv
 have zz:=Ni ad
 refine .gtr (fun h9=>?_) fun h9=>?_
 conv=>cbv
 have e:((tx []),0,false)=Az v n b p:=(by rw[K4 h6 ad];rw[if_pos rfl];exact L0 (by omega))
 rw[hr]at e
 simp only[Prod.mk.injEq]at e
 obtain⟨rfl,rfl,rfl⟩:=e
 refine hQ _ _ ?_
 exact .many (.inl rfl) rfl rfl (.d rfl rfl (.d rfl rfl (.d rfl rfl (.nil))))
 conv=>cbv
 refine .go fun bq bi=>?_
 conv=>cbv
 refine .sub fun bd ai=>?_
 conv=>cbv
 refine .gtr (fun h12=>?_) fun h12=>?_
 conv=>cbv
 have e:((tx []),0,false)=Az v n b p:=(by rw[K4 h6 ad];rw[if_pos rfl];exact L0 (by omega))
 rw[hr]at e
 simp only[Prod.mk.injEq]at e
 obtain⟨rfl,rfl,rfl⟩:=e
 refine hQ _ _ ?_
 exact .many (.inl rfl) rfl rfl (.d rfl rfl (.d rfl rfl (.d rfl rfl (.nil))))
 conv=>cbv
 refine .add fun bt au=>?_
 conv=>cbv
 refine .lohi fun ae ag=>?_
 conv=>cbv
 have bu:ae.size≤b.size:=by rw[ag,ByteArray.size_extract];omega
 have y14:ae.size≤60:=by rw[ag,ByteArray.size_extract];omega
 have ao:ae=b.extract (p+8).toNat (p+8+bb).toNat:=by rw[ag,au,ar]
 have ne:=Q0 (v:=v) (n:=n) (r:=ae) (by omega) (by omega) y14
 generalize aa:Aq v n ae=bv
 have zr15:=F2 aa
 refine .dd hP (Qb (by omega) aa) ?_
 conv=>cbv
 refine .go fun be aw=>?_
 conv=>cbv
 refine .go fun bw bj=>?_
 conv=>cbv
 refine .sub fun bf ax=>?_
 conv=>cbv
 refine .gtr (fun h19=>?_) fun h19=>?_
 conv=>cbv
 have e:((tx []),0,false)=Az v n b p:=(by rw[K4 h6 ad];rw[if_pos rfl];rw[ao]at aa;exact Xf aa (.inr (Xcz (by omega) (by omega))))
 rw[hr]at e
 simp only[Prod.mk.injEq]at e
 obtain⟨rfl,rfl,rfl⟩:=e
 refine hQ _ _ ?_
 exact .many (.inl rfl) rfl rfl (.d rfl rfl (.d rfl rfl (.d rfl rfl (.nil))))
 conv=>cbv
 refine .go fun bz bk=>?_
 conv=>cbv
 refine .add fun ay bl=>?_
 conv=>cbv
 refine .lohi fun b0 aj=>?_
 conv=>cbv
 refine .neq (fun h23=>?_) fun h23=>?_
 conv=>cbv
 have e:((tx []),0,false)=Az v n b p:=(by rw[K4 h6 ad];rw[if_pos rfl];rw[ao]at aa;refine Xf aa (.inr ?_);rw[←Bool.not_eq_true,Re (q:=ay) (by omega) (by omega) (by omega),←aj];exact h23)
 rw[hr]at e
 simp only[Prod.mk.injEq]at e
 obtain⟨rfl,rfl,rfl⟩:=e
 refine hQ _ _ ?_
 exact .many (.inl rfl) rfl rfl (.d rfl rfl (.d rfl rfl (.d rfl rfl (.nil))))
 conv=>cbv
 refine .go fun b2 az=>?_
 conv=>cbv
 refine .add fun bg a1=>?_
 conv=>cbv
 have e:(ae,bg,true)=Az v n b p:=(by rw[K4 h6 ad];rw[if_pos rfl];rw[aa]at ne;rw[ao]at aa⊢;rw[a1,az];exact Xfi (by omega) aa ne ((Re (q:=ay) (by omega) (by omega) (by omega)).2 (aj▸h23)))
 rw[hr]at e
 simp only[Prod.mk.injEq]at e
 obtain⟨rfl,rfl,rfl⟩:=e
 refine hQ _ _ ?_
 exact .many (.inl rfl) rfl rfl (.d rfl rfl (.d rfl rfl (.d rfl rfl (.nil))))
 conv=>cbv
 cases ba
 conv=>cbv
 have e:((tx []),0,false)=Az v n b p:=(by rw[Ku (by omega) ac];rfl)
 rw[hr]at e
 simp only[Prod.mk.injEq]at e
 obtain⟨rfl,rfl,rfl⟩:=e
 refine hQ _ _ ?_
 exact .many (.inl rfl) rfl rfl (.d rfl rfl (.d rfl rfl (.d rfl rfl (.nil))))
 conv=>cbv
 have zz:=Nn ac
 refine .gtr (fun h7=>?_) fun h7=>?_
 conv=>cbv
 have e:((tx []),0,false)=Az v n b p:=(by rw[Ku (by omega) ac];rw[if_pos rfl];exact L0 (by omega))
 rw[hr]at e
 simp only[Prod.mk.injEq]at e
 obtain⟨rfl,rfl,rfl⟩:=e
 refine hQ _ _ ?_
 exact .many (.inl rfl) rfl rfl (.d rfl rfl (.d rfl rfl (.d rfl rfl (.nil))))
 conv=>cbv
 refine .go fun v8 ar=>?_
 conv=>cbv
 refine .sub fun v9 b3=>?_
 conv=>cbv
 refine .gtr (fun h10=>?_) fun h10=>?_
 conv=>cbv
 have e:((tx []),0,false)=Az v n b p:=(by rw[Ku (by omega) ac];rw[if_pos rfl];exact L0 (by omega))
 rw[hr]at e
 simp only[Prod.mk.injEq]at e
 obtain⟨rfl,rfl,rfl⟩:=e
 refine hQ _ _ ?_
 exact .many (.inl rfl) rfl rfl (.d rfl rfl (.d rfl rfl (.d rfl rfl (.nil))))
 conv=>cbv
 refine .add fun bd ai=>?_
 conv=>cbv
 refine .lohi fun af ah=>?_
 conv=>cbv
 have b4:af.size≤b.size:=by rw[ah,ByteArray.size_extract];omega
 have y12:af.size≤60:=by rw[ah,ByteArray.size_extract];omega
 have ap:af=b.extract aq.toNat (aq+a8).toNat:=by rw[ah,ai]
 have ne:=Q0 (v:=v) (n:=n) (r:=af) (by omega) (by omega) y12
 generalize ab:Aq v n af=b5
 have zr13:=F2 ab
 refine .dd hP (Qb (by omega) ab) ?_
 conv=>cbv
 refine .go fun b6 bm=>?_
 conv=>cbv
 refine .go fun b7 bn=>?_
 conv=>cbv
 refine .sub fun be aw=>?_
 conv=>cbv
 refine .gtr (fun h17=>?_) fun h17=>?_
 conv=>cbv
 have e:((tx []),0,false)=Az v n b p:=(by rw[Ku (by omega) ac];rw[if_pos rfl];rw[ap]at ab;exact Xf ab (.inr (Xcz (by omega) (by omega))))
 rw[hr]at e
 simp only[Prod.mk.injEq]at e
 obtain⟨rfl,rfl,rfl⟩:=e
 refine hQ _ _ ?_
 exact .many (.inl rfl) rfl rfl (.d rfl rfl (.d rfl rfl (.d rfl rfl (.nil))))
 conv=>cbv
 refine .go fun bf ax=>?_
 conv=>cbv
 refine .add fun a2 bo=>?_
 conv=>cbv
 refine .lohi fun b8 ak=>?_
 conv=>cbv
 refine .neq (fun h21=>?_) fun h21=>?_
 conv=>cbv
 have e:((tx []),0,false)=Az v n b p:=(by rw[Ku (by omega) ac];rw[if_pos rfl];rw[ap]at ab;refine Xf ab (.inr ?_);rw[←Bool.not_eq_true,Re (q:=a2) (by omega) (by omega) (by omega),←ak];exact h21)
 rw[hr]at e
 simp only[Prod.mk.injEq]at e
 obtain⟨rfl,rfl,rfl⟩:=e
 refine hQ _ _ ?_
 exact .many (.inl rfl) rfl rfl (.d rfl rfl (.d rfl rfl (.d rfl rfl (.nil))))
 conv=>cbv
 refine .go fun b9 a6=>?_
 conv=>cbv
 refine .add fun bh a7=>?_
 conv=>cbv
 have e:(af,bh,true)=Az v n b p:=(by rw[Ku (by omega) ac];rw[if_pos rfl];rw[ab]at ne;rw[ap]at ab⊢;rw[a7,a6];exact Xfi (by omega) ab ne ((Re (q:=a2) (by omega) (by omega) (by omega)).2 (ak▸h21)))
 rw[hr]at e
 simp only[Prod.mk.injEq]at e
 obtain⟨rfl,rfl,rfl⟩:=e
 refine hQ _ _ ?_
 exact .many (.inl rfl) rfl rfl (.d rfl rfl (.d rfl rfl (.d rfl rfl (.nil))))
end
section
open Go Go.Proofs
set_option maxRecDepth 20000
set_option maxHeartbeats 4000000
def XeQ:List (Nat×TyRow):=[ty3,ty4,ty9,X1,Xf0,Xab,XgN]
theorem XdK:Cb Tryz.prog XeQ:=Cb.of (by kernel_rfl)
theorem U6:Setup Tryz.prog XeQ:=⟨XdK,mixed⟩
def Fy(h:Bp)(b:ByteArray)(n:Nat)(p:Int):List ByteArray×List Int×Int×Bool:=
 if D9 h.version_ (h.base_+n) b p=true then([],[],p,true)
 else match Az h.version_ (h.base_+n) b p with
  |(r,q,true)=>if p<q∧q≤b.size then(r::(Fy h b (n+1) q).1,p::(Fy h b (n+1) q).2.1,(Fy h b (n+1) q).2.2)else([],[],p,false)
  |_=>([],[],p,false)
termination_by (b.size - p).toNat
decreasing_by all_goals omega
def As(b:ByteArray):Ql:=match Ca b with
 |(h,true)=>⟨true,h,(Fy h b 0 24).1,(Fy h b 0 24).2.1,(Fy h b 0 24).2.2.1,(Fy h b 0 24).2.2.2⟩
 |_=>⟨false,⟨0,0,0,0⟩,[],[],0,false⟩
theorem Xe{v n:Int}{r t:ByteArray}(e:Aq v n r=t)(h:t≠tx []):5≤t.size:=by
 unfold Aq at e
 split at e
 ·rename_i hh
  have h4:=Oi _ (Wc r)
  have h1:1≤(if v=2 then Ns n r.size else Cw r.size).size:=by
   split
   ·unfold Ns
    rw[ByteArray.size_append,Oi _ (by omega)]
    omega
   ·unfold Cw
    rw[if_pos (by omega),Bh]
    exact List.length_pos_iff.2 (Wh _)
  rw[←e,ByteArray.size_append,ByteArray.size_append]
  omega
 ·exact absurd e.symm h
theorem Hd{v n p q:Int}{b r:ByteArray}(h:Az v n b p=(r,q,true)):0≤p∧p+5≤q∧q≤b.size∧r.size≤60∧(v=1∨v=2)∧0≤n∧n≤1000000000∧q=p+(Aq v n r).size∧Gs b p (Aq v n r)=true:=by
 have key:∀{x s:Int},0≤s→0≤x→Ih v n b p x s=(r,q,true)→0≤p∧p+5≤q∧q≤b.size∧r.size≤60∧(v=1∨v=2)∧0≤n∧n≤1000000000∧q=p+(Aq v n r).size∧Gs b p (Aq v n r)=true:=by
  intro x s hs hx e
  unfold Ih at e
  split at e
  ·rename_i hh
   obtain⟨h1,h2,h3,h4⟩:=hh
   simp only[Prod.mk.injEq,and_true]at e
   obtain⟨rfl,rfl⟩:=e
   have h5:=Xe rfl h3
   have h6:=of_decide_eq_true h4
   have h7:(b.extract s.toNat (s+x).toNat).size=x.toNat:=by rw[Q6 (by omega) (by omega)];omega
   have h8:(v=1∨v=2)∧0≤n∧n≤1000000000:=by
    by_cases hh:(v=1∨v=2)∧0≤n∧n≤1000000000
    ·exact hh
    ·exact absurd (Ko hh) h3
   exact⟨h6.1.1,by omega,by omega,by omega,h8.1,h8.2.1,h8.2.2,rfl,h4⟩
  ·simp at e
 rcases h1:Ch b p 4 with⟨x,ok⟩
 rcases h2:Dd b p with⟨y,s,ok2⟩
 by_cases hv:v=2
 ·rw[K4 hv h1]at h
  cases ok
  ·simp at h
  ·have:=Ni h1
   exact key (by omega) (by omega) h
 ·rw[Ku hv h2]at h
  cases ok2
  ·simp at h
  ·have:=Nn h2
   exact key (by omega) (by omega) h
theorem Mm{h:Bp}{b:ByteArray}{n:Nat}{p:Int}(hm:D9 h.version_ (h.base_+n) b p=true):Fy h b n p=([],[],p,true):=by rw[Fy,if_pos hm]
theorem Me{h:Bp}{b:ByteArray}{n:Nat}{p:Int}{r:ByteArray}{q:Int}(hm:D9 h.version_ (h.base_+n) b p=false)(hf:Az h.version_ (h.base_+n) b p=(r,q,false)):Fy h b n p=([],[],p,false):=by rw[Fy,if_neg (by rw[hm];simp),hf]
theorem Mi{h:Bp}{b:ByteArray}{n:Nat}{p:Int}{r:ByteArray}{q:Int}(hm:D9 h.version_ (h.base_+n) b p=false)(hf:Az h.version_ (h.base_+n) b p=(r,q,true)):Fy h b n p=(r::(Fy h b (n+1) q).1,p::(Fy h b (n+1) q).2.1,(Fy h b (n+1) q).2.2):=by
 have:=Hd hf
 rw[Fy,if_neg (by rw[hm];simp),hf]
 simp only[]
 rw[if_pos (by omega)]
def H7(b:ByteArray):Int:=(As b).end_
variable {b:ByteArray} {ook omar:Bool} {oheaver oheastr oheabas ohealin oend:Int} {orec:List ByteArray} {xorec xooff:List (List D)} {ooff:List Int}
theorem Pk(hs:b.size<2^47)(hr:As b=⟨ook,⟨oheaver,oheastr,oheabas,ohealin⟩,orec,ooff,oend,omar⟩)(horec:orec.map cS=xorec)(hooff:ooff.map cI=xooff):Fn Tryz.prog 199 [S b] [] ⟨.agg [B ook,I oheaver,I oheastr,I oheabas,I ohealin,.d (.row 1 xorec),.d (.row 1 xooff),I oend,B omar],[],[]⟩:=by
 refine Fn.go U6 Tryz.func199 fun P hP Q hQ=>?_
 conv=>cbv
 rcases ak:Ca b with⟨⟨aa,ac,ab,ad⟩,ap⟩
 refine .dd hP (Yd (by omega) ak) ?_
 conv=>cbv
 cases ap
 conv=>cbv
 have e:(⟨false,⟨0,0,0,0⟩,[],[],0,false⟩:Ql)=As b:=(by unfold As;rw[ak])
 rw[hr]at e
 simp only[Bp.mk.injEq,Ql.mk.injEq]at e
 obtain⟨rfl,⟨rfl,rfl,rfl,rfl⟩,rfl,rfl,rfl,rfl⟩:=e
 exact hQ _ _ (.one (.inl rfl) rfl (.agg (.d rfl rfl (.d rfl rfl (.d rfl rfl (.d rfl rfl (.d rfl rfl (.ref rfl rfl (by rw[←horec];rfl) (.ref rfl rfl (by rw[←hooff];rfl) (.d rfl rfl (.d rfl rfl (.nil)))))))))) .nil))
 conv=>cbv
 refine LoopW.lp (κ:=Int×(List (List D))×Nat×(List (List D))×Nat) U6 hP [4,5] [0,2,3,5] (fun(ae,al,am,af,ag)=>[]) (fun(ae,al,am,af,ag)=>[(8,.box 115 [B true,I aa,I ac,I ab,I ad,.ref 9 0 am,.ref 10 0 ag,I ae,B false]),(9,.row 1 false al),(10,.row 1 false af)])
  (fun(ae,al,am,af,ag)=>∃(w9:List ByteArray) (ai:List Int),w9.map cS=al∧am=w9.length∧ai.map cI=af∧ag=ai.length∧(24≤ae∧ae≤b.size∧w9.length=ai.length∧5*(w9.length:Int)+24≤ae)∧Fy ⟨aa,ac,ab,ad⟩ b 0 24=(w9++(Fy ⟨aa,ac,ab,ad⟩ b w9.length ae).1,ai++(Fy ⟨aa,ac,ab,ad⟩ b w9.length ae).2.1,(Fy ⟨aa,ac,ab,ad⟩ b w9.length ae).2.2))
  (fun(ae,al,am,af,ag)=>(b.size - ae).toNat) (24,[],0,[],0) ⟨[],[],rfl,rfl,rfl,rfl,by have:=F4 ak;simp;omega,rfl⟩ trivial rfl ?_
 rintro⟨ae,al,am,af,ag⟩ J ⟨w9,ai,ao,a2,ah,aq,hb,hS⟩ hJ
 have hd:=G2 (F4 ak).2.2
 conv=>cbv
 refine .go fun v2 a8=>?_
 conv=>cbv
 refine .add fun v3 ba=>?_
 conv=>cbv
 have e3:v3=ab+(w9.length:Int):=by omega
 generalize aj:D9 aa v3 b ae=r4
 refine .dd hP (Xjs (by omega) (by omega) aj) ?_
 cases r4
 conv=>cbv
 rcases an:Az aa v3 b ae with⟨ar,au,aw⟩
 refine .dd hP (Xd9 (by omega) (by omega) an) ?_
 conv=>cbv
 cases aw
 conv=>cbv
 have e:(⟨true,⟨aa,ac,ab,ad⟩,w9,ai,ae,false⟩:Ql)=As b:=(by rw[e3]at aj an;unfold As;rw[ak];simp only[];rw[hS,Me (h:=⟨aa,ac,ab,ad⟩) aj an];simp)
 rw[hr]at e
 simp only[Bp.mk.injEq,Ql.mk.injEq]at e
 obtain⟨rfl,⟨rfl,rfl,rfl,rfl⟩,rfl,rfl,rfl,rfl⟩:=e
 exact hQ _ _ (.one (.inl rfl) rfl (.agg (.d rfl rfl (.d rfl rfl (.d rfl rfl (.d rfl rfl (.d rfl rfl (.ref rfl (by rw[←ao,List.length_map];first|omega|(simp;omega)) (by rw[←ao,←horec]) (.ref rfl (by rw[←ah,List.length_map];first|omega|(simp;omega)) (by rw[←ah,←hooff]) (.d rfl rfl (.d rfl rfl (.nil)))))))))) .nil))
 conv=>cbv
 have hf:=Hd an
 refine .one ar ao rfl fun ax z6 a6 ay=>?_
 conv=>cbv
 refine .one ae ah rfl fun az z7 a7 a1=>?_
 conv=>cbv
 exact .go [12,14] (au,z6,ax,z7,az) (hJ _ ⟨_,_,ay,Gw,a1,Gw,by simp;omega,by rw[e3]at aj an;rw[hS,Mi (h:=⟨aa,ac,ab,ad⟩) aj an];simp[List.append_assoc]⟩ mlt)
 conv=>cbv
 have e:(⟨true,⟨aa,ac,ab,ad⟩,w9,ai,ae,true⟩:Ql)=As b:=(by rw[e3]at aj;unfold As;rw[ak];simp only[];rw[hS,Mm (h:=⟨aa,ac,ab,ad⟩) aj];simp)
 rw[hr]at e
 simp only[Bp.mk.injEq,Ql.mk.injEq]at e
 obtain⟨rfl,⟨rfl,rfl,rfl,rfl⟩,rfl,rfl,rfl,rfl⟩:=e
 exact hQ _ _ (.one (.inl rfl) rfl (.agg (.d rfl rfl (.d rfl rfl (.d rfl rfl (.d rfl rfl (.d rfl rfl (.ref rfl (by rw[←ao,List.length_map];first|omega|(simp;omega)) (by rw[←ao,←horec]) (.ref rfl (by rw[←ah,List.length_map];first|omega|(simp;omega)) (by rw[←ah,←hooff]) (.d rfl rfl (.d rfl rfl (.nil)))))))))) .nil))
theorem Md(hs:b.size<2^47)(hr:As b=⟨ook,⟨oheaver,oheastr,oheabas,ohealin⟩,orec,ooff,oend,omar⟩)(horec:orec.map cS=xorec)(hooff:ooff.map cI=xooff):Fn Tryz.prog 190 [S b] [] ⟨.agg [B ook,I oheaver,I oheastr,I oheabas,I ohealin,.d (.row 1 xorec),.d (.row 1 xooff),I oend,B omar],[],[]⟩:=by
 refine Fn.go U6 Tryz.func190 fun P hP Q hQ=>?_
 conv=>cbv
 rcases ak:Ca b with⟨⟨aa,ac,ab,ad⟩,ap⟩
 refine .dd hP (Tb (by omega) ak) ?_
 conv=>cbv
 cases ap
 conv=>cbv
 have e:(⟨false,⟨0,0,0,0⟩,[],[],0,false⟩:Ql)=As b:=(by unfold As;rw[ak])
 rw[hr]at e
 simp only[Bp.mk.injEq,Ql.mk.injEq]at e
 obtain⟨rfl,⟨rfl,rfl,rfl,rfl⟩,rfl,rfl,rfl,rfl⟩:=e
 exact hQ _ _ (.one (.inl rfl) rfl (.agg (.d rfl rfl (.d rfl rfl (.d rfl rfl (.d rfl rfl (.d rfl rfl (.ref rfl rfl (by rw[←horec];rfl) (.ref rfl rfl (by rw[←hooff];rfl) (.d rfl rfl (.d rfl rfl (.nil)))))))))) .nil))
 conv=>cbv
 refine LoopW.lp (κ:=Int×(List (List D))×Nat×(List (List D))×Nat) U6 hP [4,5] [0,2,3,5] (fun(ae,al,am,af,ag)=>[]) (fun(ae,al,am,af,ag)=>[(8,.box 115 [B true,I aa,I ac,I ab,I ad,.ref 9 0 am,.ref 10 0 ag,I ae,B false]),(9,.row 1 false al),(10,.row 1 false af)])
  (fun(ae,al,am,af,ag)=>∃(w9:List ByteArray) (ai:List Int),w9.map cS=al∧am=w9.length∧ai.map cI=af∧ag=ai.length∧(24≤ae∧ae≤b.size∧w9.length=ai.length∧5*(w9.length:Int)+24≤ae)∧Fy ⟨aa,ac,ab,ad⟩ b 0 24=(w9++(Fy ⟨aa,ac,ab,ad⟩ b w9.length ae).1,ai++(Fy ⟨aa,ac,ab,ad⟩ b w9.length ae).2.1,(Fy ⟨aa,ac,ab,ad⟩ b w9.length ae).2.2))
  (fun(ae,al,am,af,ag)=>(b.size - ae).toNat) (24,[],0,[],0) ⟨[],[],rfl,rfl,rfl,rfl,by have:=F4 ak;simp;omega,rfl⟩ trivial rfl ?_
 rintro⟨ae,al,am,af,ag⟩ J ⟨w9,ai,ao,a2,ah,aq,hb,hS⟩ hJ
 have hd:=G2 (F4 ak).2.2
 conv=>cbv
 refine .go fun v2 a8=>?_
 conv=>cbv
 refine .add fun v3 ba=>?_
 conv=>cbv
 have e3:v3=ab+(w9.length:Int):=by omega
 generalize aj:D9 aa v3 b ae=r4
 refine .dd hP (Xj1 (by omega) (by omega) aj) ?_
 cases r4
 conv=>cbv
 rcases an:Az aa v3 b ae with⟨ar,au,aw⟩
 refine .dd hP (Xea (by omega) (by omega) an) ?_
 conv=>cbv
 cases aw
 conv=>cbv
 have e:(⟨true,⟨aa,ac,ab,ad⟩,w9,ai,ae,false⟩:Ql)=As b:=(by rw[e3]at aj an;unfold As;rw[ak];simp only[];rw[hS,Me (h:=⟨aa,ac,ab,ad⟩) aj an];simp)
 rw[hr]at e
 simp only[Bp.mk.injEq,Ql.mk.injEq]at e
 obtain⟨rfl,⟨rfl,rfl,rfl,rfl⟩,rfl,rfl,rfl,rfl⟩:=e
 exact hQ _ _ (.one (.inl rfl) rfl (.agg (.d rfl rfl (.d rfl rfl (.d rfl rfl (.d rfl rfl (.d rfl rfl (.ref rfl (by rw[←ao,List.length_map];first|omega|(simp;omega)) (by rw[←ao,←horec]) (.ref rfl (by rw[←ah,List.length_map];first|omega|(simp;omega)) (by rw[←ah,←hooff]) (.d rfl rfl (.d rfl rfl (.nil)))))))))) .nil))
 conv=>cbv
 have hf:=Hd an
 refine .one ar ao rfl fun ax z6 a6 ay=>?_
 conv=>cbv
 refine .one ae ah rfl fun az z7 a7 a1=>?_
 conv=>cbv
 exact .go [12,14] (au,z6,ax,z7,az) (hJ _ ⟨_,_,ay,Gw,a1,Gw,by simp;omega,by rw[e3]at aj an;rw[hS,Mi (h:=⟨aa,ac,ab,ad⟩) aj an];simp[List.append_assoc]⟩ mlt)
 conv=>cbv
 have e:(⟨true,⟨aa,ac,ab,ad⟩,w9,ai,ae,true⟩:Ql)=As b:=(by rw[e3]at aj;unfold As;rw[ak];simp only[];rw[hS,Mm (h:=⟨aa,ac,ab,ad⟩) aj];simp)
 rw[hr]at e
 simp only[Bp.mk.injEq,Ql.mk.injEq]at e
 obtain⟨rfl,⟨rfl,rfl,rfl,rfl⟩,rfl,rfl,rfl,rfl⟩:=e
 exact hQ _ _ (.one (.inl rfl) rfl (.agg (.d rfl rfl (.d rfl rfl (.d rfl rfl (.d rfl rfl (.d rfl rfl (.ref rfl (by rw[←ao,List.length_map];first|omega|(simp;omega)) (by rw[←ao,←horec]) (.ref rfl (by rw[←ah,List.length_map];first|omega|(simp;omega)) (by rw[←ah,←hooff]) (.d rfl rfl (.d rfl rfl (.nil)))))))))) .nil))
theorem Zi{o:Int}(hs:b.size<2^47)(hr:H7 b=o):Fn Tryz.prog 143 [S b] [] ⟨I o,[],[]⟩:=by
 refine Fn.go U6 Tryz.func143 fun P hP Q hQ=>?_
 conv=>cbv
 rcases aj:As b with⟨an,⟨af,ag,ah,ai⟩,ac,ad,ae,am⟩
 generalize aa:ac.map cS=ak
 generalize ab:ad.map cI=al
 refine .dd hP (Md (by omega) aj aa ab) ?_
 conv=>cbv
 have e:ae=H7 b:=(by unfold H7;rw[aj])
 rw[hr]at e
 subst e
 exact hQ _ _ (.i rfl rfl)
end
section
open Go Go.Proofs
set_option maxRecDepth 20000
set_option maxHeartbeats 4000000
def Xfk:List (Nat×TyRow):=[ty3,ty9,Xf0,XmD,XlS,XmS]
theorem XdX:Cb Tryz.prog Xfk:=Cb.of (by kernel_rfl)
theorem Jv:Setup Tryz.prog Xfk:=⟨XdX,mixed⟩
def Xdm(s:Nat)(offs:List Int)(n:Nat):List Hr:=((List.range n).filter (fun i=>i% s=0)).map (fun(i:Nat)=>⟨(i:Int),offs.getD i 0⟩)
def Cv(stride:Int)(offs:List Int):List Hr:=if stride<1 then[]else Xdm stride.toNat offs offs.length
theorem Se{s n:Nat}{offs:List Int}:Xdm s offs (n+1)=Xdm s offs n++(if n% s=0 then[⟨(n:Int),offs.getD n 0⟩]else[]):=by
 unfold Xdm
 rw[List.range_succ,List.filter_append,List.map_append]
 congr 1
 by_cases h:n% s=0<;>simp[h]
theorem Zg{s n:Nat}{offs:List Int}:(Xdm s offs n).length≤n:=by
 unfold Xdm
 rw[List.length_map]
 exact Nat.le_trans (List.length_filter_le _ _) (by simp)
theorem Zy{s k:Nat}{offs:List Int}(hk:k% s=0):∀(d:Nat),d<s→Xdm s offs (k+1+d)=Xdm s offs k++[⟨(k:Int),offs.getD k 0⟩]
 |0,_=>by rw[Nat.add_zero,Se,if_pos hk]
 |d+1,h=>by
  rw[←Nat.add_assoc,Se,Zy hk d (by omega),if_neg,List.append_nil]
  have:k+1+d=k+(d+1):=by omega
  rw[this,Nat.add_mod,hk,Nat.zero_add,Nat.mod_mod,Nat.mod_eq_of_lt h]
  omega
theorem Sn{l:List Int}{k:Nat}(h:k<l.length):l[k]=l.getD k 0:=by rw[List.getD_eq_getElem?_getD,List.getElem?_eq_getElem h];rfl
def G3(a b:Int):ByteArray:=if b≤a∧a - b≤1000000000 then Cw (a - b)else tx []
theorem Uk{a b:Int}{o:ByteArray}(h:G3 a b=o):o.size≤5:=by
 rw[←h]
 unfold G3
 split
 ·exact Jd _
 ·simp[Bh]
def Im(a b:Int):Int:=if b≤a∧a - b<9223372036854775808 then a - b else -1
theorem X2(a b:Int):Cw (Im a b)=G3 a b:=by
 unfold Im G3
 by_cases h:b≤a∧a - b≤1000000000
 ·rw[if_pos h,if_pos (by omega)]
 ·rw[if_neg h]
  unfold Cw
  split
  ·rw[if_neg (by omega)]
  ·rfl
def Is:Int×Int→List Hr→Option ByteArray
 |_,[]=>some (tx [])
 |q,p::l=>if G3 p.count_ q.1=tx []∨G3 p.at_ q.2=tx []then none else(Is (p.count_,p.at_) l).map fun t=>(G3 p.count_ q.1++G3 p.at_ q.2)++t
def Cf(l:List Hr):ByteArray:=match Is (0,0) l with
 |some t=>Cw l.length++t
 |none=>tx []
theorem U8:∀{l:List Hr} {q:Int×Int} {t:ByteArray},Is q l=some t→t.size≤10*l.length
 |[],q,t,h=>by cases h;simp[Bh]
 |p::l,q,t,h=>by
  simp only[Is]at h
  split at h
  ·cases h
  ·obtain⟨u,hu,rfl⟩:=Option.map_eq_some_iff.1 h
   have:=U8 hu
   have h1:=Uk (rfl:G3 p.count_ q.1=_)
   have h2:=Uk (rfl:G3 p.at_ q.2=_)
   rw[ByteArray.size_append,ByteArray.size_append,List.length_cons]
   omega
theorem P4(l:List Hr):(Cf l).size≤5+10*l.length:=by
 unfold Cf
 split
 ·rename_i t h
  have h1:=U8 h
  have h2:=Jd l.length
  rw[ByteArray.size_append]
  omega
 ·simp[Bh]
theorem Q9{l:List Hr}{o:ByteArray}(h:Cf l=o):o.size≤5+10*l.length:=by rw[←h];exact P4 l
theorem Xh9(s:ByteArray):tx []++s=s:=by rw[←Qy s,Dt];rfl
theorem Y5(s:ByteArray):s++tx []=s:=by rw[←Qy s,Dt,List.append_nil]
theorem Xd4{n w:Int}(h:Av n w≠tx []):(Av n w).size=w.toNat:=by
 by_cases hh:0≤n∧1≤w∧w≤8∧n.toNat/2^ (8*w.toNat)=0
 ·exact Sj hh
 ·exact absurd (if_neg hh) h
def wfPl(l:List Hr):Prop:=∀p∈l,wfI p.count_∧wfI p.at_
def Jq(acc:ByteArray):List Int→Option ByteArray
 |[]=>some acc
 |x::l=>if Av x 4=tx []then none else Jq (acc++Av x 4) l
def Bu(a b c d:Int):ByteArray:=match Jq (tx []) [a,b,c,d]with
 |some t=>t++tx [73,68,88,33]
 |none=>tx []
theorem Vm:∀{l:List Int} {acc t:ByteArray},Jq acc l=some t→t.size≤acc.size+8*l.length
 |[],acc,t,h=>by cases h;simp
 |x::l,acc,t,h=>by
  simp only[Jq]at h
  split at h
  ·cases h
  ·have:=Vm h
   have h1:=@Fm x 4
   rw[ByteArray.size_append]at this
   rw[List.length_cons]
   omega
theorem Hs{a b c d:Int}{o:ByteArray}(h:Bu a b c d=o):o.size≤36:=by
 rw[←h]
 unfold Bu
 split
 ·rename_i t ht
  have:=Vm ht
  simp only[Bh,List.length_cons,List.length_nil]at this
  rw[ByteArray.size_append,Bh]
  simp only[List.length_cons,List.length_nil]
  omega
 ·simp[Bh]
theorem XcA:∀{l:List Int} {acc t:ByteArray},Jq acc l=some t→t.size=acc.size+4*l.length
 |[],acc,t,h=>by cases h;simp
 |x::l,acc,t,h=>by
  simp only[Jq]at h
  split at h
  ·cases h
  ·rename_i hx
   have:=XcA h
   have h1:=Xd4 hx
   rw[ByteArray.size_append,h1]at this
   rw[List.length_cons,this]
   simp
   omega
theorem Oa{a b c d:Int}(h:Bu a b c d≠tx []):(Bu a b c d).size=20:=by
 unfold Bu at h⊢
 split
 ·rename_i t ht
  have:=XcA ht
  simp only[Bh,List.length_cons,List.length_nil]at this
  rw[ByteArray.size_append,Bh,this]
  rfl
 ·rename_i ht
  rw[ht]at h
  exact absurd rfl h
def Cj(h:Bp)(offs:List Int)(fin:Int):ByteArray:=
 if Df h=true∧Cx h.version_ (h.base_+offs.length)≠tx []∧Cf (Cv h.stride_ offs)≠tx []∧Bu fin offs.length h.stride_ 0≠tx []then
  (Cx h.version_ (h.base_+offs.length)++Cf (Cv h.stride_ offs))++Bu fin offs.length h.stride_ (Ge ((Cx h.version_ (h.base_+offs.length)++Cf (Cv h.stride_ offs))++(Bu fin offs.length h.stride_ 0).extract 0 12))else tx []
theorem Kd{s:Int}{offs:List Int}:(Cv s offs).length≤offs.length:=by
 unfold Cv
 split
 ·simp
 ·exact Zg
theorem To{s:Int}{offs:List Int}(h:∀x∈offs,wfI x)(hl:offs.length<2^40):wfPl (Cv s offs):=by
 unfold Cv
 split
 ·intro p hp;simp at hp
 ·intro p hp
  unfold Xdm at hp
  obtain⟨i,hi,rfl⟩:=List.mem_map.1 hp
  have aa:=List.mem_range.1 (List.mem_filter.1 hi).1
  refine⟨⟨by show -9223372036854775808≤(i:Int);omega,by show(i:Int)<9223372036854775808;omega⟩,?_⟩
  show wfI (offs.getD i 0)
  rw[←Sn aa]
  exact h _ (List.getElem_mem aa)
theorem T3(h:Bp)(offs:List Int)(fin:Int):(Cj h offs fin).size≤57+10*offs.length:=by
 unfold Cj
 split
 ·rw[ByteArray.size_append,ByteArray.size_append]
  have h1:=Mj (rfl:Cx h.version_ (h.base_+offs.length)=_)
  have h2:=P4 (Cv h.stride_ offs)
  have h3:=@Kd h.stride_ offs
  have h4:=Hs (rfl:Bu fin offs.length h.stride_ (Ge ((Cx h.version_ (h.base_+offs.length)++Cf (Cv h.stride_ offs))++(Bu fin offs.length h.stride_ 0).extract 0 12))=_)
  omega
 ·simp[Bh]
variable {stride mark count sum a b:Int} {offs:List Int} {xoffs xo:List (List D)} {o:ByteArray}
theorem Xgt{o:List Hr}(hoffs:offs.map cI=xoffs)(hl:offs.length<2^40)(hr:Cv stride offs=o)(ho:o.map T7=xo):Fn Tryz.prog 287 [I stride,.d (.row 1 xoffs)] [] ⟨.d (.row 2 xo),[],[]⟩:=by
 refine Fn.go Jv Tryz.func287 fun P hP Q hQ=>?_
 conv=>cbv
 refine LoopW.lp (κ:=Int×(List (List D))×Nat) Jv hP [1] [0,1] (fun(i6,aa,ab)=>[(5,.ref 2 0 ab),(6,I i6)]) (fun(i6,aa,ab)=>[(2,.row 2 false aa)])
  (fun(i6,aa,ab)=>∃(w2:List Hr),w2.map T7=aa∧ab=w2.length∧∃k:Nat,i6=(k:Int)∧k≤offs.length∧(1≤stride∨k=0)∧w2=Xdm stride.toNat offs k)
  (fun(i6,aa,ab)=>(offs.length - i6).toNat) (0,[],0) ⟨[],rfl,rfl,0,rfl,by omega,by omega,by simp[Xdm]⟩ ⟨rfl,rfl,trivial⟩ rfl ?_
 rintro⟨i6,aa,ab⟩ J ⟨w2,ac,ah,k,hi,hk,hs,hw⟩ hJ
 have hwl:w2.length≤k:=by rw[hw];exact Zg
 conv=>cbv
 refine .go hoffs fun v1 ak=>?_
 conv=>cbv
 refine .lss (fun h2=>?_) fun h2=>?_
 conv=>cbv
 refine .geq (fun h3=>?_) fun h3=>?_
 conv=>cbv
 refine .rem fun v4 ad=>?_
 conv=>cbv
 refine .eql (fun h5=>?_) fun h5=>?_
 conv=>cbv
 refine .go i6.toNat hoffs fun ai e6 ae=>?_
 conv=>cbv
 have em0:((k% stride.toNat:Nat):Int)=0:=by rw[Int.natCast_emod,Int.toNat_of_nonneg (by omega),←hi,←ad];exact h5
 have em:k% stride.toNat=0:=by omega
 have e1:(⟨i6,e6⟩:Hr)=⟨(k:Int),offs.getD k 0⟩:=by rw[ae,Sn];simp only[hi,Int.toNat_natCast]
 refine .one (⟨i6,e6⟩:Hr) ac rfl fun af z7 aj ag=>?_
 conv=>cbv
 refine .add fun v8 al=>?_
 conv=>cbv
 exact .go [4] (v8,z7,af) (hJ _ ⟨_,ag,Gw,k+1,by omega,by omega,by omega,by rw[Se,if_pos em,hw,e1]⟩ mlt)
 conv=>cbv
 have em:¬k% stride.toNat=0:=by intro e;refine h5 ?_;rw[ad,hi,show stride=((stride.toNat:Nat):Int)by omega,←Int.natCast_emod,e];rfl
 refine .add fun v6 am=>?_
 conv=>cbv
 exact .go [2] (v6,aa,ab) (hJ _ ⟨_,ac,Gw,k+1,by omega,by omega,by omega,by rw[Se,if_neg em,hw];simp⟩ mlt)
 conv=>cbv
 have e:w2=Cv stride offs:=(by rw[hw,show k=0 by omega];unfold Cv;rw[if_pos (by omega)];rfl)
 rw[hr]at e
 subst e
 exact hQ _ _ (.r rfl rfl (by rw[←ac,List.length_map];first|omega|(simp;omega)) (by rw[←ac,←ho]))
 conv=>cbv
 have e:w2=Cv stride offs:=(by rw[hw];unfold Cv;split;rw[show k=0 by omega];rfl;rw[show k=offs.length by omega])
 rw[hr]at e
 subst e
 exact hQ _ _ (.r rfl rfl (by rw[←ac,List.length_map];first|omega|(simp;omega)) (by rw[←ac,←ho]))
theorem XgA{o:List Hr}(hoffs:offs.map cI=xoffs)(hl:offs.length<2^40)(hr:Cv stride offs=o)(ho:o.map T7=xo):Fn Tryz.prog 292 [I stride,.d (.row 1 xoffs)] [] ⟨.d (.row 2 xo),[],[]⟩:=by
 refine Fn.go Jv Tryz.func292 fun P hP Q hQ=>?_
 conv=>cbv
 refine .lss (fun h1=>?_) fun h1=>?_
 conv=>cbv
 have e:[]=Cv stride offs:=(by unfold Cv;rw[if_pos (by omega)])
 rw[hr]at e
 subst e
 exact hQ _ _ (.r rfl rfl rfl (by rw[←ho];rfl))
 conv=>cbv
 refine LoopW.lp (κ:=Int×(List (List D))×Nat) Jv hP [1] [0,1] (fun(i6,aa,ab)=>[(5,.ref 2 0 ab),(6,I i6)]) (fun(i6,aa,ab)=>[(2,.row 2 false aa)])
  (fun(i6,aa,ab)=>∃(w2:List Hr),w2.map T7=aa∧ab=w2.length∧∃k:Nat,i6=(k:Int)∧k≤offs.length∧k% stride.toNat=0∧w2=Xdm stride.toNat offs k)
  (fun(i6,aa,ab)=>(offs.length - i6).toNat) (0,[],0) ⟨[],rfl,rfl,0,rfl,by omega,by simp,by simp[Xdm]⟩ ⟨rfl,rfl,trivial⟩ rfl ?_
 rintro⟨i6,aa,ab⟩ J ⟨w2,ac,ag,k,hi,hk,hs,hw⟩ hJ
 have hwl:w2.length≤k:=by rw[hw];exact Zg
 conv=>cbv
 refine .go hoffs fun v2 aj=>?_
 conv=>cbv
 refine .lss (fun h3=>?_) fun h3=>?_
 conv=>cbv
 refine .go i6.toNat hoffs fun ah e4 ae=>?_
 conv=>cbv
 have e1:(⟨i6,e4⟩:Hr)=⟨(k:Int),offs.getD k 0⟩:=by rw[ae,Sn];simp only[hi,Int.toNat_natCast]
 refine .one (⟨i6,e4⟩:Hr) ac rfl fun af z5 ai ad=>?_
 conv=>cbv
 refine .go hoffs fun v6 ak=>?_
 conv=>cbv
 refine .sub fun v7 al=>?_
 conv=>cbv
 refine .gtr (fun h8=>?_) fun h8=>?_
 conv=>cbv
 have e:(w2++[(⟨i6,e4⟩:Hr)])=Cv stride offs:=(by unfold Cv;rw[if_neg (by omega),show offs.length=k+1+(offs.length - 1 - k)by omega,Zy hs _ (by omega),hw,e1])
 rw[hr]at e
 subst e
 exact hQ _ _ (.r rfl rfl (by rw[←ad,List.length_map];first|omega|(simp;omega)) (by rw[←ad,←ho]))
 conv=>cbv
 refine .add fun v9 am=>?_
 conv=>cbv
 exact .go [4] (v9,z5,af) (hJ _ ⟨_,ad,Gw,k+stride.toNat,by omega,by omega,by rw[Nat.add_mod_right];exact hs,by rw[show k+stride.toNat=k+1+(stride.toNat - 1)by omega,Zy hs _ (by omega),hw,e1]⟩ mlt)
 conv=>cbv
 have e:w2=Cv stride offs:=(by unfold Cv;rw[if_neg (by omega),hw,show k=offs.length by omega])
 rw[hr]at e
 subst e
 exact hQ _ _ (.r rfl rfl (by rw[←ac,List.length_map];first|omega|(simp;omega)) (by rw[←ac,←ho]))
theorem Rg(k1:mark<9223372036854775808)(k2:count<9223372036854775808)(k3:stride<9223372036854775808)(k4:sum<9223372036854775808)(hr:Bu mark count stride sum=o):Fn Tryz.prog 293 [I mark,I count,I stride,I sum] [] ⟨S o,[],[]⟩:=by
 refine Fn.go Jv Tryz.func293 fun P hP Q hQ=>?_
 conv=>cbv
 refine .go fun v1 ah=>?_
 conv=>cbv
 refine LoopW.lp (κ:=ByteArray×Int) Jv hP [] [17,18] (fun(s9,aa)=>[(9,S s9),(19,I aa)]) (fun(s9,aa)=>[])
  (fun(s9,aa)=>∃k:Nat,aa=(k:Int)∧k≤4∧s9.size≤8*k∧Jq (tx []) [mark,count,stride,sum]=Jq s9 ([mark,count,stride,sum].drop k))
  (fun(s9,aa)=>(4 - aa).toNat) (tx [],0) ⟨0,rfl,by omega,by simp[Bh],rfl⟩ ⟨rfl,rfl,trivial⟩ rfl ?_
 rintro⟨s9,aa⟩ J ⟨k,hi,hk,hz,hf⟩ hJ
 conv=>cbv
 refine .lss (fun h2=>?_) fun h2=>?_
 conv=>cbv
 refine .go aa.toNat fun p3 ai af=>?_
 conv=>cbv
 refine .go (l:=[mark,count,stride,sum]) (c:=cI) rfl fun ag e4 ac=>?_
 conv=>cbv
 have eE:[mark,count,stride,sum][k]'(by simp;omega)=e4:=by rw[ac];congr 1;omega
 have hE:e4<9223372036854775808:=by
  rw[←eE]
  have aj:k<4:=by omega
  rcases k with _|_|_|_|k
  ·exact k1
  ·exact k2
  ·exact k3
  ·exact k4
  ·omega
 generalize ab:Av e4 4=r5
 have zr5:=Cm ab
 refine .dd hP (Fs (by omega) ab) ?_
 conv=>cbv
 refine .eql (fun h6=>?_) fun h6=>?_
 conv=>cbv
 have e:(tx [])=Bu mark count stride sum:=(by unfold Bu;rw[hf,List.drop_eq_getElem_cons (by simp;omega)];simp only[Jq];rw[eE,if_pos (by rw[ab];exact h6)])
 rw[hr]at e
 subst e
 exact hQ _ _ (.s rfl rfl)
 conv=>cbv
 refine .go fun s7 ad ak=>?_
 conv=>cbv
 refine .add fun v8 al=>?_
 conv=>cbv
 exact .go [] (s7,v8) (hJ _ ⟨k+1,by omega,by omega,by omega,by rw[hf,List.drop_eq_getElem_cons (by simp;omega)];simp only[Jq];rw[eE,if_neg];rw[ad];rw[ab];exact fun e=>h6 (ab.symm.trans e)⟩ mlt)
 conv=>cbv
 refine .litR 4 fun s3 ae am=>?_
 conv=>cbv
 have e:s3=Bu mark count stride sum:=(by unfold Bu;rw[hf,List.drop_of_length_le (by simp;omega)];simp only[Jq];exact ae)
 rw[hr]at e
 subst e
 exact hQ _ _ (.s rfl rfl)
theorem Sh(k1:mark<9223372036854775808)(k2:count<9223372036854775808)(k3:stride<9223372036854775808)(k4:sum<9223372036854775808)(hr:Bu mark count stride sum=o):Fn Tryz.prog 288 [I mark,I count,I stride,I sum] [] ⟨S o,[],[]⟩:=by
 refine Fn.go Jv Tryz.func288 fun P hP Q hQ=>?_
 conv=>cbv
 refine LoopW.lp (κ:=ByteArray×Int) Jv hP [] [10] (fun(s9,aa)=>[(9,S s9),(11,I aa)]) (fun(s9,aa)=>[])
  (fun(s9,aa)=>∃k:Nat,aa=(k:Int)∧k≤4∧s9.size≤8*k∧Jq (tx []) [mark,count,stride,sum]=Jq s9 ([mark,count,stride,sum].drop k))
  (fun(s9,aa)=>(4 - aa).toNat) (tx [],0) ⟨0,rfl,by omega,by simp[Bh],rfl⟩ ⟨rfl,rfl,trivial⟩ rfl ?_
 rintro⟨s9,aa⟩ J ⟨k,hi,hk,hz,hf⟩ hJ
 conv=>cbv
 refine .lss (fun h1=>?_) fun h1=>?_
 conv=>cbv
 refine .go aa.toNat fun p2 ah af=>?_
 conv=>cbv
 refine .go (l:=[mark,count,stride,sum]) (c:=cI) rfl fun ag e3 ac=>?_
 conv=>cbv
 have eE:[mark,count,stride,sum][k]'(by simp;omega)=e3:=by rw[ac];congr 1;omega
 have hE:e3<9223372036854775808:=by
  rw[←eE]
  have ai:k<4:=by omega
  rcases k with _|_|_|_|k
  ·exact k1
  ·exact k2
  ·exact k3
  ·exact k4
  ·omega
 generalize ab:Av e3 4=r4
 have zr4:=Cm ab
 refine .dd hP (Fe (by omega) ab) ?_
 conv=>cbv
 refine .eql (fun h5=>?_) fun h5=>?_
 conv=>cbv
 have e:(tx [])=Bu mark count stride sum:=(by unfold Bu;rw[hf,List.drop_eq_getElem_cons (by simp;omega)];simp only[Jq];rw[eE,if_pos (by rw[ab];exact h5)])
 rw[hr]at e
 subst e
 exact hQ _ _ (.s rfl rfl)
 conv=>cbv
 refine .go fun s6 ad aj=>?_
 conv=>cbv
 refine .add fun v7 ak=>?_
 conv=>cbv
 exact .go [] (s6,v7) (hJ _ ⟨k+1,by omega,by omega,by omega,by rw[hf,List.drop_eq_getElem_cons (by simp;omega)];simp only[Jq];rw[eE,if_neg];rw[ad];rw[ab];exact fun e=>h5 (ab.symm.trans e)⟩ mlt)
 conv=>cbv
 refine .litR 4 fun s2 ae al=>?_
 conv=>cbv
 have e:s2=Bu mark count stride sum:=(by unfold Bu;rw[hf,List.drop_of_length_le (by simp;omega)];simp only[Jq];exact ae)
 rw[hr]at e
 subst e
 exact hQ _ _ (.s rfl rfl)
theorem Xcy{o:Int}(ha:wfI a)(hb:wfI b)(hr:Im a b=o):Fn Tryz.prog 325 [I a,I b] [] ⟨I o,[],[]⟩:=by
 refine Fn.go Jv Tryz.func325 fun P hP Q hQ=>?_
 conv=>cbv
 refine .subW fun v1 aa=>?_
 conv=>cbv
 refine .lss (fun h2=>?_) fun h2=>?_
 conv=>cbv
 have e:(-1)=Im a b:=(by unfold Im;rw[Mg]at aa;obtain⟨ab,ac⟩:=ha;obtain⟨ad,hb2⟩:=hb;rw[if_neg (by omega)])
 rw[hr]at e
 subst e
 exact hQ _ _ (.i rfl rfl)
 conv=>cbv
 refine .lss (fun h3=>?_) fun h3=>?_
 conv=>cbv
 have e:(-1)=Im a b:=(by unfold Im;rw[Mg]at aa;obtain⟨ab,ac⟩:=ha;obtain⟨ad,hb2⟩:=hb;rw[if_neg (by omega)])
 rw[hr]at e
 subst e
 exact hQ _ _ (.i rfl rfl)
 conv=>cbv
 have e:v1=Im a b:=(by unfold Im;rw[Mg]at aa;obtain⟨ab,ac⟩:=ha;obtain⟨ad,hb2⟩:=hb;rw[if_pos (by omega)];omega)
 rw[hr]at e
 subst e
 exact hQ _ _ (.i rfl rfl)
theorem Xh6(ha:wfI a)(hb:wfI b)(hr:G3 a b=o):Fn Tryz.prog 327 [I a,I b] [] ⟨S o,[],[]⟩:=by
 refine Fn.go Jv Tryz.func327 fun P hP Q hQ=>?_
 conv=>cbv
 refine .lss (fun h1=>?_) fun h1=>?_
 conv=>cbv
 have e:(tx [])=G3 a b:=(by unfold G3;rw[if_neg (by omega)])
 rw[hr]at e
 subst e
 exact hQ _ _ (.s rfl rfl)
 conv=>cbv
 refine .go fun v2 ab=>?_
 conv=>cbv
 refine .go fun v3 ac=>?_
 conv=>cbv
 refine .subW fun v4 ad=>?_
 conv=>cbv
 have e4:v4=a - b:=by rw[ad,ab,ac,He,He,He];obtain⟨af,ag⟩:=ha;obtain⟨ah,hb2⟩:=hb;omega
 refine .gtr (fun h5=>?_) fun h5=>?_
 conv=>cbv
 have e:(tx [])=G3 a b:=(by unfold G3;rw[if_neg (by omega)])
 rw[hr]at e
 subst e
 exact hQ _ _ (.s rfl rfl)
 conv=>cbv
 refine .sub fun v6 ae=>?_
 conv=>cbv
 generalize aa:Cw v6=r7
 have zr7:=H6 aa
 refine .dd hP (U2 aa) ?_
 conv=>cbv
 have e:r7=G3 a b:=(by unfold G3;rw[if_pos (by omega),←aa,ae])
 rw[hr]at e
 subst e
 exact hQ _ _ (.s rfl rfl)
theorem Xbl{l:List Hr}{xl:List (List D)}(hl:l.map T7=xl)(hn:l.length<2^40)(hw:wfPl l)(hr:Cf l=o):Fn Tryz.prog 286 [.d (.row 2 xl)] [] ⟨S o,[],[]⟩:=by
 refine Fn.go Jv Tryz.func286 fun P hP Q hQ=>?_
 conv=>cbv
 refine .go hl fun v1 ao=>?_
 conv=>cbv
 generalize ae:Cw v1=r2
 have zr2:=H6 ae
 refine .dd hP (Ok ae) ?_
 conv=>cbv
 refine LoopW.lp (κ:=ByteArray×Int×Int×Int) Jv hP [] [0,4] (fun(s3,i5,ab,ac)=>[(3,S s3),(5,I i5)]) (fun(s3,i5,ab,ac)=>[(0,.box 253 [I ab,I ac])])
  (fun(s3,i5,ab,ac)=>∃(k:Nat) (pr:ByteArray),i5=(k:Int)∧k≤l.length∧s3=Cw l.length++pr∧pr.size≤10*k∧wfI ab∧wfI ac∧Is (0,0) l=(Is (ab,ac) (l.drop k)).map fun t=>pr++t)
  (fun(s3,i5,ab,ac)=>(l.length - i5).toNat) (r2,0,0,0) ⟨0,tx [],rfl,by omega,by rw[←ae,ao,Y5],by simp[Bh],by constructor<;>omega,by constructor<;>omega,by simp[Xh9]⟩ ⟨rfl,rfl,trivial⟩ rfl ?_
 rintro⟨s3,i5,ab,ac⟩ J ⟨k,pr,hi,hk,hs,hz,hwa,hwb,hp⟩ hJ
 have ay:s3.size≤5+10*k:=by rw[hs,ByteArray.size_append];have:=Jd l.length;omega
 conv=>cbv
 refine .go hl fun v3 az=>?_
 conv=>cbv
 refine .lss (fun h4=>?_) fun h4=>?_
 conv=>cbv
 refine .go i5.toNat hl fun ar ⟨aa,ad⟩ ah=>?_
 conv=>cbv
 have hkl:k<l.length:=by omega
 have hd:l.drop k=⟨aa,ad⟩::l.drop (k+1):=by rw[List.drop_eq_getElem_cons hkl,ah];congr 2;omega
 obtain⟨ai,aj⟩:=hw ⟨aa,ad⟩ (by rw[ah];exact List.getElem_mem _)
 simp only[]at ai aj
 generalize ak:Im aa ab=r6
 refine .dd hP (Xcy (by assumption) (by assumption) ak) ?_
 conv=>cbv
 generalize af:Cw r6=r7
 have zr7:=H6 af
 refine .dd hP (Ok af) ?_
 conv=>cbv
 generalize al:Im ad ac=r8
 refine .dd hP (Xcy (by assumption) (by assumption) al) ?_
 conv=>cbv
 generalize ag:Cw r8=r9
 have zr9:=H6 ag
 refine .dd hP (Ok ag) ?_
 conv=>cbv
 have ea:G3 aa ab=r7:=by rw[←af,←ak,X2]
 have eb:G3 ad ac=r9:=by rw[←ag,←al,X2]
 refine .eql (fun h10=>?_) fun h10=>?_
 conv=>cbv
 have e:(tx [])=Cf l:=(by unfold Cf;rw[hp,hd];simp only[Is];rw[ea,eb,if_pos (.inl h10)];rfl)
 rw[hr]at e
 subst e
 exact hQ _ _ (.s rfl rfl)
 conv=>cbv
 refine .eql (fun h11=>?_) fun h11=>?_
 conv=>cbv
 have e:(tx [])=Cf l:=(by unfold Cf;rw[hp,hd];simp only[Is];rw[ea,eb,if_pos (.inr h11)];rfl)
 rw[hr]at e
 subst e
 exact hQ _ _ (.s rfl rfl)
 conv=>cbv
 refine .go fun a1 am au=>?_
 conv=>cbv
 refine .go fun ap an aw=>?_
 conv=>cbv
 refine .add fun aq ax=>?_
 conv=>cbv
 exact .go [] (ap,aq,aa,ad) (hJ _ ⟨k+1,pr++(r7++r9),by omega,by omega,by rw[an,am,hs];simp only[ByteArray.append_assoc],by rw[ByteArray.size_append,ByteArray.size_append];omega,ai,aj,by rw[hp,hd];simp only[Is];rw[ea,eb,if_neg (by intro h;rcases h with h|h;exact h10 h;exact h11 h),Option.map_map];congr 1;funext t;simp only[Function.comp,ByteArray.append_assoc]⟩ mlt)
 conv=>cbv
 have e:s3=Cf l:=(by unfold Cf;rw[hp,List.drop_of_length_le (by omega),hs];simp[Is,Y5])
 rw[hr]at e
 subst e
 exact hQ _ _ (.s rfl rfl)
end
section
open Go Go.Proofs
set_option maxRecDepth 20000
set_option maxHeartbeats 4000000
def XcR:List (Nat×TyRow):=[ty3,ty9,XlT,XlS,XmS]
theorem Xb0:Cb Tryz.prog XcR:=Cb.of (by kernel_rfl)
theorem Xfo:Setup Tryz.prog XcR:=⟨Xb0,mixed⟩
theorem XcT{l:List Hr}{xl:List (List D)}{o:ByteArray}(hl:l.map T7=xl)(hn:l.length≤1000000000)(hw:wfPl l)(hr:Cf l=o):Fn Tryz.prog 291 [.d (.row 2 xl)] [] ⟨S o,[],[]⟩:=by
 refine Fn.go Xfo Tryz.func291 fun P hP Q hQ=>?_
 conv=>cbv
 refine .go hl fun v1 az=>?_
 conv=>cbv
 generalize al:Cw v1=r2
 have zr2:=H6 al
 refine .dd hP (U2 al) ?_
 conv=>cbv
 obtain⟨nb3,hnb3⟩:∃m,([]:List UInt8).length+r2.size=m:=⟨_,rfl⟩
 obtain⟨b3,am⟩:∃m,[]++r2.data.toList=m:=⟨_,rfl⟩
 obtain⟨kb3,aq⟩:∃m,(r2.size:Int)=m:=⟨_,rfl⟩
 have lb3:nb3=b3.length:=by rw[←am,List.length_append,Array.length_toList];exact hnb3.symm
 refine .bx [2,0] [0] hP (XeN rfl (by first|omega|(simp;omega)) hnb3 am aq) rfl rfl rfl rfl ?_
 conv=>cbv
 refine .go hl fun v4 a8=>?_
 conv=>cbv
 refine LoopW.lp (κ:=Int×Int×Int×(List UInt8)×Nat) Xfo hP [3] [3,4,15,16] (fun(ac,ad,ae,aa,ag)=>[(17,I ac)]) (fun(ac,ad,ae,aa,ag)=>[(2,.box 219 [.ptr 2 0 0,.ref 5 0 ag]),(4,.box 253 [I ad,I ae]),(5,.buf 5 false aa)])
  (fun(ac,ad,ae,aa,ag)=>ag=aa.length∧∃(k:Nat) (pr:ByteArray),ac=(k:Int)∧k≤l.length∧aa=(Cw l.length++pr).data.toList∧pr.size≤10*k∧wfI ad∧wfI ae∧Is (0,0) l=(Is (ad,ae) (l.drop k)).map fun t=>pr++t)
  (fun(ac,ad,ae,aa,ag)=>(l.length - ac).toNat) (0,0,0,b3,nb3) ⟨lb3,0,tx [],rfl,by omega,by rw[←am,Y5,←az,al];rfl,by simp[Bh],by constructor<;>omega,by constructor<;>omega,by simp[Xh9]⟩ ⟨rfl,trivial⟩ rfl ?_
 rintro⟨ac,ad,ae,aa,ag⟩ J ⟨ak,k,pr,hi,hk,hs,hz,hwa,hwb,hp⟩ hJ
 have z1:1≤(Cw l.length).size:=by unfold Cw;rw[if_pos (by omega),Bh];exact List.length_pos_iff.2 (Wh _)
 have zv:=Jd l.length
 have zl:aa.length=(Cw l.length).size+pr.size:=by rw[hs,Array.length_toList];exact ByteArray.size_append
 conv=>cbv
 refine .lss (fun h5=>?_) fun h5=>?_
 conv=>cbv
 refine .go ac.toNat hl fun a2 ⟨ab,af⟩ ar=>?_
 conv=>cbv
 have hkl:k<l.length:=by omega
 have hd:l.drop k=⟨ab,af⟩::l.drop (k+1):=by rw[List.drop_eq_getElem_cons hkl,ar];congr 2;omega
 obtain⟨au,aw⟩:=hw ⟨ab,af⟩ (by rw[ar];exact List.getElem_mem _)
 simp only[]at au aw
 generalize ah:G3 ab ad=r7
 have zr7:=Uk ah
 refine .dd hP (Xh6 (by assumption) (by assumption) ah) ?_
 conv=>cbv
 generalize ai:G3 af ae=r8
 have zr8:=Uk ai
 refine .dd hP (Xh6 (by assumption) (by assumption) ai) ?_
 conv=>cbv
 refine .eql (fun h9=>?_) fun h9=>?_
 conv=>cbv
 have e:(tx [])=Cf l:=(by unfold Cf;rw[hp,hd];simp only[Is];rw[ah,ai,if_pos (.inl h9)];rfl)
 rw[hr]at e
 subst e
 exact hQ _ _ (.s rfl rfl)
 conv=>cbv
 refine .eql (fun h10=>?_) fun h10=>?_
 conv=>cbv
 have e:(tx [])=Cf l:=(by unfold Cf;rw[hp,hd];simp only[Is];rw[ah,ai,if_pos (.inr h10)];rfl)
 rw[hr]at e
 subst e
 exact hQ _ _ (.s rfl rfl)
 conv=>cbv
 refine .go fun an ax a6=>?_
 conv=>cbv
 obtain⟨nb12,hnb12⟩:∃m,(aa:List UInt8).length+an.size=m:=⟨_,rfl⟩
 obtain⟨ay,aj⟩:∃m,aa++an.data.toList=m:=⟨_,rfl⟩
 obtain⟨kb12,ao⟩:∃m,(an.size:Int)=m:=⟨_,rfl⟩
 have lb12:nb12=ay.length:=by rw[←aj,List.length_append,Array.length_toList];exact hnb12.symm
 refine .bx [2,5] [5] hP (XeV ak (by first|omega|(simp;omega)) hnb12 aj ao) rfl rfl rfl rfl ?_
 conv=>cbv
 refine .add fun a1 a7=>?_
 conv=>cbv
 exact .go [7] (a1,ab,af,ay,nb12) (hJ _ ⟨Gw,k+1,pr++(r7++r8),by omega,by omega,by rw[←aj,hs,ax];simp[ByteArray.data_append,List.append_assoc],by rw[ByteArray.size_append,ByteArray.size_append];omega,au,aw,by rw[hp,hd];simp only[Is];rw[ah,ai,if_neg (by intro h;rcases h with h|h;exact h9 h;exact h10 h),Option.map_map];congr 1;funext t;simp only[Function.comp,ByteArray.append_assoc]⟩ mlt)
 conv=>cbv
 obtain⟨b6,ap⟩:∃m,tx aa=m:=⟨_,rfl⟩
 have zb6:b6.size=aa.length:=by rw[←ap,Bh]
 refine .bx [2,5] [5] hP (Xe4 (x:=.ptr 0 0 0) ak (by intro e;rw[e]at zl;simp at zl;omega) (by first|omega|(simp;omega)) ap) rfl rfl rfl rfl ?_
 conv=>cbv
 have e:b6=Cf l:=(by unfold Cf;rw[hp,List.drop_of_length_le (by omega)];simp only[Is,Option.map_some,Y5];rw[←ap,hs,Qy])
 rw[hr]at e
 subst e
 exact hQ _ _ (.s rfl rfl)
end
section
open Go Go.Proofs
set_option maxRecDepth 20000
set_option maxHeartbeats 4000000
def Xdf:List (Nat×TyRow):=[ty3,ty9,Xf0,Xab,XlS]
theorem XcL:Cb Tryz.prog Xdf:=Cb.of (by kernel_rfl)
theorem XfC:Setup Tryz.prog Xdf:=⟨XcL,mixed⟩
theorem Wx{h:Bp}{offs:List Int}{fin:Int}{o:ByteArray}(e:Cj h offs fin=o):o.size≤57+10*offs.length:=by rw[←e];exact T3 _ _ _
variable {hver hstr hbas hlin fin:Int} {offs:List Int} {xoffs:List (List D)} {o:ByteArray}
theorem XgR(hoffs:offs.map cI=xoffs)(hl:offs.length≤1000000000)(hwo:∀x∈offs,wfI x)(hf:fin<9223372036854775808)(hr:Cj (⟨hver,hstr,hbas,hlin⟩:Bp) offs fin=o):Fn Tryz.prog 234 [.agg [I hver,I hstr,I hbas,I hlin],.d (.row 1 xoffs),I fin] [] ⟨S o,[],[]⟩:=by
 refine Fn.go XfC Tryz.func234 fun P hP Q hQ=>?_
 conv=>cbv
 generalize ag:Df (⟨hver,hstr,hbas,hlin⟩:Bp)=r1
 refine .dd hP (Xaa ag) ?_
 cases r1
 conv=>cbv
 have e:(tx [])=Cj (⟨hver,hstr,hbas,hlin⟩:Bp) offs fin:=(by unfold Cj;rw[if_neg];rintro⟨q1,q2,q3,q4⟩;simp only[]at q1 q2 q3 q4;rw[ag]at q1;cases q1)
 rw[hr]at e
 subst e
 exact hQ _ _ (.s rfl rfl)
 conv=>cbv
 have hh:=G2 ag
 refine .go hoffs fun v2 aj=>?_
 conv=>cbv
 refine .add fun v3 ak=>?_
 conv=>cbv
 generalize ac:Cx hver v3=r4
 have zr4:=Mj ac
 refine .dd hP (XbW ac) ?_
 conv=>cbv
 generalize ab:Cv hstr offs=l5
 generalize al:l5.map T7=a7
 refine .dd hP (XgA hoffs (by omega) ab al) ?_
 conv=>cbv
 have zl5:l5.length≤offs.length:=ab▸Kd
 generalize ad:Cf l5=r6
 have zr6:=Q9 ad
 refine .dd hP (XcT al (by omega) (ab▸To hwo (by omega)) ad) ?_
 conv=>cbv
 refine .go hoffs fun v7 am=>?_
 conv=>cbv
 generalize aa:Bu fin v7 hstr 0=r8
 have zr8:=Hs aa
 refine .dd hP (Rg (by omega) (by omega) (by omega) (by omega) aa) ?_
 conv=>cbv
 refine .eql (fun h9=>?_) fun h9=>?_
 conv=>cbv
 have e:(tx [])=Cj (⟨hver,hstr,hbas,hlin⟩:Bp) offs fin:=(by unfold Cj;rw[if_neg];rintro⟨q1,q2,q3,q4⟩;simp only[]at q1 q2 q3 q4;rw[←aj,←ak,ac]at q2;exact q2 h9)
 rw[hr]at e
 subst e
 exact hQ _ _ (.s rfl rfl)
 conv=>cbv
 refine .eql (fun h10=>?_) fun h10=>?_
 conv=>cbv
 have e:(tx [])=Cj (⟨hver,hstr,hbas,hlin⟩:Bp) offs fin:=(by unfold Cj;rw[if_neg];rintro⟨q1,q2,q3,q4⟩;simp only[]at q1 q2 q3 q4;rw[ab,ad]at q3;exact q3 h10)
 rw[hr]at e
 subst e
 exact hQ _ _ (.s rfl rfl)
 conv=>cbv
 refine .eql (fun h11=>?_) fun h11=>?_
 conv=>cbv
 have e:(tx [])=Cj (⟨hver,hstr,hbas,hlin⟩:Bp) offs fin:=(by unfold Cj;rw[if_neg];rintro⟨q1,q2,q3,q4⟩;simp only[]at q1 q2 q3 q4;rw[←am,aa]at q4;exact q4 h11)
 rw[hr]at e
 subst e
 exact hQ _ _ (.s rfl rfl)
 conv=>cbv
 refine .go fun a8 ah ay=>?_
 conv=>cbv
 have z8:r8.size=20:=by rw[←aa];exact Oa (by rw[aa];exact h11)
 refine .hi fun ar ai=>?_
 conv=>cbv
 have ba:ar.size=12:=by rw[ai,Q6 (by omega) (by omega)];rfl
 refine .go fun au an az=>?_
 conv=>cbv
 generalize ae:Ge au=aw
 have zr15:=Jl ae
 refine .dd hP (Vn (by omega) ae) ?_
 conv=>cbv
 refine .go fun bb ao a1=>?_
 conv=>cbv
 refine .go hoffs fun ap a2=>?_
 conv=>cbv
 generalize af:Bu fin ap hstr aw=bc
 have zr18:=Hs af
 refine .dd hP (Rg (by omega) (by omega) (by omega) (by omega) af) ?_
 conv=>cbv
 refine .go fun ax aq a6=>?_
 conv=>cbv
 have e:ax=Cj (⟨hver,hstr,hbas,hlin⟩:Bp) offs fin:=(by have q:Cj ⟨hver,hstr,hbas,hlin⟩ offs fin=_:=if_pos ⟨ag,by simp only[];rw[←aj,←ak,ac];exact h9,by simp only[];rw[ab,ad];exact h10,by simp only[];rw[←am,aa];exact h11⟩;rw[q];simp only[];rw[←aj,←ak,ac,ab,ad,show(v2:Int)=v7 by omega,aa,←ah,aq,ao,←ah,←af,←ae,an,ai,show ap=v7 by omega];rfl)
 rw[hr]at e
 subst e
 exact hQ _ _ (.s rfl rfl)
theorem XgM(hoffs:offs.map cI=xoffs)(hl:offs.length≤1000000000)(hwo:∀x∈offs,wfI x)(hf:fin<9223372036854775808)(hr:Cj (⟨hver,hstr,hbas,hlin⟩:Bp) offs fin=o):Fn Tryz.prog 223 [.agg [I hver,I hstr,I hbas,I hlin],.d (.row 1 xoffs),I fin] [] ⟨S o,[],[]⟩:=by
 refine Fn.go XfC Tryz.func223 fun P hP Q hQ=>?_
 conv=>cbv
 generalize ag:Df (⟨hver,hstr,hbas,hlin⟩:Bp)=r1
 refine .dd hP (Xaw ag) ?_
 cases r1
 conv=>cbv
 have e:(tx [])=Cj (⟨hver,hstr,hbas,hlin⟩:Bp) offs fin:=(by unfold Cj;rw[if_neg];rintro⟨q1,q2,q3,q4⟩;simp only[]at q1 q2 q3 q4;rw[ag]at q1;cases q1)
 rw[hr]at e
 subst e
 exact hQ _ _ (.s rfl rfl)
 conv=>cbv
 have hh:=G2 ag
 refine .go hoffs fun v2 aj=>?_
 conv=>cbv
 refine .add fun v3 ak=>?_
 conv=>cbv
 generalize ac:Cx hver v3=r4
 have zr4:=Mj ac
 refine .dd hP (XaT ac) ?_
 conv=>cbv
 generalize ab:Cv hstr offs=l5
 generalize al:l5.map T7=a7
 refine .dd hP (Xgt hoffs (by omega) ab al) ?_
 conv=>cbv
 have zl5:l5.length≤offs.length:=ab▸Kd
 generalize ad:Cf l5=r6
 have zr6:=Q9 ad
 refine .dd hP (Xbl al (by omega) (ab▸To hwo (by omega)) ad) ?_
 conv=>cbv
 refine .go hoffs fun v7 am=>?_
 conv=>cbv
 generalize aa:Bu fin v7 hstr 0=r8
 have zr8:=Hs aa
 refine .dd hP (Sh (by omega) (by omega) (by omega) (by omega) aa) ?_
 conv=>cbv
 refine .eql (fun h9=>?_) fun h9=>?_
 conv=>cbv
 have e:(tx [])=Cj (⟨hver,hstr,hbas,hlin⟩:Bp) offs fin:=(by unfold Cj;rw[if_neg];rintro⟨q1,q2,q3,q4⟩;simp only[]at q1 q2 q3 q4;rw[←aj,←ak,ac]at q2;exact q2 h9)
 rw[hr]at e
 subst e
 exact hQ _ _ (.s rfl rfl)
 conv=>cbv
 refine .eql (fun h10=>?_) fun h10=>?_
 conv=>cbv
 have e:(tx [])=Cj (⟨hver,hstr,hbas,hlin⟩:Bp) offs fin:=(by unfold Cj;rw[if_neg];rintro⟨q1,q2,q3,q4⟩;simp only[]at q1 q2 q3 q4;rw[ab,ad]at q3;exact q3 h10)
 rw[hr]at e
 subst e
 exact hQ _ _ (.s rfl rfl)
 conv=>cbv
 refine .eql (fun h11=>?_) fun h11=>?_
 conv=>cbv
 have e:(tx [])=Cj (⟨hver,hstr,hbas,hlin⟩:Bp) offs fin:=(by unfold Cj;rw[if_neg];rintro⟨q1,q2,q3,q4⟩;simp only[]at q1 q2 q3 q4;rw[←am,aa]at q4;exact q4 h11)
 rw[hr]at e
 subst e
 exact hQ _ _ (.s rfl rfl)
 conv=>cbv
 refine .go fun a8 ah ay=>?_
 conv=>cbv
 have z8:r8.size=20:=by rw[←aa];exact Oa (by rw[aa];exact h11)
 refine .hi fun ar ai=>?_
 conv=>cbv
 have ba:ar.size=12:=by rw[ai,Q6 (by omega) (by omega)];rfl
 refine .go fun au an az=>?_
 conv=>cbv
 generalize ae:Ge au=aw
 have zr15:=Jl ae
 refine .dd hP (V6 (by omega) ae) ?_
 conv=>cbv
 refine .go fun bb ao a1=>?_
 conv=>cbv
 refine .go hoffs fun ap a2=>?_
 conv=>cbv
 generalize af:Bu fin ap hstr aw=bc
 have zr18:=Hs af
 refine .dd hP (Sh (by omega) (by omega) (by omega) (by omega) af) ?_
 conv=>cbv
 refine .go fun ax aq a6=>?_
 conv=>cbv
 have e:ax=Cj (⟨hver,hstr,hbas,hlin⟩:Bp) offs fin:=(by have q:Cj ⟨hver,hstr,hbas,hlin⟩ offs fin=_:=if_pos ⟨ag,by simp only[];rw[←aj,←ak,ac];exact h9,by simp only[];rw[ab,ad];exact h10,by simp only[];rw[←am,aa];exact h11⟩;rw[q];simp only[];rw[←aj,←ak,ac,ab,ad,show(v2:Int)=v7 by omega,aa,←ah,aq,ao,←ah,←af,←ae,an,ai,show ap=v7 by omega];rfl)
 rw[hr]at e
 subst e
 exact hQ _ _ (.s rfl rfl)
end
section
open Go Go.Proofs
set_option maxRecDepth 20000
set_option maxHeartbeats 4000000
def Xft:List (Nat×TyRow):=[ty3,ty9,X1,Xf0,Xab,Xgx,XlT]
theorem XdS:Cb Tryz.prog Xft:=Cb.of (by kernel_rfl)
theorem Og:Setup Tryz.prog Xft:=⟨XdS,mixed⟩
def Dc(v:Int):Int→List ByteArray→List UInt8
 |_,[]=>[]
 |p,r::l=>(Aq v p r).data.toList++Dc v (p+1) l
def Fc(v:Int):Int→Int→List ByteArray→List Int
 |_,_,[]=>[]
 |p,k,r::l=>k::Fc v (p+1) (k+(Aq v p r).size) l
def Ps(h:Bp)(l:List ByteArray):List UInt8:=(Br h).data.toList++Dc h.version_ h.base_ l
def B7(h:Bp)(l:List ByteArray):ByteArray:=
 if Df h=true∧l.length≤1000∧h.base_+l.length≤1000000000∧∀r∈l,r.size≤60 then
  tx (Ps h l)++Cj h (Fc h.version_ h.base_ (Br h).size l) (Ps h l).length
 else tx []
theorem N7{v:Int}:∀{l:List ByteArray} {p:Int} {r:ByteArray},Dc v p (l++[r])=Dc v p l++(Aq v (p+l.length) r).data.toList
 |[],p,r=>by simp[Dc]
 |x::l,p,r=>by
  rw[List.cons_append,Dc,Dc,N7,List.append_assoc,List.length_cons,show p+1+(l.length:Int)=p+((l.length+1:Nat):Int)by omega]
theorem Sr{v:Int}:∀{l:List ByteArray} {p k:Int} {r:ByteArray},Fc v p k (l++[r])=Fc v p k l++[k+(Dc v p l).length]
 |[],p,k,r=>by simp[Dc,Fc]
 |x::l,p,k,r=>by
  have e:(Aq v p x).data.toList.length=(Aq v p x).size:=Array.length_toList
  rw[List.cons_append,Fc,Fc,Sr,Dc,List.cons_append,List.length_append,e,show k+((Aq v p x).size:Int)+((Dc v (p+1) l).length:Int)=k+(((Aq v p x).size+(Dc v (p+1) l).length:Nat):Int)by omega]
theorem Kk{v:Int}:∀{l:List ByteArray} {p k:Int},(Fc v p k l).length=l.length
 |[],_,_=>rfl
 |x::l,p,k=>by rw[Fc,List.length_cons,List.length_cons,Kk]
theorem Jn{v:Int}:∀{l:List ByteArray} {p:Int},(Dc v p l).length≤84*l.length
 |[],_=>by simp[Dc]
 |x::l,p=>by
  have:=@Jn v l (p+1)
  have h:=F2 (rfl:Aq v p x=_)
  have e:(Aq v p x).data.size=(Aq v p x).size:=rfl
  rw[Dc,List.length_append,Array.length_toList,List.length_cons]
  omega
theorem Ry{v:Int}:∀{l:List ByteArray} {p k:Int},0≤k→∀x∈Fc v p k l,0≤x∧x≤k+84*l.length
 |[],_,_,_,x,hx=>by simp[Fc]at hx
 |y::l,p,k,hk,x,hx=>by
  rw[Fc,List.mem_cons]at hx
  have h:=F2 (rfl:Aq v p y=_)
  rcases hx with rfl|hx
  ·rw[List.length_cons];omega
  ·have:=@Ry v l (p+1) (k+(Aq v p y).size) (by omega) x hx
   rw[List.length_cons];omega
theorem Fj{h:Bp}{l:List ByteArray}{o:ByteArray}(e:B7 h l=o):o.size≤200000:=by
 rw[←e]
 unfold B7
 split
 ·rename_i hc
  have h1:=T3 h (Fc h.version_ h.base_ (Br h).size l) (Ps h l).length
  have h2:=I0 (rfl:Br h=_)
  have h3:=@Jn h.version_ l h.base_
  rw[ByteArray.size_append,Bh]
  rw[Kk]at h1
  have e:(Br h).data.size=(Br h).size:=rfl
  have h4:(Ps h l).length=(Br h).size+(Dc h.version_ h.base_ l).length:=by unfold Ps;rw[List.length_append,Array.length_toList];rfl
  omega
 ·simp[Bh]
def Dj(s:ByteArray):Bool:=decide (60<s.size)
def Ck(l:List ByteArray):Int:=if l.findIdx Dj<l.length then(l.findIdx Dj:Int)else -1
def Cq(l:List ByteArray):Bool:=l.any Dj
theorem XmI{l:List ByteArray}{i:Int}(h0:0≤i)(hi:i.toNat<l.length)(h:Dj l[i.toNat]=true)(hb:∀(j:Nat) (hj:j<l.length),j<i.toNat→Dj l[j]=false):i=Ck l:=by
 have e:l.findIdx Dj=i.toNat:=(List.findIdx_eq hi).2 ⟨h,fun j hji=>hb j (by omega) hji⟩
 unfold Ck
 rw[e,if_pos hi]
 omega
theorem Xkl{l:List ByteArray}(hb:∀(j:Nat) (hj:j<l.length),Dj l[j]=false): -1=Ck l:=by
 unfold Ck
 rw[if_neg]
 intro hlt
 have:=List.findIdx_getElem (w:=hlt)
 rw[hb _ hlt]at this
 cases this
theorem XhQ{l:List ByteArray}:Cq l=decide (0≤Ck l):=by
 unfold Cq Ck
 by_cases h:l.findIdx Dj<l.length
 ·rw[if_pos h]
  have:=List.findIdx_getElem (w:=h)
  rw[List.any_eq_true.2 ⟨_,List.getElem_mem h,this⟩]
  simp
 ·rw[if_neg h]
  have:l.any Dj=false:=by
   rw[List.any_eq_false]
   intro x hx hp
   exact h (List.findIdx_lt_length_of_exists ⟨x,hx,hp⟩)
  rw[this]
  rfl
theorem XbM{l:List ByteArray}(h:Cq l=false):∀r∈l,r.size≤60:=by
 intro r hr
 have:=List.any_eq_false.1 h r hr
 simp[Dj]at this
 exact this
theorem Xh0{l:List ByteArray}(h:Cq l=true):¬∀r∈l,r.size≤60:=by
 intro hh
 obtain⟨r,hr,h'⟩:=List.any_eq_true.1 h
 have:=hh r hr
 simp[Dj]at h'
 omega
variable {o:Bool} {l:List ByteArray} {xl:List (List D)} {hver hstr hbas hlin:Int}
theorem Xcp{s:ByteArray}(hr:Dj s=o):Fn Tryz.prog 270 [S s] [] ⟨B o,[],[]⟩:=by
 refine Fn.go Og Tryz.func270 fun P hP Q hQ=>?_
 conv=>cbv
 refine .go fun v1 aa=>?_
 conv=>cbv
 refine .gtr (fun h2=>?_) fun h2=>?_
 conv=>cbv
 have e:true=Dj s:=(by unfold Dj;rw[eq_comm,decide_eq_true_iff];omega)
 rw[hr]at e
 subst e
 exact hQ _ _ (.b rfl rfl)
 conv=>cbv
 have e:false=Dj s:=(by unfold Dj;rw[eq_comm,decide_eq_false_iff_not];omega)
 rw[hr]at e
 subst e
 exact hQ _ _ (.b rfl rfl)
theorem N2{o:Int}(hl:l.map cS=xl)(hn:l.length<2^40)(hr:Ck l=o):Fn Tryz.prog 318 [.d (.row 1 xl),.clo 270 []] [] ⟨I o,[],[]⟩:=by
 refine Fn.go Og Tryz.func318 fun P hP Q hQ=>?_
 conv=>cbv
 refine .go hl fun v1 ad=>?_
 conv=>cbv
 refine LoopW.lp (κ:=Int) Og hP [] [0,1,7] (fun i8=>[(8,I i8)]) (fun i8=>[])
  (fun i8=>0≤i8∧i8≤l.length∧∀(j:Nat) (hj:j<l.length),j<i8.toNat→Dj l[j]=false)
  (fun i8=>(l.length - i8).toNat) (0) ⟨by omega,by omega,fun j _ h=>by simp at h⟩ ⟨rfl,trivial⟩ rfl ?_
 rintro i8 J ⟨h0,h1,hb⟩ hJ
 conv=>cbv
 refine .lss (fun h2=>?_) fun h2=>?_
 conv=>cbv
 refine .go i8.toNat hl fun ac e3 ab=>?_
 conv=>cbv
 generalize aa:Dj e3=r4
 refine .dd hP (Xcp aa) ?_
 cases r4
 conv=>cbv
 refine .add fun v5 ae=>?_
 conv=>cbv
 exact .go [] (v5) (hJ _ ⟨by omega,by omega,fun j hj h=>if e:j=i8.toNat then by subst e;rw[←ab];exact aa else hb j hj (by omega)⟩ mlt)
 conv=>cbv
 have e:i8=Ck l:=(by exact XmI h0 (by omega) (ab▸aa) hb)
 rw[hr]at e
 subst e
 exact hQ _ _ (.i rfl rfl)
 conv=>cbv
 have e:(-1)=Ck l:=(by exact Xkl fun j hj=>hb j hj (by omega))
 rw[hr]at e
 subst e
 exact hQ _ _ (.i rfl rfl)
theorem Lz(hl:l.map cS=xl)(hn:l.length<2^40)(hr:Cq l=o):Fn Tryz.prog 269 [.d (.row 1 xl),.clo 270 []] [] ⟨B o,[],[]⟩:=by
 refine Fn.go Og Tryz.func269 fun P hP Q hQ=>?_
 conv=>cbv
 generalize aa:Ck l=r1
 refine .dd hP (N2 hl hn aa) ?_
 conv=>cbv
 refine .geq (fun h2=>?_) fun h2=>?_
 conv=>cbv
 have e:true=Cq l:=(by rw[XhQ,aa,eq_comm,decide_eq_true_iff];omega)
 rw[hr]at e
 subst e
 exact hQ _ _ (.b rfl rfl)
 conv=>cbv
 have e:false=Cq l:=(by rw[XhQ,aa,eq_comm,decide_eq_false_iff_not];omega)
 rw[hr]at e
 subst e
 exact hQ _ _ (.b rfl rfl)
theorem Z8{h:Bp}(hk:Df h=true):0<(Br h).size:=by
 unfold Br
 rw[if_pos hk,ByteArray.size_append]
 have:0<(Xdz h).size:=by
  unfold Xdz
  simp only[ByteArray.size_append,Bh,List.length_cons]
  omega
 omega
theorem Ml{o:ByteArray}(hl:l.map cS=xl)(hn:l.length<2^40)(hr:B7 (⟨hver,hstr,hbas,hlin⟩:Bp) l=o):Fn Tryz.prog 204 [.agg [I hver,I hstr,I hbas,I hlin],.d (.row 1 xl)] [] ⟨S o,[],[]⟩:=by
 refine Fn.go Og Tryz.func204 fun P hP Q hQ=>?_
 conv=>cbv
 generalize ag:Df (⟨hver,hstr,hbas,hlin⟩:Bp)=r1
 refine .dd hP (Xaa ag) ?_
 cases r1
 conv=>cbv
 have e:(tx [])=B7 (⟨hver,hstr,hbas,hlin⟩:Bp) l:=(by unfold B7;rw[if_neg];rintro⟨q,_⟩;rw[ag]at q;cases q)
 rw[hr]at e
 subst e
 exact hQ _ _ (.s rfl rfl)
 conv=>cbv
 refine .go hl fun v2 bk=>?_
 conv=>cbv
 refine .gtr (fun h3=>?_) fun h3=>?_
 conv=>cbv
 have e:(tx [])=B7 (⟨hver,hstr,hbas,hlin⟩:Bp) l:=(by unfold B7;rw[if_neg];rintro⟨_,q,_⟩;omega)
 rw[hr]at e
 subst e
 exact hQ _ _ (.s rfl rfl)
 conv=>cbv
 refine .go hl fun v4 bl=>?_
 conv=>cbv
 have hh:=G2 ag
 refine .add fun v5 bm=>?_
 conv=>cbv
 generalize aq:Bg v5=r6
 refine .dd hP (Fv aq) ?_
 cases r6
 simp only[Bg,decide_eq_true_eq,decide_eq_false_iff_not]at aq
 conv=>cbv
 have e:(tx [])=B7 (⟨hver,hstr,hbas,hlin⟩:Bp) l:=(by unfold B7;rw[if_neg];rintro⟨_,_,q,_⟩;simp only[]at q;omega)
 rw[hr]at e
 subst e
 exact hQ _ _ (.s rfl rfl)
 simp only[Bg,decide_eq_true_eq,decide_eq_false_iff_not]at aq
 conv=>cbv
 generalize an:Cq l=r7
 refine .dd hP (Lz hl (by omega) an) ?_
 cases r7
 conv=>cbv
 generalize ah:Br (⟨hver,hstr,hbas,hlin⟩:Bp)=r8
 have zr8:=I0 ah
 refine .dd hP (Xq ah) ?_
 conv=>cbv
 have zp:=Z8 ag;rw[ah]at zp
 obtain⟨nb9,hnb9⟩:∃m,([]:List UInt8).length+r8.size=m:=⟨_,rfl⟩
 obtain⟨b9,ar⟩:∃m,[]++r8.data.toList=m:=⟨_,rfl⟩
 obtain⟨kb9,a1⟩:∃m,(r8.size:Int)=m:=⟨_,rfl⟩
 have lb9:nb9=b9.length:=by rw[←ar,List.length_append,Array.length_toList];exact hnb9.symm
 refine .bx [3,1] [1] hP (XeN rfl (by first|omega|(simp;omega)) hnb9 ar a1) rfl rfl rfl rfl ?_
 conv=>cbv
 refine .go hl fun bn bf=>?_
 conv=>cbv
 refine LoopW.lp (κ:=Int×(List UInt8)×Nat×(List (List D))×Nat) Og hP [4,5] [2,5,35,36] (fun(aa,ab,ac,ae,af)=>[(6,.ref 7 0 af),(37,I aa)]) (fun(aa,ab,ac,ae,af)=>[(3,.box 219 [.ptr 3 0 0,.ref 6 0 ac]),(6,.buf 5 false ab),(7,.row 1 false ae)])
  (fun(aa,ab,ac,ae,af)=>∃(w7:List Int),ac=ab.length∧w7.map cI=ae∧af=w7.length∧0≤aa∧aa≤l.length∧ab=r8.data.toList++Dc hver hbas (l.take aa.toNat)∧w7=Fc hver hbas r8.size (l.take aa.toNat))
  (fun(aa,ab,ac,ae,af)=>(l.length - aa).toNat) (0,b9,nb9,[],0) ⟨[],lb9,rfl,rfl,by omega,by omega,by rw[←ar];simp[Dc],by simp[Fc]⟩ ⟨rfl,rfl,trivial⟩ rfl ?_
 rintro⟨aa,ab,ac,ae,af⟩ J ⟨w7,ao,au,bg,h0,h1,hz,hw⟩ hJ
 have q1:=@Jn hver (l.take aa.toNat) hbas
 have q2:(l.take aa.toNat).length=aa.toNat:=by rw[List.length_take];omega
 have q4:ab.length=r8.size+(Dc hver hbas (l.take aa.toNat)).length:=by rw[hz,List.length_append,Array.length_toList];rfl
 have q5:w7.length=aa.toNat:=by rw[hw,Kk,q2]
 conv=>cbv
 refine .lss (fun h11=>?_) fun h11=>?_
 conv=>cbv
 refine .go aa.toNat hl fun ba aw ap=>?_
 conv=>cbv
 obtain⟨kb13,ad⟩:∃m,((ac:Nat):Int)=m:=⟨_,rfl⟩
 refine .bx [3,6] [6] hP (Xmn (bs:=ab) ad) rfl rfl rfl rfl ?_
 conv=>cbv
 refine .one kb13 au rfl fun a2 bb bc a6=>?_
 conv=>cbv
 have ze:=XbM an aw (ap▸List.getElem_mem _)
 refine .add fun a7 bh=>?_
 conv=>cbv
 generalize ai:Aq hver a7 aw=ax
 have zr16:=F2 ai
 refine .dd hP (Qh (by omega) ai) ?_
 conv=>cbv
 obtain⟨nb17,hnb17⟩:∃m,(ab:List UInt8).length+ax.size=m:=⟨_,rfl⟩
 obtain⟨ay,aj⟩:∃m,ab++ax.data.toList=m:=⟨_,rfl⟩
 obtain⟨kb17,az⟩:∃m,(ax.size:Int)=m:=⟨_,rfl⟩
 have lb17:nb17=ay.length:=by rw[←aj,List.length_append,Array.length_toList];exact hnb17.symm
 refine .bx [3,6] [6] hP (XeV ao (by first|omega|(simp;omega)) hnb17 aj az) rfl rfl rfl rfl ?_
 conv=>cbv
 refine .add fun ak bi=>?_
 conv=>cbv
 have t1:ak.toNat=aa.toNat+1:=by omega
 have t2:l.take ak.toNat=l.take aa.toNat++[aw]:=by rw[t1,ap,List.take_append_getElem]
 have t4:ay=r8.data.toList++Dc hver hbas (l.take ak.toNat):=by rw[←aj,hz,t2,N7,q2,List.append_assoc,show hbas+((aa.toNat:Nat):Int)=a7 by omega,ai]
 have t5:w7++[kb13]=Fc hver hbas r8.size (l.take ak.toNat):=by rw[t2,Sr,←hw,show kb13=(r8.size:Int)+((Dc hver hbas (l.take aa.toNat)).length:Int)by omega]
 exact .go [10,9] (ak,ay,nb17,bb,a2) (hJ _ ⟨_,Gw,a6,Gw,by omega,by omega,t4,t5⟩ mlt)
 conv=>cbv
 obtain⟨bd,al⟩:∃m,tx ab=m:=⟨_,rfl⟩
 have zb12:bd.size=ab.length:=by rw[←al,Bh]
 refine .bx [3,6] [6] hP (Xe4 (x:=.ptr 0 0 0) ao (by intro e;rw[e]at q4;simp at q4;omega) (by first|omega|(simp;omega)) al) rfl rfl rfl rfl ?_
 conv=>cbv
 obtain⟨kb13,ad⟩:∃m,((ac:Nat):Int)=m:=⟨_,rfl⟩
 refine .bx [3,6] [6] hP (Xmn (bs:=ab) ad) rfl rfl rfl rfl ?_
 conv=>cbv
 generalize am:Cj (⟨hver,hstr,hbas,hlin⟩:Bp) w7 kb13=bo
 have zr14:=Wx am
 refine .lnt hP (XgR au (by omega) (fun x hx=>by rw[hw]at hx;have:=Ry (k:=(r8.size:Int)) (by omega) x hx;exact⟨by omega,by omega⟩) (by omega) am) (.agg (.d rfl (.d rfl (.d rfl (.d rfl .nil)))) (.ref rfl (by rw[←au,List.length_map];first|omega|(simp;omega)) (.d rfl .nil))) ?_
 conv=>cbv
 refine .go fun be a8 bj=>?_
 conv=>cbv
 have t0:l.take aa.toNat=l:=List.take_of_length_le (by omega)
 have e1:Ps ⟨hver,hstr,hbas,hlin⟩ l=ab:=by unfold Ps;rw[ah,hz,t0]
 have e2:Fc hver hbas r8.size l=w7:=by rw[hw,t0]
 have e:be=B7 (⟨hver,hstr,hbas,hlin⟩:Bp) l:=(by unfold B7;rw[if_pos ⟨ag,by omega,by simp only[];omega,XbM an⟩,e1,ah,a8,←al,←am,←e2];show _=tx ab++Cj _ (Fc hver hbas r8.size l) ab.length;congr 2;omega)
 rw[hr]at e
 subst e
 exact hQ _ _ (.s rfl rfl)
 conv=>cbv
 have e:(tx [])=B7 (⟨hver,hstr,hbas,hlin⟩:Bp) l:=(by unfold B7;rw[if_neg];rintro⟨_,_,_,q⟩;exact Xh0 an q)
 rw[hr]at e
 subst e
 exact hQ _ _ (.s rfl rfl)
theorem Tg{o:ByteArray}(hl:l.map cS=xl)(hn:l.length<2^40)(hr:B7 (⟨hver,hstr,hbas,hlin⟩:Bp) l=o):Fn Tryz.prog 191 [.agg [I hver,I hstr,I hbas,I hlin],.d (.row 1 xl)] [] ⟨S o,[],[]⟩:=by
 refine Fn.go Og Tryz.func191 fun P hP Q hQ=>?_
 conv=>cbv
 generalize aj:Df (⟨hver,hstr,hbas,hlin⟩:Bp)=r1
 refine .dd hP (Xaw aj) ?_
 cases r1
 conv=>cbv
 have e:(tx [])=B7 (⟨hver,hstr,hbas,hlin⟩:Bp) l:=(by unfold B7;rw[if_neg];rintro⟨q,_⟩;rw[aj]at q;cases q)
 rw[hr]at e
 subst e
 exact hQ _ _ (.s rfl rfl)
 conv=>cbv
 refine .go hl fun v2 bt=>?_
 conv=>cbv
 refine .gtr (fun h3=>?_) fun h3=>?_
 conv=>cbv
 have e:(tx [])=B7 (⟨hver,hstr,hbas,hlin⟩:Bp) l:=(by unfold B7;rw[if_neg];rintro⟨_,q,_⟩;omega)
 rw[hr]at e
 subst e
 exact hQ _ _ (.s rfl rfl)
 conv=>cbv
 refine .go hl fun v4 bu=>?_
 conv=>cbv
 have hh:=G2 aj
 refine .add fun v5 bv=>?_
 conv=>cbv
 refine .gtr (fun h6=>?_) fun h6=>?_
 conv=>cbv
 have e:(tx [])=B7 (⟨hver,hstr,hbas,hlin⟩:Bp) l:=(by unfold B7;rw[if_neg];rintro⟨_,_,q,_⟩;simp only[]at q;omega)
 rw[hr]at e
 subst e
 exact hQ _ _ (.s rfl rfl)
 conv=>cbv
 generalize ak:Br (⟨hver,hstr,hbas,hlin⟩:Bp)=r7
 have zr7:=I0 ak
 refine .dd hP (X4 ak) ?_
 conv=>cbv
 refine .go fun a2 z8 bi a6=>?_
 conv=>cbv
 refine LoopW.lp (κ:=Int×(List (List D))×Nat×(List (List D))×Nat) Og hP [1,2] [1,2] (fun(i7,aa,ab,ac,ad)=>[(5,.ref 3 0 ab),(6,.ref 4 0 ad),(7,I i7)]) (fun(i7,aa,ab,ac,ad)=>[(3,.row 1 false aa),(4,.row 1 false ac)])
  (fun(i7,aa,ab,ac,ad)=>∃(w3:List UInt8) (w4:List Int),w3.map cB=aa∧ab=w3.length∧w4.map cI=ac∧ad=w4.length∧0≤i7∧i7≤l.length∧w3=r7.data.toList++Dc hver hbas (l.take i7.toNat)∧w4=Fc hver hbas r7.size (l.take i7.toNat)∧∀r∈l.take i7.toNat,r.size≤60)
  (fun(i7,aa,ab,ac,ad)=>(l.length - i7).toNat) (0,z8,a2,[],0) ⟨r7.data.toList,[],a6,(by first|omega|(simp;omega)),rfl,rfl,by omega,by omega,by simp[Dc],by simp[Fc],by simp⟩ ⟨rfl,rfl,rfl,trivial⟩ rfl ?_
 rintro⟨i7,aa,ab,ac,ad⟩ J ⟨w3,w4,aq,bj,al,bk,h0,h1,hz,hw,am⟩ hJ
 have q1:=@Jn hver (l.take i7.toNat) hbas
 have q2:(l.take i7.toNat).length=i7.toNat:=by rw[List.length_take];omega
 have q4:w3.length=r7.size+(Dc hver hbas (l.take i7.toNat)).length:=by rw[hz,List.length_append,Array.length_toList];rfl
 have q5:w4.length=i7.toNat:=by rw[hw,Kk,q2]
 conv=>cbv
 refine .go hl fun v9 bw=>?_
 conv=>cbv
 refine .lss (fun h10=>?_) fun h10=>?_
 conv=>cbv
 refine .go i7.toNat hl fun a7 a8 af=>?_
 conv=>cbv
 refine .go fun bz bl=>?_
 conv=>cbv
 refine .gtr (fun h13=>?_) fun h13=>?_
 conv=>cbv
 have e:(tx [])=B7 (⟨hver,hstr,hbas,hlin⟩:Bp) l:=(by unfold B7;rw[if_neg];rintro⟨_,_,_,q⟩;have:=q a8 (af▸List.getElem_mem _);omega)
 rw[hr]at e
 subst e
 exact hQ _ _ (.s rfl rfl)
 conv=>cbv
 refine .go fun an bm=>?_
 conv=>cbv
 refine .one an al rfl fun ar ba bb au=>?_
 conv=>cbv
 refine .add fun aw bn=>?_
 conv=>cbv
 refine .go i7.toNat hl fun bc ao ag=>?_
 conv=>cbv
 have b0:ao.size≤60:=by rw[ag,←af];omega
 generalize ah:Aq hver aw ao=bd
 have zr18:=F2 ah
 refine .dd hP (Qb (by omega) ah) ?_
 conv=>cbv
 refine .str aq fun ax be bf ay=>?_
 conv=>cbv
 refine .add fun ae bo=>?_
 conv=>cbv
 have t1:ae.toNat=i7.toNat+1:=by omega
 have t2:l.take ae.toNat=l.take i7.toNat++[ao]:=by rw[t1,ag,List.take_append_getElem]
 have t4:w3++bd.data.toList=r7.data.toList++Dc hver hbas (l.take ae.toNat):=by rw[hz,t2,N7,q2,List.append_assoc,show hbas+((i7.toNat:Nat):Int)=aw by omega,ah]
 have t5:w4++[an]=Fc hver hbas r7.size (l.take ae.toNat):=by rw[t2,Sr,←hw,show an=(r7.size:Int)+((Dc hver hbas (l.take i7.toNat)).length:Int)by omega]
 have t6:∀r∈l.take ae.toNat,r.size≤60:=by rw[t2];intro r hr';rcases List.mem_append.1 hr' with h|h;exact am r h;rw[List.mem_singleton.1 h,ag,←af];omega
 exact .go [7,6] (ae,be,ax,ba,ar) (hJ _ ⟨_,_,ay,Gw,au,Gw,by omega,by omega,t4,t5,t6⟩ mlt)
 conv=>cbv
 refine .go fun bg bp=>?_
 conv=>cbv
 generalize ai:Cj (⟨hver,hstr,hbas,hlin⟩:Bp) w4 bg=b2
 have zr12:=Wx ai
 refine .lnt hP (XgM al (by omega) (fun x hx=>by rw[hw]at hx;have:=Ry (k:=(r7.size:Int)) (by omega) x hx;exact⟨by omega,by omega⟩) (by omega) ai) (.agg (.d rfl (.d rfl (.d rfl (.d rfl .nil)))) (.ref rfl (by rw[←al,List.length_map];first|omega|(simp;omega)) (.d rfl .nil))) ?_
 conv=>cbv
 refine .str aq fun bq b3 ap az=>?_
 conv=>cbv
 refine .go az (hn:=by rw[ap,List.length_append,Array.length_toList];rfl) fun bh a1=>?_
 conv=>cbv
 have t0:l.take i7.toNat=l:=List.take_of_length_le (by omega)
 have e1:Ps ⟨hver,hstr,hbas,hlin⟩ l=w3:=by unfold Ps;rw[ak,hz,t0]
 have e2:Fc hver hbas r7.size l=w4:=by rw[hw,t0]
 rw[t0]at am
 have e:bh=B7 (⟨hver,hstr,hbas,hlin⟩:Bp) l:=(by unfold B7;rw[if_pos ⟨aj,by omega,by simp only[];omega,am⟩,e1,ak,a1,←Dt,Qy,←ai,←e2];show _=tx w3++Cj _ (Fc hver hbas r7.size l) w3.length;congr 2;omega)
 rw[hr]at e
 subst e
 exact hQ _ _ (.s rfl rfl)
end
section
open Go Go.Proofs
set_option maxRecDepth 20000
set_option maxHeartbeats 4000000
def Xdd:List (Nat×TyRow):=[ty4,ty9,X1,Xab,XgN]
theorem XbP:Cb Tryz.prog Xdd:=Cb.of (by kernel_rfl)
theorem Uj:Setup Tryz.prog Xdd:=⟨XbP,mixed⟩
def C9(b:ByteArray):Bp×List ByteArray×Bool:=
 if(As b).ok_=true∧(As b).marked_=true∧B7 (As b).head_ (As b).records_=b then((As b).head_,(As b).records_,true)else(⟨0,0,0,0⟩,[],false)
def Ij(b:ByteArray):Bool:=(C9 b).2.2
theorem Xcd:∀(k:Nat) {h:Bp} {b:ByteArray} {n:Nat} {p:Int},(b.size - p).toNat≤k→0≤p∧p≤b.size→
  (Fy h b n p).2.2.1=p+(Dc h.version_ (h.base_+n) (Fy h b n p).1).length∧(Fy h b n p).2.2.2=D9 h.version_ (h.base_+n+(Fy h b n p).1.length) b (Fy h b n p).2.2.1
 |k,h,b,n,p,hk,hp=>by
  cases hm:D9 h.version_ (h.base_+n) b p
  ·rcases hf:Az h.version_ (h.base_+n) b p with⟨r,q,ok⟩
   cases ok
   ·rw[Me hm hf]
    exact⟨by simp[Dc],by simp[hm]⟩
   ·have h2:=Hd hf
    rw[Mi hm hf]
    cases k with
    |zero=>omega
    |succ k=>
     obtain⟨i1,i2⟩:=Xcd k (h:=h) (b:=b) (n:=n+1) (p:=q) (by omega) (by omega)
     have e:(Aq h.version_ (h.base_+n) r).data.toList.length=(Aq h.version_ (h.base_+n) r).size:=Array.length_toList
     have e2:h.base_+((n+1:Nat):Int)=h.base_+n+1:=by omega
     rw[e2]at i1 i2
     refine⟨?_,?_⟩
     ·show(Fy h b (n+1) q).2.2.1=_
      rw[i1,Dc,List.length_append,e]
      omega
     ·show(Fy h b (n+1) q).2.2.2=_
      rw[i2,List.length_cons]
      congr 1
      omega
  ·rw[Mm hm]
   exact⟨by simp[Dc],by simp[hm]⟩
theorem Yx:∀(k:Nat) {h:Bp} {b:ByteArray} {n:Nat} {p:Int},(b.size - p).toNat≤k→0≤p∧p≤b.size→p+(Fy h b n p).1.length≤b.size
 |k,h,b,n,p,hk,hp=>by
  cases hm:D9 h.version_ (h.base_+n) b p
  ·rcases hf:Az h.version_ (h.base_+n) b p with⟨r,q,ok⟩
   cases ok
   ·rw[Me hm hf]
    simpa using hp.2
   ·have h2:=Hd hf
    rw[Mi hm hf]
    cases k with
    |zero=>omega
    |succ k=>
     have ih:=Yx k (h:=h) (b:=b) (n:=n+1) (p:=q) (by omega) (by omega)
     rw[List.length_cons]
     omega
  ·rw[Mm hm]
   simpa using hp.2
theorem Gi{b:ByteArray}:(As b).records_.length≤b.size:=by
 unfold As
 split
 ·rename_i h e
  have h2:=F4 e
  have:=Yx _ (h:=h) (b:=b) (n:=0) (p:=24) (Nat.le_refl _) (by omega)
  show(Fy h b 0 24).1.length≤_
  omega
 ·simp
theorem XbO{v:Int}:∀{l:List ByteArray} {p k:Int},∀x∈Fc v p k l,k≤x
 |[],_,_,x,hx=>by simp[Fc]at hx
 |y::l,p,k,x,hx=>by
  rw[Fc,List.mem_cons]at hx
  rcases hx with rfl|hx
  ·omega
  ·have:=XbO x hx
   omega
theorem Xcb{v:Int}:∀{l:List ByteArray} {p k:Int},(Fc v p k l).Pairwise (·≤·)
 |[],_,_=>by rw[Fc];exact .nil
 |y::l,p,k=>by
  rw[Fc,List.pairwise_cons]
  refine⟨fun x hx=>?_,Xcb⟩
  have:=XbO x hx
  omega
theorem XlU{s n:Nat}{offs:List Int}(h:offs.Pairwise (·≤·))(hn:n≤offs.length):(Xdm s offs n).Pairwise (fun a b=>a.count_≤b.count_∧a.at_≤b.at_):=by
 unfold Xdm
 rw[List.pairwise_map]
 refine List.Pairwise.imp_of_mem ?_ (List.Pairwise.filter _ List.pairwise_lt_range)
 intro i j hi hj hij
 have aa:=List.mem_range.1 (List.mem_filter.1 hi).1
 have ab:=List.mem_range.1 (List.mem_filter.1 hj).1
 refine⟨by show(i:Int)≤(j:Int);omega,?_⟩
 show offs.getD i 0≤offs.getD j 0
 rw[←Sn (show i<offs.length by omega),←Sn (show j<offs.length by omega)]
 exact List.pairwise_iff_getElem.1 h i j _ _ hij
theorem Xce{a b:Int}(h:b≤a)(h2:a - b≤1000000000):G3 a b≠tx []:=by
 unfold G3 Cw
 rw[if_pos ⟨h,h2⟩,if_pos (by omega)]
 intro e
 have:=congrArg ByteArray.size e
 rw[Bh,Bh]at this
 exact Wh _ (List.eq_nil_of_length_eq_zero this)
theorem Xcg:∀{l:List Hr} {q:Int×Int},l.Pairwise (fun a b=>a.count_≤b.count_∧a.at_≤b.at_)→(∀p∈l,(q.1≤p.count_∧p.count_≤1000000000)∧q.2≤p.at_∧p.at_≤1000000000)→0≤q.1→0≤q.2→∃t,Is q l=some t
 |[],q,_,_,_,_=>⟨_,rfl⟩
 |p::l,q,hp,hb,h1,h2=>by
  rw[List.pairwise_cons]at hp
  have aa:=hb p List.mem_cons_self
  obtain⟨t,ht⟩:=Xcg (q:=(p.count_,p.at_)) hp.2 (fun x hx=>by
   have a1:=hp.1 x hx
   have a2:=hb x (List.mem_cons_of_mem _ hx)
   exact⟨⟨a1.1,a2.1.2⟩,a1.2,a2.2.2⟩) (by show 0≤p.count_;omega) (by show 0≤p.at_;omega)
  simp only[Is]
  rw[if_neg (by
   intro h
   rcases h with h|h
   ·exact Xce (by omega) (by omega) h
   ·exact Xce (by omega) (by omega) h),ht]
  exact⟨_,rfl⟩
theorem Xik{s:Int}{offs:List Int}(h:offs.Pairwise (·≤·))(hb:∀x∈offs,0≤x∧x≤1000000000)(hl:offs.length≤1000):Cf (Cv s offs)≠tx []:=by
 have hlen:=@Kd s offs
 have key:∃t,Is (0,0) (Cv s offs)=some t:=by
  unfold Cv
  split
  ·exact⟨_,rfl⟩
  ·refine Xcg (XlU h (Nat.le_refl _)) ?_ (Int.le_refl _) (Int.le_refl _)
   intro p hp
   unfold Xdm at hp
   obtain⟨i,hi,rfl⟩:=List.mem_map.1 hp
   have aa:=List.mem_range.1 (List.mem_filter.1 hi).1
   have:=hb _ (List.getElem_mem aa)
   rw[Sn aa]at this
   exact⟨⟨by show(0:Int)≤(i:Int);omega,by show(i:Int)≤_;omega⟩,this⟩
 obtain⟨t,ht⟩:=key
 unfold Cf
 rw[ht]
 show Cw _++t≠tx []
 intro e
 have e2:=congrArg ByteArray.size e
 unfold Cw at e2
 rw[if_pos (by omega),ByteArray.size_append,Bh,Bh]at e2
 have:=List.length_pos_iff.2 (Wh (Cv s offs).length)
 simp only[List.length_nil]at e2
 have e3:((Cv s offs).length:Int).toNat=(Cv s offs).length:=by omega
 rw[e3]at e2
 omega
theorem Zw{n:Int}(h:0≤n∧n<4294967296):Av n 4≠tx []:=by
 intro e
 have:=Oi n h
 rw[e,Bh]at this
 simp at this
theorem XgT{a b c d:Int}(ha:0≤a∧a<4294967296)(hb:0≤b∧b<4294967296)(hc:0≤c∧c<4294967296)(hd:0≤d∧d<4294967296):Bu a b c d≠tx []:=by
 unfold Bu
 simp only[Jq,if_neg (Zw ha),if_neg (Zw hb),if_neg (Zw hc),if_neg (Zw hd)]
 intro e
 have:=congrArg ByteArray.size e
 rw[ByteArray.size_append,Bh,Bh]at this
 simp at this
theorem Xij{v n:Int}(hv:v=1∨v=2)(hn:0≤n∧n≤1000000000):Cx v n≠tx []:=by
 unfold Cx
 rw[if_pos ⟨hv,hn⟩]
 intro e
 have:=congrArg ByteArray.size e
 split at this
 ·simp[Bh]at this
 ·unfold Ns at this
  rw[ByteArray.size_append,Oi _ (by omega),Bh]at this
  simp at this
theorem XlB{h:Bp}{l:List ByteArray}(hk:Df h=true)(hl:l.length≤1000)(hb:h.base_+l.length≤1000000000):∃y,Cj h (Fc h.version_ h.base_ (Br h).size l) (Ps h l).length=Cx h.version_ (h.base_+l.length)++y:=by
 obtain⟨v,s,bs,lk⟩:=h
 have hh:=G2 hk
 have h2:=I0 (rfl:Br ⟨v,s,bs,lk⟩=_)
 have h3:=@Jn v l bs
 have e:(Br ⟨v,s,bs,lk⟩).data.size=(Br ⟨v,s,bs,lk⟩).size:=rfl
 have h4:(Ps ⟨v,s,bs,lk⟩ l).length=(Br ⟨v,s,bs,lk⟩).size+(Dc v bs l).length:=by unfold Ps;rw[List.length_append,Array.length_toList];rfl
 unfold Cj
 simp only[]at*
 rw[Kk,if_pos ⟨hk,Xij (by omega) (by omega),Xik Xcb (fun x hx=>by have:=Ry (by omega) x hx;omega) (by rw[Kk];exact hl),XgT (by omega) (by omega) (by omega) (by omega)⟩]
 exact⟨_,by rw[ByteArray.append_assoc,ByteArray.append_assoc]⟩
theorem Xhw{h:Bp}{b:ByteArray}(e:Ca b=(h,true)):(Br h).size=24:=by
 have:=F4 e
 rw[this.2.1,Q6 (by omega) (by omega)]
theorem Xgk{l:List UInt8}{m y:ByteArray}:(tx l++(m++y)).extract l.length (l.length+m.size)=m:=by
 rw[XaS,←Qy m,←Qy y,Dt,Dt,N4,Nat.add_sub_cancel_left,List.drop_left,Bh,List.take_left]
theorem XeB{b:ByteArray}(h1:(As b).ok_=true)(h2:B7 (As b).head_ (As b).records_=b):(As b).marked_=true:=by
 rcases e:Ca b with⟨h,ok⟩
 cases ok
 ·unfold As at h1
  rw[e]at h1
  cases h1
 have hr:=F4 e
 have hs:=Xhw e
 obtain⟨a1,a2⟩:=Xcd _ (h:=h) (b:=b) (n:=0) (p:=24) (Nat.le_refl _) (by omega)
 have hS:As b=⟨true,h,(Fy h b 0 24).1,(Fy h b 0 24).2.1,(Fy h b 0 24).2.2.1,(Fy h b 0 24).2.2.2⟩:=by unfold As;rw[e]
 rw[hS]at h2⊢
 simp only[]at h2⊢
 generalize(Fy h b 0 24).1=l at*
 generalize(Fy h b 0 24).2.2.1=fin at*
 rw[a2]
 have hc:Df h=true∧l.length≤1000∧h.base_+l.length≤1000000000∧∀r∈l,r.size≤60:=by
  by_cases hc:Df h=true∧l.length≤1000∧h.base_+l.length≤1000000000∧∀r∈l,r.size≤60
  ·exact hc
  ·unfold B7 at h2
   rw[if_neg hc]at h2
   rw[←h2,Bh]at hr
   simp at hr
 obtain⟨y,hy⟩:=XlB hc.1 hc.2.1 hc.2.2.1
 have h3:b=tx (Ps h l)++(Cx h.version_ (h.base_+l.length)++y):=by
  rw[←hy]
  unfold B7 at h2
  rw[if_pos hc]at h2
  exact h2.symm
 have e0:h.base_+((0:Nat):Int)=h.base_:=by omega
 rw[e0]at a1⊢
 have h4:((Ps h l).length:Int)=fin:=by
  rw[a1]
  unfold Ps
  rw[List.length_append,Array.length_toList]
  have e:(Br h).data.size=(Br h).size:=rfl
  omega
 have hv:(h.version_=1∨h.version_=2)∧0≤h.base_∧h.base_≤1000000000:=by
  obtain⟨v,s,bs,lk⟩:=h
  have:=G2 hc.1
  simp only[]
  omega
 unfold D9 Gs
 have hb:=congrArg ByteArray.size h3
 rw[ByteArray.size_append,ByteArray.size_append,Bh]at hb
 simp only[Bool.and_eq_true,decide_eq_true_eq]
 refine⟨Xij hv.1 (by omega),⟨by omega,by omega⟩,?_⟩
 rw[show fin.toNat=(Ps h l).length by omega]
 conv=>lhs;rw[h3]
 exact Xgk
variable {b:ByteArray} {oaver oastr oabas oalin:Int} {ob:List ByteArray} {xob:List (List D)} {oc o:Bool}
theorem Xcx(hn:b.size<2^40)(hr:C9 b=(⟨oaver,oastr,oabas,oalin⟩,ob,oc))(hob:ob.map cS=xob):Fn Tryz.prog 215 [S b] [] ⟨.tup [.agg [I oaver,I oastr,I oabas,I oalin],.d (.row 1 xob),B oc],[],[]⟩:=by
 refine Fn.go Uj Tryz.func215 fun P hP Q hQ=>?_
 conv=>cbv
 rcases ag:As b with⟨al,⟨aa,ab,ac,ad⟩,af,aj,ao,ak⟩
 generalize ae:af.map cS=am
 generalize ah:aj.map cI=an
 refine .dd hP (Md (by omega) ag ae ah) ?_
 conv=>cbv
 cases al
 conv=>cbv
 have e:((⟨0,0,0,0⟩:Bp),[],false)=C9 b:=(by unfold C9;rw[ag];simp only[];rw[if_neg];rintro⟨q,_⟩;cases q)
 rw[hr]at e
 simp only[Prod.mk.injEq,Bp.mk.injEq]at e
 obtain⟨⟨rfl,rfl,rfl,rfl⟩,rfl,rfl⟩:=e
 refine hQ _ _ ?_
 exact .many (.inl rfl) rfl rfl (.agg (.d rfl rfl (.d rfl rfl (.d rfl rfl (.d rfl rfl (.nil))))) (.ref rfl rfl (by rw[←hob];rfl) (.d rfl rfl (.nil))))
 conv=>cbv
 cases ak
 conv=>cbv
 have e:((⟨0,0,0,0⟩:Bp),[],false)=C9 b:=(by unfold C9;rw[ag];simp only[];rw[if_neg];rintro⟨_,q,_⟩;cases q)
 rw[hr]at e
 simp only[Prod.mk.injEq,Bp.mk.injEq]at e
 obtain⟨⟨rfl,rfl,rfl,rfl⟩,rfl,rfl⟩:=e
 refine hQ _ _ ?_
 exact .many (.inl rfl) rfl rfl (.agg (.d rfl rfl (.d rfl rfl (.d rfl rfl (.d rfl rfl (.nil))))) (.ref rfl rfl (by rw[←hob];rfl) (.d rfl rfl (.nil))))
 conv=>cbv
 have zl:=Gi (b:=b)
 rw[ag]at zl
 simp only[]at zl
 generalize ai:B7 (⟨aa,ab,ac,ad⟩:Bp) af=r2
 have zr2:=Fj ai
 refine .dd hP (Tg ae (by omega) ai) ?_
 conv=>cbv
 refine .neq (fun h3=>?_) fun h3=>?_
 conv=>cbv
 have e:((⟨0,0,0,0⟩:Bp),[],false)=C9 b:=(by unfold C9;rw[ag];simp only[];rw[if_neg];rintro⟨_,_,q⟩;exact h3 (ai.symm.trans q))
 rw[hr]at e
 simp only[Prod.mk.injEq,Bp.mk.injEq]at e
 obtain⟨⟨rfl,rfl,rfl,rfl⟩,rfl,rfl⟩:=e
 refine hQ _ _ ?_
 exact .many (.inl rfl) rfl rfl (.agg (.d rfl rfl (.d rfl rfl (.d rfl rfl (.d rfl rfl (.nil))))) (.ref rfl rfl (by rw[←hob];rfl) (.d rfl rfl (.nil))))
 conv=>cbv
 have e:((⟨aa,ab,ac,ad⟩:Bp),af,true)=C9 b:=(by unfold C9;rw[ag];simp only[];rw[if_pos ⟨trivial,trivial,ai.trans h3⟩])
 rw[hr]at e
 simp only[Prod.mk.injEq,Bp.mk.injEq]at e
 obtain⟨⟨rfl,rfl,rfl,rfl⟩,rfl,rfl⟩:=e
 refine hQ _ _ ?_
 exact .many (.inl rfl) rfl rfl (.agg (.d rfl rfl (.d rfl rfl (.d rfl rfl (.d rfl rfl (.nil))))) (.d rfl (Bf ae hob) (.d rfl rfl (.nil))))
theorem Xb7(hn:b.size<2^40)(hr:C9 b=(⟨oaver,oastr,oabas,oalin⟩,ob,oc))(hob:ob.map cS=xob):Fn Tryz.prog 284 [S b] [] ⟨.tup [.agg [I oaver,I oastr,I oabas,I oalin],.d (.row 1 xob),B oc],[],[]⟩:=by
 refine Fn.go Uj Tryz.func284 fun P hP Q hQ=>?_
 conv=>cbv
 rcases af:As b with⟨al,⟨aa,ab,ac,ad⟩,ag,aj,ao,ak⟩
 generalize ae:ag.map cS=am
 generalize ai:aj.map cI=an
 refine .dd hP (Pk (by omega) af ae ai) ?_
 conv=>cbv
 cases al
 conv=>cbv
 have e:((⟨0,0,0,0⟩:Bp),[],false)=C9 b:=(by unfold C9;rw[af];simp only[];rw[if_neg];rintro⟨q,_⟩;cases q)
 rw[hr]at e
 simp only[Prod.mk.injEq,Bp.mk.injEq]at e
 obtain⟨⟨rfl,rfl,rfl,rfl⟩,rfl,rfl⟩:=e
 refine hQ _ _ ?_
 exact .many (.inl rfl) rfl rfl (.agg (.d rfl rfl (.d rfl rfl (.d rfl rfl (.d rfl rfl (.nil))))) (.ref rfl rfl (by rw[←hob];rfl) (.d rfl rfl (.nil))))
 conv=>cbv
 have zl:=Gi (b:=b)
 rw[af]at zl
 simp only[]at zl
 generalize ah:B7 (⟨aa,ab,ac,ad⟩:Bp) ag=r2
 have zr2:=Fj ah
 refine .dd hP (Ml ae (by omega) ah) ?_
 conv=>cbv
 refine .neq (fun h3=>?_) fun h3=>?_
 conv=>cbv
 have e:((⟨0,0,0,0⟩:Bp),[],false)=C9 b:=(by unfold C9;rw[af];simp only[];rw[if_neg];rintro⟨_,_,q⟩;exact h3 (ah.symm.trans q))
 rw[hr]at e
 simp only[Prod.mk.injEq,Bp.mk.injEq]at e
 obtain⟨⟨rfl,rfl,rfl,rfl⟩,rfl,rfl⟩:=e
 refine hQ _ _ ?_
 exact .many (.inl rfl) rfl rfl (.agg (.d rfl rfl (.d rfl rfl (.d rfl rfl (.d rfl rfl (.nil))))) (.ref rfl rfl (by rw[←hob];rfl) (.d rfl rfl (.nil))))
 conv=>cbv
 have hm:ak=true:=by
  have:=XeB (b:=b) (by rw[af]) (by rw[af];exact ah.trans h3)
  rw[af]at this
  exact this
 have e:((⟨aa,ab,ac,ad⟩:Bp),ag,true)=C9 b:=(by unfold C9;rw[af];simp only[];rw[if_pos ⟨trivial,hm,ah.trans h3⟩])
 rw[hr]at e
 simp only[Prod.mk.injEq,Bp.mk.injEq]at e
 obtain⟨⟨rfl,rfl,rfl,rfl⟩,rfl,rfl⟩:=e
 refine hQ _ _ ?_
 exact .many (.inl rfl) rfl rfl (.agg (.d rfl rfl (.d rfl rfl (.d rfl rfl (.d rfl rfl (.nil))))) (.d rfl (Bf ae hob) (.d rfl rfl (.nil))))
theorem Xg1(hn:b.size<2^40)(hr:Ij b=o):Fn Tryz.prog 221 [S b] [] ⟨B o,[],[]⟩:=by
 refine Fn.go Uj Tryz.func221 fun P hP Q hQ=>?_
 conv=>cbv
 rcases aa:C9 b with⟨⟨ac,ad,ae,af⟩,ag,ah⟩
 generalize ab:ag.map cS=ai
 refine .dd hP (Xb7 (by omega) aa ab) ?_
 conv=>cbv
 have e:ah=Ij b:=(by unfold Ij;rw[aa])
 rw[hr]at e
 subst e
 exact hQ _ _ (.b rfl rfl)
theorem Xgp(hn:b.size<2^40)(hr:Ij b=o):Fn Tryz.prog 142 [S b] [] ⟨B o,[],[]⟩:=by
 refine Fn.go Uj Tryz.func142 fun P hP Q hQ=>?_
 conv=>cbv
 rcases aa:C9 b with⟨⟨ac,ad,ae,af⟩,ag,ah⟩
 generalize ab:ag.map cS=ai
 refine .dd hP (Xcx (by omega) aa ab) ?_
 conv=>cbv
 have e:ah=Ij b:=(by unfold Ij;rw[aa])
 rw[hr]at e
 subst e
 exact hQ _ _ (.b rfl rfl)
end
end Go.Proofs.YtgdmjbcllgmepaaGreatDoor.Ab
