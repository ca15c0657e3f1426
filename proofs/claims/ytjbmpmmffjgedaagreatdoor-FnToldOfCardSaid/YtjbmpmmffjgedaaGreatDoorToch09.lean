/- What functions of the program come to, for all arguments in the given bounds. -/
import Derived.Test.YtjbmpmmffjgedaaGreatDoorToch01a
set_option linter.unusedVariables false
set_option linter.unusedSimpArgs false
namespace Go.Proofs.YtjbmpmmffjgedaaGreatDoor.Ab
section
open Go Go.Proofs
set_option maxRecDepth 20000
set_option maxHeartbeats 4000000
def XeP:List (Nat×TyRow):=[ty3,ty5,ty9,XiF]
theorem Xcs:Bl Tryz.prog XeP:=Bl.of (by kernel_rfl)
theorem L0:Setup Tryz.prog XeP:=⟨Xcs,mixed⟩
def Ds(s p:ByteArray):Bool:=decide (s.extract 0 p.size=p)
def F8(b:ByteArray)(p:Int)(t:ByteArray):Bool:=decide ((0≤p∧p+t.size≤b.size)∧b.extract p.toNat (p.toNat+t.size)=t)
theorem T8{s:ByteArray}{i j:Nat}(h:i≤j)(h2:j≤s.size):(s.extract i j).size=j - i:=by
 rw[ByteArray.size_extract]
 omega
theorem Xk7{s:ByteArray}{i k:Nat}(h:i≤s.size):(s.extract i s.size).extract 0 k=s.extract i (i+k):=by
 rw[Xei,Xei,Xei s i (i+k),Ud,List.drop_zero,Nat.sub_zero,List.take_take,Nat.add_sub_cancel_left]
 congr 1
 have:(s.data.toList.drop i).length=s.size - i:=by rw[List.length_drop,Iv]
 by_cases hk:k≤s.size - i
 ·rw[Nat.min_eq_left hk]
 ·rw[Nat.min_eq_right (by omega),List.take_of_length_le (by omega),List.take_of_length_le (by omega)]
theorem Yv{s p:ByteArray}(h:Ds s p=true):p.size≤s.size:=by
 have:=of_decide_eq_true h
 have h2:=congrArg ByteArray.size this
 rw[ByteArray.size_extract]at h2
 omega
theorem V8(n:Int)(h:0≤n∧n<4294967296):(Ap n 4).size=4:=Re ⟨h.1,by omega,by omega,Nat.div_eq_of_lt (show n.toNat<2^ (8*4)by omega)⟩
theorem P1{v n:Int}{r:ByteArray}(hv:v=1∨v=2)(hn:0≤n∧n≤1000000000)(hr:r.size≤60):Ai v n r≠tx []:=by
 unfold Ai
 rw[if_pos ⟨hv,hn,hr⟩]
 intro h
 have:=congrArg ByteArray.size h
 rw[ByteArray.size_append,V8 _ (U2 r),A3]at this
 simp at this
theorem Jz{v n:Int}{r:ByteArray}(h:¬((v=1∨v=2)∧0≤n∧n≤1000000000)):Ai v n r=tx []:=if_neg (fun hh=>h ⟨hh.1,hh.2.1⟩)
def Hz(v n:Int)(b:ByteArray)(p x q:Int):ByteArray×Int×Bool:=
 if x≤60∧q+x≤b.size∧Ai v n (b.extract q.toNat (q+x).toNat)≠tx []∧F8 b p (Ai v n (b.extract q.toNat (q+x).toNat))=true then
  (b.extract q.toNat (q+x).toNat,p+(Ai v n (b.extract q.toNat (q+x).toNat)).size,true)else(tx [],0,false)
def Au(v n:Int)(b:ByteArray)(p:Int):ByteArray×Int×Bool:=
 if v=2 then(if(Bp b p 4).2=true then Hz v n b p (Bp b p 4).1 (p+8)else(tx [],0,false))
 else(if(Ci b p).2.2=true then Hz v n b p (Ci b p).1 (Ci b p).2.1 else(tx [],0,false))
theorem J3{v n p x:Int}{b:ByteArray}{ok:Bool}(h1:v=2)(h:Bp b p 4=(x,ok)):Au v n b p=if ok=true then Hz v n b p x (p+8)else(tx [],0,false):=by
 unfold Au
 rw[if_pos h1,h]
theorem Jv{v n p x q:Int}{b:ByteArray}{ok:Bool}(h1:v≠2)(h:Ci b p=(x,q,ok)):Au v n b p=if ok=true then Hz v n b p x q else(tx [],0,false):=by
 unfold Au
 rw[if_neg h1,h]
theorem Lz{b:ByteArray}{p w x:Int}(h:Bp b p w=(x,true)):(1≤w∧w≤8)∧0≤p∧p+w≤b.size∧0≤x∧x<9223372036854775808:=by
 unfold Bp at h
 split at h
 ·split at h
  ·simp only[Prod.mk.injEq,and_true]at h
   omega
  ·simp at h
 ·simp at h
theorem XdS:∀{f:Nat} {l:List UInt8} {n k:Nat},Pe f l=some (n,k)→1≤k∧k≤l.length
 |0,l,n,k,h=>by simp[Pe]at h
 |f+1,[],n,k,h=>by simp[Pe]at h
 |f+1,x::l,n,k,h=>by
  simp only[Pe]at h
  split at h
  ·simp only[Option.some.injEq,Prod.mk.injEq]at h
   simp
   omega
  ·split at h
   ·rename_i m j hm
    have:=XdS hm
    split at h
    ·cases h
    ·simp only[Option.some.injEq,Prod.mk.injEq]at h
     simp
     omega
   ·cases h
theorem L6{b:ByteArray}{p x q:Int}(h:Ci b p=(x,q,true)):0≤p∧p<q∧q≤b.size∧0≤x∧x≤1000000000:=by
 unfold Ci at h
 split at h
 ·split at h
  ·rename_i n k hv
   have:=XdS hv
   rw[List.length_drop,Iv]at this
   split at h
   ·simp only[Prod.mk.injEq,and_true]at h
    omega
   ·simp at h
  ·simp at h
 ·simp at h
theorem Lc{v n p x q:Int}{b:ByteArray}(h:¬(x≤60∧q+x≤b.size)):(tx [],0,false)=Hz v n b p x q:=(if_neg (fun hh=>h ⟨hh.1,hh.2.1⟩)).symm
theorem Wu{v n p x q:Int}{b t:ByteArray}(h:Ai v n (b.extract q.toNat (q+x).toNat)=t)(h2:t=tx []∨F8 b p t=false):(tx [],0,false)=Hz v n b p x q:=by
 unfold Hz
 rw[h,if_neg]
 rintro⟨_,_,h3,h4⟩
 rcases h2 with h2|h2
 ·exact h3 h2
 ·rw[h2]at h4;cases h4
theorem Xel{v n p x q:Int}{b t:ByteArray}(hx:x≤60∧q+x≤b.size)(h:Ai v n (b.extract q.toNat (q+x).toNat)=t)(h2:t≠tx [])(h3:F8 b p t=true):(b.extract q.toNat (q+x).toNat,p+(t.size:Int),true)=Hz v n b p x q:=by
 unfold Hz
 rw[h,if_pos ⟨hx.1,hx.2,h2,h3⟩]
def D7(v n:Int)(b:ByteArray)(p:Int):Bool:=decide (Cf v n≠tx [])&&F8 b p (Cf v n)
theorem Xkb{v n p:Int}{b:ByteArray}(h:¬((v=1∨v=2)∧0≤n∧n≤1000000000)):(tx [],0,false)=Au v n b p:=by
 unfold Au
 split
 ·split
  ·exact Wu (Jz h) (.inl rfl)
  ·rfl
 ·split
  ·exact Wu (Jz h) (.inl rfl)
  ·rfl
theorem Xlr{v n p:Int}{b:ByteArray}(h:¬(0≤p∧p≤b.size)):(tx [],0,false)=Au v n b p:=by
 rcases h1:Bp b p 4 with⟨x,ok⟩
 rcases h2:Ci b p with⟨y,q,ok2⟩
 by_cases hv:v=2
 ·rw[J3 hv h1]
  cases ok
  ·rfl
  ·have:=Lz h1;omega
 ·rw[Jv hv h2]
  cases ok2
  ·rfl
  ·have:=L6 h2;omega
def bAt(b:ByteArray)(i:Nat):Int:=(((b.data.toList[i]?).getD 0).toNat:Nat)
theorem XaZ{b:ByteArray}{i:Nat}(h:i<b.size):((b[i].toNat:Nat):Int)=bAt b i:=by
 unfold bAt
 rw[Z4 h,List.getElem?_eq_getElem (by rw[Iv];exact h)]
 rfl
def Bx(b:ByteArray):A0×Bool:=
 if 24≤b.size∧(Bp b 8 8).2=true∧Bj ⟨bAt b 4,bAt b 5,(Bp b 8 8).1,(Bp b 16 4).1⟩=b.extract 0 24 then(⟨bAt b 4,bAt b 5,(Bp b 8 8).1,(Bp b 16 4).1⟩,true)else(⟨0,0,0,0⟩,false)
theorem G9{b:ByteArray}{h:A0}(e:Bx b=(h,true)):24≤b.size∧Bj h=b.extract 0 24∧Ct h=true:=by
 unfold Bx at e
 split at e
 ·rename_i hh
  simp only[Prod.mk.injEq,and_true]at e
  rw[←e]
  refine⟨hh.1,hh.2.2,?_⟩
  by_cases hk:Ct ⟨bAt b 4,bAt b 5,(Bp b 8 8).1,(Bp b 16 4).1⟩=true
  ·exact hk
  ·have h2:=hh.2.2
   unfold Bj at h2
   rw[if_neg hk]at h2
   have:=congrArg ByteArray.size h2
   rw[A3,T8 (by omega) (by omega)]at this
   simp at this
 ·simp at e
variable {s b oa:ByteArray} {p v n oaver oastr oabas oalin:Int} {o ob oc:Bool}
theorem H5{p:ByteArray}(hs:s.size<2^47)(hr:Ds s p=o):Fn Tryz.prog 322 [S s,S p] [] ⟨B o,[],[]⟩:=by
 refine Fn.go L0 Tryz.func322 fun P hP Q hQ=>?_
 conv=>cbv
 refine .go fun v1 ab=>?_
 conv=>cbv
 refine .go fun v2 ac=>?_
 conv=>cbv
 refine .geq (fun h3=>?_) fun h3=>?_
 conv=>cbv
 refine .go fun v4 ad=>?_
 conv=>cbv
 refine .hi fun s5 aa=>?_
 conv=>cbv
 refine .eql (fun h6=>?_) fun h6=>?_
 conv=>cbv
 have e:true=Ds s p:=(by unfold Ds;symm;rw[decide_eq_true_eq,show p.size=v4.toNat by omega,←aa];exact h6)
 rw[hr]at e
 subst e
 exact hQ _ _ (.b rfl rfl)
 conv=>cbv
 have e:false=Ds s p:=(by unfold Ds;symm;rw[decide_eq_false_iff_not];intro h;refine h6 ?_;rw[aa,show v4.toNat=p.size by omega];exact h)
 rw[hr]at e
 subst e
 exact hQ _ _ (.b rfl rfl)
 conv=>cbv
 have e:false=Ds s p:=(by symm;cases hh:Ds s p;rfl;have:=Yv hh;omega)
 rw[hr]at e
 subst e
 exact hQ _ _ (.b rfl rfl)
theorem Pl{p:ByteArray}(hs:s.size<2^47)(hr:Ds s p=o):Fn Tryz.prog 291 [S s,S p] [] ⟨B o,[],[]⟩:=by
 refine Fn.go L0 Tryz.func291 fun P hP Q hQ=>?_
 conv=>cbv
 generalize aa:Ds s p=r1
 refine .dd hP (H5 (by omega) aa) ?_
 cases r1
 conv=>cbv
 have e:false=Ds s p:=(by exact aa.symm)
 rw[hr]at e
 subst e
 exact hQ _ _ (.b rfl rfl)
 conv=>cbv
 have e:true=Ds s p:=(by exact aa.symm)
 rw[hr]at e
 subst e
 exact hQ _ _ (.b rfl rfl)
theorem XdB{t:ByteArray}(hs:b.size<2^47)(hr:F8 b p t=o):Fn Tryz.prog 282 [S b,I p,S t] [] ⟨B o,[],[]⟩:=by
 refine Fn.go L0 Tryz.func282 fun P hP Q hQ=>?_
 conv=>cbv
 refine .go fun v1 ad=>?_
 conv=>cbv
 generalize aa:Ch p 0 v1=r2
 refine .dd hP (Iu aa) ?_
 cases r2
 simp only[Ch,decide_eq_true_eq,decide_eq_false_iff_not]at aa
 conv=>cbv
 have e:false=F8 b p t:=(by unfold F8;symm;rw[decide_eq_false_iff_not];intro h;omega)
 rw[hr]at e
 subst e
 exact hQ _ _ (.b rfl rfl)
 simp only[Ch,decide_eq_true_eq,decide_eq_false_iff_not]at aa
 conv=>cbv
 refine .lo fun s3 ac=>?_
 conv=>cbv
 have z3:s3.size≤b.size:=by rw[ac,ByteArray.size_extract];omega
 have key:Ds s3 t=F8 b p t:=by
  unfold Ds F8
  rw[ac,Xk7 (by omega)]
  simp only[decide_eq_decide]
  constructor
  ·intro h;refine⟨?_,h⟩;have h2:=congrArg ByteArray.size h;rw[ByteArray.size_extract]at h2;omega
  ·intro h;exact h.2
 generalize ab:Ds s3 t=r4
 refine .dd hP (Pl (by omega) ab) ?_
 cases r4
 conv=>cbv
 have e:false=F8 b p t:=(by rw[←key];exact ab.symm)
 rw[hr]at e
 subst e
 exact hQ _ _ (.b rfl rfl)
 conv=>cbv
 have e:true=F8 b p t:=(by rw[←key];exact ab.symm)
 rw[hr]at e
 subst e
 exact hQ _ _ (.b rfl rfl)
theorem Xjw(hs:b.size<2^47)(hp: -140737488355328≤p∧p<140737488355328)(hr:D7 v n b p=o):Fn Tryz.prog 234 [I v,I n,S b,I p] [] ⟨B o,[],[]⟩:=by
 refine Fn.go L0 Tryz.func234 fun P hP Q hQ=>?_
 conv=>cbv
 generalize aa:Cf v n=r1
 have zr1:=Lq aa
 refine .dd hP (XbE aa) ?_
 conv=>cbv
 refine .neq (fun h2=>?_) fun h2=>?_
 conv=>cbv
 generalize ab:F8 b p r1=r3
 refine .dd hP (XdB (by omega) ab) ?_
 cases r3
 conv=>cbv
 have e:false=D7 v n b p:=(by unfold D7;rw[aa];simp[show r1≠tx []from h2,ab])
 rw[hr]at e
 subst e
 exact hQ _ _ (.b rfl rfl)
 conv=>cbv
 have e:true=D7 v n b p:=(by unfold D7;rw[aa];simp[show r1≠tx []from h2,ab])
 rw[hr]at e
 subst e
 exact hQ _ _ (.b rfl rfl)
 conv=>cbv
 have e:false=D7 v n b p:=(by unfold D7;rw[aa];simp[show r1=tx []from h2])
 rw[hr]at e
 subst e
 exact hQ _ _ (.b rfl rfl)
theorem Xjx(hs:b.size<2^47)(hp: -140737488355328≤p∧p<140737488355328)(hr:D7 v n b p=o):Fn Tryz.prog 151 [I v,I n,S b,I p] [] ⟨B o,[],[]⟩:=by
 refine Fn.go L0 Tryz.func151 fun P hP Q hQ=>?_
 conv=>cbv
 generalize aa:Cf v n=r1
 have zr1:=Lq aa
 refine .dd hP (Xcd aa) ?_
 conv=>cbv
 refine .neq (fun h2=>?_) fun h2=>?_
 conv=>cbv
 refine .go fun v3 ad=>?_
 conv=>cbv
 refine .go fun v4 ae=>?_
 conv=>cbv
 refine .sub fun v5 af=>?_
 conv=>cbv
 generalize ab:Av p 0 v5=r6
 refine .dd hP (Cz ab) ?_
 cases r6
 simp only[Av,decide_eq_true_eq,decide_eq_false_iff_not]at ab
 conv=>cbv
 have e:false=D7 v n b p:=(by unfold D7 F8;rw[aa];symm;simp;omega)
 rw[hr]at e
 subst e
 exact hQ _ _ (.b rfl rfl)
 simp only[Av,decide_eq_true_eq,decide_eq_false_iff_not]at ab
 conv=>cbv
 refine .go fun v7 ag=>?_
 conv=>cbv
 refine .add fun v8 ah=>?_
 conv=>cbv
 refine .lohi fun s9 ac=>?_
 conv=>cbv
 refine .eql (fun h10=>?_) fun h10=>?_
 conv=>cbv
 have e:true=D7 v n b p:=(by unfold D7 F8;rw[aa,ac,show v8.toNat=p.toNat+r1.size by omega]at*;symm;simp[h10,show r1≠tx []from h2];omega)
 rw[hr]at e
 subst e
 exact hQ _ _ (.b rfl rfl)
 conv=>cbv
 have e:false=D7 v n b p:=(by unfold D7 F8;rw[aa];rw[ac,show v8.toNat=p.toNat+r1.size by omega]at h10;symm;simp[h10])
 rw[hr]at e
 subst e
 exact hQ _ _ (.b rfl rfl)
 conv=>cbv
 have e:false=D7 v n b p:=(by unfold D7;rw[aa];simp[show r1=tx []from h2])
 rw[hr]at e
 subst e
 exact hQ _ _ (.b rfl rfl)
theorem W0(hs:b.size<2^47)(hr:Bx b=(⟨oaver,oastr,oabas,oalin⟩,ob)):Fn Tryz.prog 233 [S b] [] ⟨.tup [.agg [I oaver,I oastr,I oabas,I oalin],B ob],[],[]⟩:=by
 refine Fn.go L0 Tryz.func233 fun P hP Q hQ=>?_
 conv=>cbv
 refine .go fun v1 al=>?_
 conv=>cbv
 refine .lss (fun h2=>?_) fun h2=>?_
 conv=>cbv
 have e:((⟨0,0,0,0⟩:A0),false)=Bx b:=(by unfold Bx;rw[if_neg (by omega)])
 rw[hr]at e
 simp only[Prod.mk.injEq,A0.mk.injEq]at e
 obtain⟨⟨rfl,rfl,rfl,rfl⟩,rfl⟩:=e
 refine hQ _ _ ?_
 exact .many (.inl rfl) rfl rfl (.agg (.d rfl rfl (.d rfl rfl (.d rfl rfl (.d rfl rfl (.nil))))) (.d rfl rfl (.nil)))
 conv=>cbv
 rcases aa:Bp b 8 8 with⟨ae,ag⟩
 refine .dd hP (U9 (by omega) aa) ?_
 conv=>cbv
 rcases ab:Bp b 16 4 with⟨af,am⟩
 refine .dd hP (U9 (by omega) ab) ?_
 conv=>cbv
 refine .go 4 fun hjv5 v5 ah bv5=>?_
 conv=>cbv
 refine .id fun v6 ai=>?_
 conv=>cbv
 refine .go 5 fun hjv7 v7 aj bv7=>?_
 conv=>cbv
 refine .id fun v8 ak=>?_
 conv=>cbv
 cases ag
 conv=>cbv
 have e:((⟨0,0,0,0⟩:A0),false)=Bx b:=(by unfold Bx;rw[aa,ab,if_neg];simp)
 rw[hr]at e
 simp only[Prod.mk.injEq,A0.mk.injEq]at e
 obtain⟨⟨rfl,rfl,rfl,rfl⟩,rfl⟩:=e
 refine hQ _ _ ?_
 exact .many (.inl rfl) rfl rfl (.agg (.d rfl rfl (.d rfl rfl (.d rfl rfl (.d rfl rfl (.nil))))) (.d rfl rfl (.nil)))
 conv=>cbv
 have e4:v6=bAt b 4:=by rw[ai,ah,XaZ]
 have e5:v8=bAt b 5:=by rw[ak,aj,XaZ]
 generalize ac:Bj (⟨v6,v8,ae,af⟩:A0)=r9
 have zr9:=G8 ac
 refine .dd hP (Xl ac) ?_
 conv=>cbv
 refine .hi fun an ad=>?_
 conv=>cbv
 refine .neq (fun h11=>?_) fun h11=>?_
 conv=>cbv
 have e:((⟨0,0,0,0⟩:A0),false)=Bx b:=(by unfold Bx;rw[aa,ab,if_neg];rintro⟨_,_,h⟩;refine h11 ?_;rw[←ac,ad,e4,e5];exact h)
 rw[hr]at e
 simp only[Prod.mk.injEq,A0.mk.injEq]at e
 obtain⟨⟨rfl,rfl,rfl,rfl⟩,rfl⟩:=e
 refine hQ _ _ ?_
 exact .many (.inl rfl) rfl rfl (.agg (.d rfl rfl (.d rfl rfl (.d rfl rfl (.d rfl rfl (.nil))))) (.d rfl rfl (.nil)))
 conv=>cbv
 have e:((⟨v6,v8,ae,af⟩:A0),true)=Bx b:=(by unfold Bx;rw[aa,ab,←e4,←e5,if_pos];refine⟨by omega,rfl,?_⟩;rw[ac,h11,ad];rfl)
 rw[hr]at e
 simp only[Prod.mk.injEq,A0.mk.injEq]at e
 obtain⟨⟨rfl,rfl,rfl,rfl⟩,rfl⟩:=e
 refine hQ _ _ ?_
 exact .many (.inl rfl) rfl rfl (.agg (.d rfl rfl (.d rfl rfl (.d rfl rfl (.d rfl rfl (.nil))))) (.d rfl rfl (.nil)))
theorem X6(hs:b.size<2^47)(hr:Bx b=(⟨oaver,oastr,oabas,oalin⟩,ob)):Fn Tryz.prog 16 [S b] [] ⟨.tup [.agg [I oaver,I oastr,I oabas,I oalin],B ob],[],[]⟩:=by
 refine Fn.go L0 Tryz.func16 fun P hP Q hQ=>?_
 conv=>cbv
 refine .go fun v1 al=>?_
 conv=>cbv
 refine .lss (fun h2=>?_) fun h2=>?_
 conv=>cbv
 have e:((⟨0,0,0,0⟩:A0),false)=Bx b:=(by unfold Bx;rw[if_neg (by omega)])
 rw[hr]at e
 simp only[Prod.mk.injEq,A0.mk.injEq]at e
 obtain⟨⟨rfl,rfl,rfl,rfl⟩,rfl⟩:=e
 refine hQ _ _ ?_
 exact .many (.inl rfl) rfl rfl (.agg (.d rfl rfl (.d rfl rfl (.d rfl rfl (.d rfl rfl (.nil))))) (.d rfl rfl (.nil)))
 conv=>cbv
 rcases aa:Bp b 8 8 with⟨ae,ag⟩
 refine .dd hP (Vu (by omega) aa) ?_
 conv=>cbv
 rcases ab:Bp b 16 4 with⟨af,am⟩
 refine .dd hP (Vu (by omega) ab) ?_
 conv=>cbv
 refine .go 4 fun hjv5 v5 ah bv5=>?_
 conv=>cbv
 refine .id fun v6 ai=>?_
 conv=>cbv
 refine .go 5 fun hjv7 v7 aj bv7=>?_
 conv=>cbv
 refine .id fun v8 ak=>?_
 conv=>cbv
 cases ag
 conv=>cbv
 have e:((⟨0,0,0,0⟩:A0),false)=Bx b:=(by unfold Bx;rw[aa,ab,if_neg];simp)
 rw[hr]at e
 simp only[Prod.mk.injEq,A0.mk.injEq]at e
 obtain⟨⟨rfl,rfl,rfl,rfl⟩,rfl⟩:=e
 refine hQ _ _ ?_
 exact .many (.inl rfl) rfl rfl (.agg (.d rfl rfl (.d rfl rfl (.d rfl rfl (.d rfl rfl (.nil))))) (.d rfl rfl (.nil)))
 conv=>cbv
 have e4:v6=bAt b 4:=by rw[ai,ah,XaZ]
 have e5:v8=bAt b 5:=by rw[ak,aj,XaZ]
 generalize ac:Bj (⟨v6,v8,ae,af⟩:A0)=r9
 have zr9:=G8 ac
 refine .dd hP (Sb ac) ?_
 conv=>cbv
 refine .hi fun an ad=>?_
 conv=>cbv
 refine .neq (fun h11=>?_) fun h11=>?_
 conv=>cbv
 have e:((⟨0,0,0,0⟩:A0),false)=Bx b:=(by unfold Bx;rw[aa,ab,if_neg];rintro⟨_,_,h⟩;refine h11 ?_;rw[←ac,ad,e4,e5];exact h)
 rw[hr]at e
 simp only[Prod.mk.injEq,A0.mk.injEq]at e
 obtain⟨⟨rfl,rfl,rfl,rfl⟩,rfl⟩:=e
 refine hQ _ _ ?_
 exact .many (.inl rfl) rfl rfl (.agg (.d rfl rfl (.d rfl rfl (.d rfl rfl (.d rfl rfl (.nil))))) (.d rfl rfl (.nil)))
 conv=>cbv
 have e:((⟨v6,v8,ae,af⟩:A0),true)=Bx b:=(by unfold Bx;rw[aa,ab,←e4,←e5,if_pos];refine⟨by omega,rfl,?_⟩;rw[ac,h11,ad];rfl)
 rw[hr]at e
 simp only[Prod.mk.injEq,A0.mk.injEq]at e
 obtain⟨⟨rfl,rfl,rfl,rfl⟩,rfl⟩:=e
 refine hQ _ _ ?_
 exact .many (.inl rfl) rfl rfl (.agg (.d rfl rfl (.d rfl rfl (.d rfl rfl (.d rfl rfl (.nil))))) (.d rfl rfl (.nil)))
theorem XcZ{ob:Int}(hs:b.size<2^47)(hp: -140737488355328≤p∧p<140737488355328)(hr:Au v n b p=(oa,ob,oc)):Fn Tryz.prog 235 [I v,I n,S b,I p] [] ⟨.tup [S oa,I ob,B oc],[],[]⟩:=by
 refine Fn.go L0 Tryz.func235 fun P hP Q hQ=>?_
 conv=>cbv
 refine .eql (fun h1=>?_) fun h1=>?_
 conv=>cbv
 rcases aa:Bp b p 4 with⟨al,ag⟩
 refine .dd hP (U9 (by omega) aa) ?_
 conv=>cbv
 refine .add fun v3 au=>?_
 conv=>cbv
 cases ag
 conv=>cbv
 have e:((tx []),0,false)=Au v n b p:=(by rw[J3 h1 aa];rfl)
 rw[hr]at e
 simp only[Prod.mk.injEq]at e
 obtain⟨rfl,rfl,rfl⟩:=e
 refine hQ _ _ ?_
 exact .many (.inl rfl) rfl rfl (.d rfl rfl (.d rfl rfl (.d rfl rfl (.nil))))
 conv=>cbv
 have zz:=Lz aa
 refine .gtr (fun h4=>?_) fun h4=>?_
 conv=>cbv
 have e:((tx []),0,false)=Au v n b p:=(by rw[J3 h1 aa];rw[if_pos rfl];exact Lc (by omega))
 rw[hr]at e
 simp only[Prod.mk.injEq]at e
 obtain⟨rfl,rfl,rfl⟩:=e
 refine hQ _ _ ?_
 exact .many (.inl rfl) rfl rfl (.d rfl rfl (.d rfl rfl (.d rfl rfl (.nil))))
 conv=>cbv
 refine .go fun v5 a8=>?_
 conv=>cbv
 refine .gtr (fun h6=>?_) fun h6=>?_
 conv=>cbv
 have e:((tx []),0,false)=Au v n b p:=(by rw[J3 h1 aa];rw[if_pos rfl];exact Lc (by omega))
 rw[hr]at e
 simp only[Prod.mk.injEq]at e
 obtain⟨rfl,rfl,rfl⟩:=e
 refine hQ _ _ ?_
 exact .many (.inl rfl) rfl rfl (.d rfl rfl (.d rfl rfl (.d rfl rfl (.nil))))
 conv=>cbv
 refine .go fun v7 aw=>?_
 conv=>cbv
 refine .sub fun v8 ba=>?_
 conv=>cbv
 refine .gtr (fun h9=>?_) fun h9=>?_
 conv=>cbv
 have e:((tx []),0,false)=Au v n b p:=(by rw[J3 h1 aa];rw[if_pos rfl];exact Lc (by omega))
 rw[hr]at e
 simp only[Prod.mk.injEq]at e
 obtain⟨rfl,rfl,rfl⟩:=e
 refine hQ _ _ ?_
 exact .many (.inl rfl) rfl rfl (.d rfl rfl (.d rfl rfl (.d rfl rfl (.nil))))
 conv=>cbv
 refine .add fun bb ao=>?_
 conv=>cbv
 refine .lohi fun ah aj=>?_
 conv=>cbv
 have bc:ah.size≤b.size:=by rw[aj,ByteArray.size_extract];omega
 have am:ah=b.extract (p+8).toNat (p+8+al).toNat:=by rw[aj,ao,au]
 generalize ab:Ai v n ah=ax
 have zr12:=D9 ab
 refine .dd hP (Pd (by omega) ab) ?_
 conv=>cbv
 refine .eql (fun h13=>?_) fun h13=>?_
 conv=>cbv
 have e:((tx []),0,false)=Au v n b p:=(by rw[J3 h1 aa];rw[if_pos rfl];rw[am]at ab;exact Wu ab (.inl h13))
 rw[hr]at e
 simp only[Prod.mk.injEq]at e
 obtain⟨rfl,rfl,rfl⟩:=e
 refine hQ _ _ ?_
 exact .many (.inl rfl) rfl rfl (.d rfl rfl (.d rfl rfl (.d rfl rfl (.nil))))
 conv=>cbv
 generalize ad:F8 b p ax=ay
 refine .dd hP (XdB (by omega) ad) ?_
 cases ay
 conv=>cbv
 have e:((tx []),0,false)=Au v n b p:=(by rw[J3 h1 aa];rw[if_pos rfl];rw[am]at ab;exact Wu ab (.inr ad))
 rw[hr]at e
 simp only[Prod.mk.injEq]at e
 obtain⟨rfl,rfl,rfl⟩:=e
 refine hQ _ _ ?_
 exact .many (.inl rfl) rfl rfl (.d rfl rfl (.d rfl rfl (.d rfl rfl (.nil))))
 conv=>cbv
 refine .go fun ap ae=>?_
 conv=>cbv
 refine .add fun az aq=>?_
 conv=>cbv
 have e:(ah,az,true)=Au v n b p:=(by rw[J3 h1 aa];rw[if_pos rfl];rw[am]at ab⊢;rw[aq,ae];exact Xel (by omega) ab h13 ad)
 rw[hr]at e
 simp only[Prod.mk.injEq]at e
 obtain⟨rfl,rfl,rfl⟩:=e
 refine hQ _ _ ?_
 exact .many (.inl rfl) rfl rfl (.d rfl rfl (.d rfl rfl (.d rfl rfl (.nil))))
 conv=>cbv
 rcases aa:Ci b p with⟨al,ag,a1⟩
 refine .dd hP (Xiy (by omega) aa) ?_
 conv=>cbv
 cases a1
 conv=>cbv
 have e:((tx []),0,false)=Au v n b p:=(by rw[Jv h1 aa];rfl)
 rw[hr]at e
 simp only[Prod.mk.injEq]at e
 obtain⟨rfl,rfl,rfl⟩:=e
 refine hQ _ _ ?_
 exact .many (.inl rfl) rfl rfl (.d rfl rfl (.d rfl rfl (.d rfl rfl (.nil))))
 conv=>cbv
 have zz:=L6 aa
 refine .gtr (fun h3=>?_) fun h3=>?_
 conv=>cbv
 have e:((tx []),0,false)=Au v n b p:=(by rw[Jv h1 aa];rw[if_pos rfl];exact Lc (by omega))
 rw[hr]at e
 simp only[Prod.mk.injEq]at e
 obtain⟨rfl,rfl,rfl⟩:=e
 refine hQ _ _ ?_
 exact .many (.inl rfl) rfl rfl (.d rfl rfl (.d rfl rfl (.d rfl rfl (.nil))))
 conv=>cbv
 refine .go fun v4 bd=>?_
 conv=>cbv
 refine .gtr (fun h5=>?_) fun h5=>?_
 conv=>cbv
 have e:((tx []),0,false)=Au v n b p:=(by rw[Jv h1 aa];rw[if_pos rfl];exact Lc (by omega))
 rw[hr]at e
 simp only[Prod.mk.injEq]at e
 obtain⟨rfl,rfl,rfl⟩:=e
 refine hQ _ _ ?_
 exact .many (.inl rfl) rfl rfl (.d rfl rfl (.d rfl rfl (.d rfl rfl (.nil))))
 conv=>cbv
 refine .go fun v6 be=>?_
 conv=>cbv
 refine .sub fun v7 aw=>?_
 conv=>cbv
 refine .gtr (fun h8=>?_) fun h8=>?_
 conv=>cbv
 have e:((tx []),0,false)=Au v n b p:=(by rw[Jv h1 aa];rw[if_pos rfl];exact Lc (by omega))
 rw[hr]at e
 simp only[Prod.mk.injEq]at e
 obtain⟨rfl,rfl,rfl⟩:=e
 refine hQ _ _ ?_
 exact .many (.inl rfl) rfl rfl (.d rfl rfl (.d rfl rfl (.d rfl rfl (.nil))))
 conv=>cbv
 refine .add fun v9 a2=>?_
 conv=>cbv
 refine .lohi fun ai ak=>?_
 conv=>cbv
 have bf:ai.size≤b.size:=by rw[ak,ByteArray.size_extract];omega
 have an:ai=b.extract ag.toNat (ag+al).toNat:=by rw[ak,a2]
 generalize ac:Ai v n ai=a6
 have zr11:=D9 ac
 refine .dd hP (Pd (by omega) ac) ?_
 conv=>cbv
 refine .eql (fun h12=>?_) fun h12=>?_
 conv=>cbv
 have e:((tx []),0,false)=Au v n b p:=(by rw[Jv h1 aa];rw[if_pos rfl];rw[an]at ac;exact Wu ac (.inl h12))
 rw[hr]at e
 simp only[Prod.mk.injEq]at e
 obtain⟨rfl,rfl,rfl⟩:=e
 refine hQ _ _ ?_
 exact .many (.inl rfl) rfl rfl (.d rfl rfl (.d rfl rfl (.d rfl rfl (.nil))))
 conv=>cbv
 generalize af:F8 b p a6=a7
 refine .dd hP (XdB (by omega) af) ?_
 cases a7
 conv=>cbv
 have e:((tx []),0,false)=Au v n b p:=(by rw[Jv h1 aa];rw[if_pos rfl];rw[an]at ac;exact Wu ac (.inr af))
 rw[hr]at e
 simp only[Prod.mk.injEq]at e
 obtain⟨rfl,rfl,rfl⟩:=e
 refine hQ _ _ ?_
 exact .many (.inl rfl) rfl rfl (.d rfl rfl (.d rfl rfl (.d rfl rfl (.nil))))
 conv=>cbv
 refine .go fun bg ar=>?_
 conv=>cbv
 refine .add fun ap ae=>?_
 conv=>cbv
 have e:(ai,ap,true)=Au v n b p:=(by rw[Jv h1 aa];rw[if_pos rfl];rw[an]at ac⊢;rw[ae,ar];exact Xel (by omega) ac h12 af)
 rw[hr]at e
 simp only[Prod.mk.injEq]at e
 obtain⟨rfl,rfl,rfl⟩:=e
 refine hQ _ _ ?_
 exact .many (.inl rfl) rfl rfl (.d rfl rfl (.d rfl rfl (.d rfl rfl (.nil))))
theorem XbC{b t:ByteArray}{p:Int}(hp:0≤p)(h:(b.size:Int) - p<t.size):F8 b p t=false:=by
 unfold F8
 rw[decide_eq_false_iff_not]
 omega
theorem Qx{b t:ByteArray}{p q:Int}(hp:0≤p)(h:(t.size:Int)≤b.size - p)(hq:q=p+t.size):F8 b p t=true↔b.extract p.toNat q.toNat=t:=by
 unfold F8
 rw[decide_eq_true_eq,show q.toNat=p.toNat+t.size by omega]
 exact⟨fun hh=>hh.2,fun hh=>⟨by omega,hh⟩⟩
theorem Xda{ob:Int}(hs:b.size<2^47)(hp: -140737488355328≤p∧p<140737488355328)(hr:Au v n b p=(oa,ob,oc)):Fn Tryz.prog 152 [I v,I n,S b,I p] [] ⟨.tup [S oa,I ob,B oc],[],[]⟩:=by
 refine Fn.go L0 Tryz.func152 fun P hP Q hQ=>?_
 conv=>cbv
 generalize al:Av v 1 2=r1
 refine .dd hP (Cz al) ?_
 cases r1
 simp only[Av,decide_eq_true_eq,decide_eq_false_iff_not]at al
 conv=>cbv
 have e:((tx []),0,false)=Au v n b p:=(by exact Xkb (by omega))
 rw[hr]at e
 simp only[Prod.mk.injEq]at e
 obtain⟨rfl,rfl,rfl⟩:=e
 refine hQ _ _ ?_
 exact .many (.inl rfl) rfl rfl (.d rfl rfl (.d rfl rfl (.d rfl rfl (.nil))))
 simp only[Av,decide_eq_true_eq,decide_eq_false_iff_not]at al
 conv=>cbv
 generalize am:Av n 0 1000000000=r2
 refine .dd hP (Cz am) ?_
 cases r2
 simp only[Av,decide_eq_true_eq,decide_eq_false_iff_not]at am
 conv=>cbv
 have e:((tx []),0,false)=Au v n b p:=(by exact Xkb (by omega))
 rw[hr]at e
 simp only[Prod.mk.injEq]at e
 obtain⟨rfl,rfl,rfl⟩:=e
 refine hQ _ _ ?_
 exact .many (.inl rfl) rfl rfl (.d rfl rfl (.d rfl rfl (.d rfl rfl (.nil))))
 simp only[Av,decide_eq_true_eq,decide_eq_false_iff_not]at am
 conv=>cbv
 refine .go fun v3 bp=>?_
 conv=>cbv
 generalize an:Av p 0 v3=r4
 refine .dd hP (Cz an) ?_
 cases r4
 simp only[Av,decide_eq_true_eq,decide_eq_false_iff_not]at an
 conv=>cbv
 have e:((tx []),0,false)=Au v n b p:=(by exact Xlr (by omega))
 rw[hr]at e
 simp only[Prod.mk.injEq]at e
 obtain⟨rfl,rfl,rfl⟩:=e
 refine hQ _ _ ?_
 exact .many (.inl rfl) rfl rfl (.d rfl rfl (.d rfl rfl (.d rfl rfl (.nil))))
 simp only[Av,decide_eq_true_eq,decide_eq_false_iff_not]at an
 conv=>cbv
 rcases ac:Ci b p with⟨a8,aq,ba⟩
 refine .dd hP (XgP (by omega) ac) ?_
 conv=>cbv
 refine .eql (fun h6=>?_) fun h6=>?_
 conv=>cbv
 rcases ad:Bp b p 4 with⟨bb,bc⟩
 refine .dd hP (Vu (by omega) ad) ?_
 conv=>cbv
 refine .add fun v8 ar=>?_
 conv=>cbv
 cases bc
 conv=>cbv
 have e:((tx []),0,false)=Au v n b p:=(by rw[J3 h6 ad];rfl)
 rw[hr]at e
 simp only[Prod.mk.injEq]at e
 obtain⟨rfl,rfl,rfl⟩:=e
 refine hQ _ _ ?_
 exact .many (.inl rfl) rfl rfl (.d rfl rfl (.d rfl rfl (.d rfl rfl (.nil))))
 conv=>cbv
 have zz:=Lz ad
 refine .gtr (fun h9=>?_) fun h9=>?_
 conv=>cbv
 have e:((tx []),0,false)=Au v n b p:=(by rw[J3 h6 ad];rw[if_pos rfl];exact Lc (by omega))
 rw[hr]at e
 simp only[Prod.mk.injEq]at e
 obtain⟨rfl,rfl,rfl⟩:=e
 refine hQ _ _ ?_
 exact .many (.inl rfl) rfl rfl (.d rfl rfl (.d rfl rfl (.d rfl rfl (.nil))))
 conv=>cbv
 refine .go fun bq bi=>?_
 conv=>cbv
 refine .sub fun bd ai=>?_
 conv=>cbv
 refine .gtr (fun h12=>?_) fun h12=>?_
 conv=>cbv
 have e:((tx []),0,false)=Au v n b p:=(by rw[J3 h6 ad];rw[if_pos rfl];exact Lc (by omega))
 rw[hr]at e
 simp only[Prod.mk.injEq]at e
 obtain⟨rfl,rfl,rfl⟩:=e
 refine hQ _ _ ?_
 exact .many (.inl rfl) rfl rfl (.d rfl rfl (.d rfl rfl (.d rfl rfl (.nil))))
 conv=>cbv
 refine .add fun bt au=>?_
 conv=>cbv
 refine .lohi fun ae ag=>?_
 conv=>cbv
 have bu:ae.size≤b.size:=by rw[ag,ByteArray.size_extract];omega
 have y14:ae.size≤60:=by rw[ag,ByteArray.size_extract];omega
 have ao:ae=b.extract (p+8).toNat (p+8+bb).toNat:=by rw[ag,au,ar]
 have ne:=P1 (v:=v) (n:=n) (r:=ae) (by omega) (by omega) y14
 generalize aa:Ai v n ae=bv
 have zr15:=D9 aa
 refine .dd hP (Mh (by omega) aa) ?_
 conv=>cbv
 refine .go fun be aw=>?_
 conv=>cbv
 refine .go fun bw bj=>?_
 conv=>cbv
 refine .sub fun bf ax=>?_
 conv=>cbv
 refine .gtr (fun h19=>?_) fun h19=>?_
 conv=>cbv
 have e:((tx []),0,false)=Au v n b p:=(by rw[J3 h6 ad];rw[if_pos rfl];rw[ao]at aa;exact Wu aa (.inr (XbC (by omega) (by omega))))
 rw[hr]at e
 simp only[Prod.mk.injEq]at e
 obtain⟨rfl,rfl,rfl⟩:=e
 refine hQ _ _ ?_
 exact .many (.inl rfl) rfl rfl (.d rfl rfl (.d rfl rfl (.d rfl rfl (.nil))))
 conv=>cbv
 refine .go fun bz bk=>?_
 conv=>cbv
 refine .add fun ay bl=>?_
 conv=>cbv
 refine .lohi fun b0 aj=>?_
 conv=>cbv
 refine .neq (fun h23=>?_) fun h23=>?_
 conv=>cbv
 have e:((tx []),0,false)=Au v n b p:=(by rw[J3 h6 ad];rw[if_pos rfl];rw[ao]at aa;refine Wu aa (.inr ?_);rw[←Bool.not_eq_true,Qx (q:=ay) (by omega) (by omega) (by omega),←aj];exact h23)
 rw[hr]at e
 simp only[Prod.mk.injEq]at e
 obtain⟨rfl,rfl,rfl⟩:=e
 refine hQ _ _ ?_
 exact .many (.inl rfl) rfl rfl (.d rfl rfl (.d rfl rfl (.d rfl rfl (.nil))))
 conv=>cbv
 refine .go fun b2 az=>?_
 conv=>cbv
 refine .add fun bg a1=>?_
 conv=>cbv
 have e:(ae,bg,true)=Au v n b p:=(by rw[J3 h6 ad];rw[if_pos rfl];rw[aa]at ne;rw[ao]at aa⊢;rw[a1,az];exact Xel (by omega) aa ne ((Qx (q:=ay) (by omega) (by omega) (by omega)).2 (aj▸h23)))
 rw[hr]at e
 simp only[Prod.mk.injEq]at e
 obtain⟨rfl,rfl,rfl⟩:=e
 refine hQ _ _ ?_
 exact .many (.inl rfl) rfl rfl (.d rfl rfl (.d rfl rfl (.d rfl rfl (.nil))))
 conv=>cbv
 cases ba
 conv=>cbv
 have e:((tx []),0,false)=Au v n b p:=(by rw[Jv (by omega) ac];rfl)
 rw[hr]at e
 simp only[Prod.mk.injEq]at e
 obtain⟨rfl,rfl,rfl⟩:=e
 refine hQ _ _ ?_
 exact .many (.inl rfl) rfl rfl (.d rfl rfl (.d rfl rfl (.d rfl rfl (.nil))))
 conv=>cbv
 have zz:=L6 ac
 refine .gtr (fun h7=>?_) fun h7=>?_
 conv=>cbv
 have e:((tx []),0,false)=Au v n b p:=(by rw[Jv (by omega) ac];rw[if_pos rfl];exact Lc (by omega))
 rw[hr]at e
 simp only[Prod.mk.injEq]at e
 obtain⟨rfl,rfl,rfl⟩:=e
 refine hQ _ _ ?_
 exact .many (.inl rfl) rfl rfl (.d rfl rfl (.d rfl rfl (.d rfl rfl (.nil))))
 conv=>cbv
 refine .go fun v8 ar=>?_
 conv=>cbv
 refine .sub fun v9 b3=>?_
 conv=>cbv
 refine .gtr (fun h10=>?_) fun h10=>?_
 conv=>cbv
 have e:((tx []),0,false)=Au v n b p:=(by rw[Jv (by omega) ac];rw[if_pos rfl];exact Lc (by omega))
 rw[hr]at e
 simp only[Prod.mk.injEq]at e
 obtain⟨rfl,rfl,rfl⟩:=e
 refine hQ _ _ ?_
 exact .many (.inl rfl) rfl rfl (.d rfl rfl (.d rfl rfl (.d rfl rfl (.nil))))
 conv=>cbv
 refine .add fun bd ai=>?_
 conv=>cbv
 refine .lohi fun af ah=>?_
 conv=>cbv
 have b4:af.size≤b.size:=by rw[ah,ByteArray.size_extract];omega
 have y12:af.size≤60:=by rw[ah,ByteArray.size_extract];omega
 have ap:af=b.extract aq.toNat (aq+a8).toNat:=by rw[ah,ai]
 have ne:=P1 (v:=v) (n:=n) (r:=af) (by omega) (by omega) y12
 generalize ab:Ai v n af=b5
 have zr13:=D9 ab
 refine .dd hP (Mh (by omega) ab) ?_
 conv=>cbv
 refine .go fun b6 bm=>?_
 conv=>cbv
 refine .go fun b7 bn=>?_
 conv=>cbv
 refine .sub fun be aw=>?_
 conv=>cbv
 refine .gtr (fun h17=>?_) fun h17=>?_
 conv=>cbv
 have e:((tx []),0,false)=Au v n b p:=(by rw[Jv (by omega) ac];rw[if_pos rfl];rw[ap]at ab;exact Wu ab (.inr (XbC (by omega) (by omega))))
 rw[hr]at e
 simp only[Prod.mk.injEq]at e
 obtain⟨rfl,rfl,rfl⟩:=e
 refine hQ _ _ ?_
 exact .many (.inl rfl) rfl rfl (.d rfl rfl (.d rfl rfl (.d rfl rfl (.nil))))
 conv=>cbv
 refine .go fun bf ax=>?_
 conv=>cbv
 refine .add fun a2 bo=>?_
 conv=>cbv
 refine .lohi fun b8 ak=>?_
 conv=>cbv
 refine .neq (fun h21=>?_) fun h21=>?_
 conv=>cbv
 have e:((tx []),0,false)=Au v n b p:=(by rw[Jv (by omega) ac];rw[if_pos rfl];rw[ap]at ab;refine Wu ab (.inr ?_);rw[←Bool.not_eq_true,Qx (q:=a2) (by omega) (by omega) (by omega),←ak];exact h21)
 rw[hr]at e
 simp only[Prod.mk.injEq]at e
 obtain⟨rfl,rfl,rfl⟩:=e
 refine hQ _ _ ?_
 exact .many (.inl rfl) rfl rfl (.d rfl rfl (.d rfl rfl (.d rfl rfl (.nil))))
 conv=>cbv
 refine .go fun b9 a6=>?_
 conv=>cbv
 refine .add fun bh a7=>?_
 conv=>cbv
 have e:(af,bh,true)=Au v n b p:=(by rw[Jv (by omega) ac];rw[if_pos rfl];rw[ab]at ne;rw[ap]at ab⊢;rw[a7,a6];exact Xel (by omega) ab ne ((Qx (q:=a2) (by omega) (by omega) (by omega)).2 (ak▸h21)))
 rw[hr]at e
 simp only[Prod.mk.injEq]at e
 obtain⟨rfl,rfl,rfl⟩:=e
 refine hQ _ _ ?_
 exact .many (.inl rfl) rfl rfl (.d rfl rfl (.d rfl rfl (.d rfl rfl (.nil))))
end
section
open Go Go.Proofs
set_option maxRecDepth 20000
set_option maxHeartbeats 4000000
def Xd1:List (Nat×TyRow):=[ty3,ty4,ty9,We,Xal,XiF,ty92]
theorem Xc4:Bl Tryz.prog Xd1:=Bl.of (by kernel_rfl)
theorem Vp:Setup Tryz.prog Xd1:=⟨Xc4,mixed⟩
def H9(h:A0)(b:ByteArray)(n:Nat)(p:Int):List ByteArray×List Int×Int×Bool:=
 if D7 h.version_ (h.base_+n) b p=true then([],[],p,true)
 else match Au h.version_ (h.base_+n) b p with
  |(r,q,true)=>if p<q∧q≤b.size then(r::(H9 h b (n+1) q).1,p::(H9 h b (n+1) q).2.1,(H9 h b (n+1) q).2.2)else([],[],p,false)
  |_=>([],[],p,false)
termination_by (b.size - p).toNat
decreasing_by all_goals omega
def As(b:ByteArray):Pi:=match Bx b with
 |(h,true)=>⟨true,h,(H9 h b 0 24).1,(H9 h b 0 24).2.1,(H9 h b 0 24).2.2.1,(H9 h b 0 24).2.2.2⟩
 |_=>⟨false,⟨0,0,0,0⟩,[],[],0,false⟩
theorem Wr{v n:Int}{r t:ByteArray}(e:Ai v n r=t)(h:t≠tx []):5≤t.size:=by
 unfold Ai at e
 split at e
 ·rename_i hh
  have h4:=V8 _ (U2 r)
  have h1:1≤(if v=2 then Nv n r.size else Cb r.size).size:=by
   split
   ·unfold Nv
    rw[ByteArray.size_append,V8 _ (by omega)]
    omega
   ·unfold Cb
    rw[if_pos (by omega),A3]
    exact List.length_pos_iff.2 (Xc7 _)
  rw[←e,ByteArray.size_append,ByteArray.size_append]
  omega
 ·exact absurd e.symm h
theorem Hp{v n p q:Int}{b r:ByteArray}(h:Au v n b p=(r,q,true)):0≤p∧p+5≤q∧q≤b.size∧r.size≤60∧(v=1∨v=2)∧0≤n∧n≤1000000000∧q=p+(Ai v n r).size∧F8 b p (Ai v n r)=true:=by
 have key:∀{x s:Int},0≤s→0≤x→Hz v n b p x s=(r,q,true)→0≤p∧p+5≤q∧q≤b.size∧r.size≤60∧(v=1∨v=2)∧0≤n∧n≤1000000000∧q=p+(Ai v n r).size∧F8 b p (Ai v n r)=true:=by
  intro x s hs hx e
  unfold Hz at e
  split at e
  ·rename_i hh
   obtain⟨h1,h2,h3,h4⟩:=hh
   simp only[Prod.mk.injEq,and_true]at e
   obtain⟨rfl,rfl⟩:=e
   have h5:=Wr rfl h3
   have h6:=of_decide_eq_true h4
   have h7:(b.extract s.toNat (s+x).toNat).size=x.toNat:=by rw[T8 (by omega) (by omega)];omega
   have h8:(v=1∨v=2)∧0≤n∧n≤1000000000:=by
    by_cases hh:(v=1∨v=2)∧0≤n∧n≤1000000000
    ·exact hh
    ·exact absurd (Jz hh) h3
   exact⟨h6.1.1,by omega,by omega,by omega,h8.1,h8.2.1,h8.2.2,rfl,h4⟩
  ·simp at e
 rcases h1:Bp b p 4 with⟨x,ok⟩
 rcases h2:Ci b p with⟨y,s,ok2⟩
 by_cases hv:v=2
 ·rw[J3 hv h1]at h
  cases ok
  ·simp at h
  ·have:=Lz h1
   exact key (by omega) (by omega) h
 ·rw[Jv hv h2]at h
  cases ok2
  ·simp at h
  ·have:=L6 h2
   exact key (by omega) (by omega) h
theorem Ob{h:A0}{b:ByteArray}{n:Nat}{p:Int}(hm:D7 h.version_ (h.base_+n) b p=true):H9 h b n p=([],[],p,true):=by rw[H9,if_pos hm]
theorem Nz{h:A0}{b:ByteArray}{n:Nat}{p:Int}{r:ByteArray}{q:Int}(hm:D7 h.version_ (h.base_+n) b p=false)(hf:Au h.version_ (h.base_+n) b p=(r,q,false)):H9 h b n p=([],[],p,false):=by rw[H9,if_neg (by rw[hm];simp),hf]
theorem Of{h:A0}{b:ByteArray}{n:Nat}{p:Int}{r:ByteArray}{q:Int}(hm:D7 h.version_ (h.base_+n) b p=false)(hf:Au h.version_ (h.base_+n) b p=(r,q,true)):H9 h b n p=(r::(H9 h b (n+1) q).1,p::(H9 h b (n+1) q).2.1,(H9 h b (n+1) q).2.2):=by
 have:=Hp hf
 rw[H9,if_neg (by rw[hm];simp),hf]
 simp only[]
 rw[if_pos (by omega)]
def Hl(b:ByteArray):Int:=(As b).end_
variable {b:ByteArray} {ook omar:Bool} {oheaver oheastr oheabas ohealin oend:Int} {orec:List ByteArray} {xorec xooff:List (List D)} {ooff:List Int}
theorem Xt(hs:b.size<2^47)(hr:As b=⟨ook,⟨oheaver,oheastr,oheabas,ohealin⟩,orec,ooff,oend,omar⟩)(horec:orec.map cS=xorec)(hooff:ooff.map cI=xooff):Fn Tryz.prog 162 [S b] [] ⟨.agg [B ook,I oheaver,I oheastr,I oheabas,I ohealin,.d (.row 1 xorec),.d (.row 1 xooff),I oend,B omar],[],[]⟩:=by
 refine Fn.go Vp Tryz.func162 fun P hP Q hQ=>?_
 conv=>cbv
 rcases ak:Bx b with⟨⟨aa,ac,ab,ad⟩,ap⟩
 refine .dd hP (W0 (by omega) ak) ?_
 conv=>cbv
 cases ap
 conv=>cbv
 have e:(⟨false,⟨0,0,0,0⟩,[],[],0,false⟩:Pi)=As b:=(by unfold As;rw[ak])
 rw[hr]at e
 simp only[A0.mk.injEq,Pi.mk.injEq]at e
 obtain⟨rfl,⟨rfl,rfl,rfl,rfl⟩,rfl,rfl,rfl,rfl⟩:=e
 exact hQ _ _ (.one (.inl rfl) rfl (.agg (.d rfl rfl (.d rfl rfl (.d rfl rfl (.d rfl rfl (.d rfl rfl (.ref rfl rfl (by rw[←horec];rfl) (.ref rfl rfl (by rw[←hooff];rfl) (.d rfl rfl (.d rfl rfl (.nil)))))))))) .nil))
 conv=>cbv
 refine LoopW.lp (κ:=Int×(List (List D))×Nat×(List (List D))×Nat) Vp hP [4,5] [0,2,3,5] (fun(ae,al,am,af,ag)=>[]) (fun(ae,al,am,af,ag)=>[(8,.box 92 [B true,I aa,I ac,I ab,I ad,.ref 9 0 am,.ref 10 0 ag,I ae,B false]),(9,.row 1 false al),(10,.row 1 false af)])
  (fun(ae,al,am,af,ag)=>∃(w9:List ByteArray) (ai:List Int),w9.map cS=al∧am=w9.length∧ai.map cI=af∧ag=ai.length∧(24≤ae∧ae≤b.size∧w9.length=ai.length∧5*(w9.length:Int)+24≤ae)∧H9 ⟨aa,ac,ab,ad⟩ b 0 24=(w9++(H9 ⟨aa,ac,ab,ad⟩ b w9.length ae).1,ai++(H9 ⟨aa,ac,ab,ad⟩ b w9.length ae).2.1,(H9 ⟨aa,ac,ab,ad⟩ b w9.length ae).2.2))
  (fun(ae,al,am,af,ag)=>(b.size - ae).toNat) (24,[],0,[],0) ⟨[],[],rfl,rfl,rfl,rfl,by have:=G9 ak;simp;omega,rfl⟩ trivial rfl ?_
 rintro⟨ae,al,am,af,ag⟩ J ⟨w9,ai,ao,a2,ah,aq,hb,hS⟩ hJ
 have hd:=Hu (G9 ak).2.2
 conv=>cbv
 refine .go fun v2 a8=>?_
 conv=>cbv
 refine .add fun v3 ba=>?_
 conv=>cbv
 have e3:v3=ab+(w9.length:Int):=by omega
 generalize aj:D7 aa v3 b ae=r4
 refine .dd hP (Xjw (by omega) (by omega) aj) ?_
 cases r4
 conv=>cbv
 rcases an:Au aa v3 b ae with⟨ar,au,aw⟩
 refine .dd hP (XcZ (by omega) (by omega) an) ?_
 conv=>cbv
 cases aw
 conv=>cbv
 have e:(⟨true,⟨aa,ac,ab,ad⟩,w9,ai,ae,false⟩:Pi)=As b:=(by rw[e3]at aj an;unfold As;rw[ak];simp only[];rw[hS,Nz (h:=⟨aa,ac,ab,ad⟩) aj an];simp)
 rw[hr]at e
 simp only[A0.mk.injEq,Pi.mk.injEq]at e
 obtain⟨rfl,⟨rfl,rfl,rfl,rfl⟩,rfl,rfl,rfl,rfl⟩:=e
 exact hQ _ _ (.one (.inl rfl) rfl (.agg (.d rfl rfl (.d rfl rfl (.d rfl rfl (.d rfl rfl (.d rfl rfl (.ref rfl (by rw[←ao,List.length_map];first|omega|(simp;omega)) (by rw[←ao,←horec]) (.ref rfl (by rw[←ah,List.length_map];first|omega|(simp;omega)) (by rw[←ah,←hooff]) (.d rfl rfl (.d rfl rfl (.nil)))))))))) .nil))
 conv=>cbv
 have hf:=Hp an
 refine .one ar ao rfl fun ax z6 a6 ay=>?_
 conv=>cbv
 refine .one ae ah rfl fun az z7 a7 a1=>?_
 conv=>cbv
 exact .go [12,14] (au,z6,ax,z7,az) (hJ _ ⟨_,_,ay,Cv,a1,Cv,by simp;omega,by rw[e3]at aj an;rw[hS,Of (h:=⟨aa,ac,ab,ad⟩) aj an];simp[List.append_assoc]⟩ mlt)
 conv=>cbv
 have e:(⟨true,⟨aa,ac,ab,ad⟩,w9,ai,ae,true⟩:Pi)=As b:=(by rw[e3]at aj;unfold As;rw[ak];simp only[];rw[hS,Ob (h:=⟨aa,ac,ab,ad⟩) aj];simp)
 rw[hr]at e
 simp only[A0.mk.injEq,Pi.mk.injEq]at e
 obtain⟨rfl,⟨rfl,rfl,rfl,rfl⟩,rfl,rfl,rfl,rfl⟩:=e
 exact hQ _ _ (.one (.inl rfl) rfl (.agg (.d rfl rfl (.d rfl rfl (.d rfl rfl (.d rfl rfl (.d rfl rfl (.ref rfl (by rw[←ao,List.length_map];first|omega|(simp;omega)) (by rw[←ao,←horec]) (.ref rfl (by rw[←ah,List.length_map];first|omega|(simp;omega)) (by rw[←ah,←hooff]) (.d rfl rfl (.d rfl rfl (.nil)))))))))) .nil))
theorem Lp(hs:b.size<2^47)(hr:As b=⟨ook,⟨oheaver,oheastr,oheabas,ohealin⟩,orec,ooff,oend,omar⟩)(horec:orec.map cS=xorec)(hooff:ooff.map cI=xooff):Fn Tryz.prog 74 [S b] [] ⟨.agg [B ook,I oheaver,I oheastr,I oheabas,I ohealin,.d (.row 1 xorec),.d (.row 1 xooff),I oend,B omar],[],[]⟩:=by
 refine Fn.go Vp Tryz.func74 fun P hP Q hQ=>?_
 conv=>cbv
 rcases ak:Bx b with⟨⟨aa,ac,ab,ad⟩,ap⟩
 refine .dd hP (X6 (by omega) ak) ?_
 conv=>cbv
 cases ap
 conv=>cbv
 have e:(⟨false,⟨0,0,0,0⟩,[],[],0,false⟩:Pi)=As b:=(by unfold As;rw[ak])
 rw[hr]at e
 simp only[A0.mk.injEq,Pi.mk.injEq]at e
 obtain⟨rfl,⟨rfl,rfl,rfl,rfl⟩,rfl,rfl,rfl,rfl⟩:=e
 exact hQ _ _ (.one (.inl rfl) rfl (.agg (.d rfl rfl (.d rfl rfl (.d rfl rfl (.d rfl rfl (.d rfl rfl (.ref rfl rfl (by rw[←horec];rfl) (.ref rfl rfl (by rw[←hooff];rfl) (.d rfl rfl (.d rfl rfl (.nil)))))))))) .nil))
 conv=>cbv
 refine LoopW.lp (κ:=Int×(List (List D))×Nat×(List (List D))×Nat) Vp hP [4,5] [0,2,3,5] (fun(ae,al,am,af,ag)=>[]) (fun(ae,al,am,af,ag)=>[(8,.box 92 [B true,I aa,I ac,I ab,I ad,.ref 9 0 am,.ref 10 0 ag,I ae,B false]),(9,.row 1 false al),(10,.row 1 false af)])
  (fun(ae,al,am,af,ag)=>∃(w9:List ByteArray) (ai:List Int),w9.map cS=al∧am=w9.length∧ai.map cI=af∧ag=ai.length∧(24≤ae∧ae≤b.size∧w9.length=ai.length∧5*(w9.length:Int)+24≤ae)∧H9 ⟨aa,ac,ab,ad⟩ b 0 24=(w9++(H9 ⟨aa,ac,ab,ad⟩ b w9.length ae).1,ai++(H9 ⟨aa,ac,ab,ad⟩ b w9.length ae).2.1,(H9 ⟨aa,ac,ab,ad⟩ b w9.length ae).2.2))
  (fun(ae,al,am,af,ag)=>(b.size - ae).toNat) (24,[],0,[],0) ⟨[],[],rfl,rfl,rfl,rfl,by have:=G9 ak;simp;omega,rfl⟩ trivial rfl ?_
 rintro⟨ae,al,am,af,ag⟩ J ⟨w9,ai,ao,a2,ah,aq,hb,hS⟩ hJ
 have hd:=Hu (G9 ak).2.2
 conv=>cbv
 refine .go fun v2 a8=>?_
 conv=>cbv
 refine .add fun v3 ba=>?_
 conv=>cbv
 have e3:v3=ab+(w9.length:Int):=by omega
 generalize aj:D7 aa v3 b ae=r4
 refine .dd hP (Xjx (by omega) (by omega) aj) ?_
 cases r4
 conv=>cbv
 rcases an:Au aa v3 b ae with⟨ar,au,aw⟩
 refine .dd hP (Xda (by omega) (by omega) an) ?_
 conv=>cbv
 cases aw
 conv=>cbv
 have e:(⟨true,⟨aa,ac,ab,ad⟩,w9,ai,ae,false⟩:Pi)=As b:=(by rw[e3]at aj an;unfold As;rw[ak];simp only[];rw[hS,Nz (h:=⟨aa,ac,ab,ad⟩) aj an];simp)
 rw[hr]at e
 simp only[A0.mk.injEq,Pi.mk.injEq]at e
 obtain⟨rfl,⟨rfl,rfl,rfl,rfl⟩,rfl,rfl,rfl,rfl⟩:=e
 exact hQ _ _ (.one (.inl rfl) rfl (.agg (.d rfl rfl (.d rfl rfl (.d rfl rfl (.d rfl rfl (.d rfl rfl (.ref rfl (by rw[←ao,List.length_map];first|omega|(simp;omega)) (by rw[←ao,←horec]) (.ref rfl (by rw[←ah,List.length_map];first|omega|(simp;omega)) (by rw[←ah,←hooff]) (.d rfl rfl (.d rfl rfl (.nil)))))))))) .nil))
 conv=>cbv
 have hf:=Hp an
 refine .one ar ao rfl fun ax z6 a6 ay=>?_
 conv=>cbv
 refine .one ae ah rfl fun az z7 a7 a1=>?_
 conv=>cbv
 exact .go [12,14] (au,z6,ax,z7,az) (hJ _ ⟨_,_,ay,Cv,a1,Cv,by simp;omega,by rw[e3]at aj an;rw[hS,Of (h:=⟨aa,ac,ab,ad⟩) aj an];simp[List.append_assoc]⟩ mlt)
 conv=>cbv
 have e:(⟨true,⟨aa,ac,ab,ad⟩,w9,ai,ae,true⟩:Pi)=As b:=(by rw[e3]at aj;unfold As;rw[ak];simp only[];rw[hS,Ob (h:=⟨aa,ac,ab,ad⟩) aj];simp)
 rw[hr]at e
 simp only[A0.mk.injEq,Pi.mk.injEq]at e
 obtain⟨rfl,⟨rfl,rfl,rfl,rfl⟩,rfl,rfl,rfl,rfl⟩:=e
 exact hQ _ _ (.one (.inl rfl) rfl (.agg (.d rfl rfl (.d rfl rfl (.d rfl rfl (.d rfl rfl (.d rfl rfl (.ref rfl (by rw[←ao,List.length_map];first|omega|(simp;omega)) (by rw[←ao,←horec]) (.ref rfl (by rw[←ah,List.length_map];first|omega|(simp;omega)) (by rw[←ah,←hooff]) (.d rfl rfl (.d rfl rfl (.nil)))))))))) .nil))
theorem Xaf{o:Int}(hs:b.size<2^47)(hr:Hl b=o):Fn Tryz.prog 81 [S b] [] ⟨I o,[],[]⟩:=by
 refine Fn.go Vp Tryz.func81 fun P hP Q hQ=>?_
 conv=>cbv
 rcases aj:As b with⟨an,⟨af,ag,ah,ai⟩,ac,ad,ae,am⟩
 generalize aa:ac.map cS=ak
 generalize ab:ad.map cI=al
 refine .dd hP (Lp (by omega) aj aa ab) ?_
 conv=>cbv
 have e:ae=Hl b:=(by unfold Hl;rw[aj])
 rw[hr]at e
 subst e
 exact hQ _ _ (.i rfl rfl)
end
section
open Go Go.Proofs
set_option maxRecDepth 20000
set_option maxHeartbeats 4000000
def XeW:List (Nat×TyRow):=[ty3,ty9,Xal,XkJ,XlN,XlM]
theorem Xdh:Bl Tryz.prog XeW:=Bl.of (by kernel_rfl)
theorem I4:Setup Tryz.prog XeW:=⟨Xdh,mixed⟩
def Xgj(s:Nat)(offs:List Int)(n:Nat):List He:=((List.range n).filter (fun i=>i% s=0)).map (fun(i:Nat)=>⟨(i:Int),offs.getD i 0⟩)
def Cs(stride:Int)(offs:List Int):List He:=if stride<1 then[]else Xgj stride.toNat offs offs.length
theorem Q9{s n:Nat}{offs:List Int}:Xgj s offs (n+1)=Xgj s offs n++(if n% s=0 then[⟨(n:Int),offs.getD n 0⟩]else[]):=by
 unfold Xgj
 rw[List.range_succ,List.filter_append,List.map_append]
 congr 1
 by_cases h:n% s=0<;>simp[h]
theorem Z9{s n:Nat}{offs:List Int}:(Xgj s offs n).length≤n:=by
 unfold Xgj
 rw[List.length_map]
 exact Nat.le_trans (List.length_filter_le _ _) (by simp)
theorem Xab{s k:Nat}{offs:List Int}(hk:k% s=0):∀(d:Nat),d<s→Xgj s offs (k+1+d)=Xgj s offs k++[⟨(k:Int),offs.getD k 0⟩]
 |0,_=>by rw[Nat.add_zero,Q9,if_pos hk]
 |d+1,h=>by
  rw[←Nat.add_assoc,Q9,Xab hk d (by omega),if_neg,List.append_nil]
  have:k+1+d=k+(d+1):=by omega
  rw[this,Nat.add_mod,hk,Nat.zero_add,Nat.mod_mod,Nat.mod_eq_of_lt h]
  omega
theorem XcF{l:List Int}{k:Nat}(h:k<l.length):l[k]=l.getD k 0:=by rw[List.getD_eq_getElem?_getD,List.getElem?_eq_getElem h];rfl
def Gx(a b:Int):ByteArray:=if b≤a∧a - b≤1000000000 then Cb (a - b)else tx []
theorem Tx{a b:Int}{o:ByteArray}(h:Gx a b=o):o.size≤5:=by
 rw[←h]
 unfold Gx
 split
 ·exact Ia _
 ·simp[A3]
def Hq(a b:Int):Int:=if b≤a∧a - b<9223372036854775808 then a - b else -1
theorem X5(a b:Int):Cb (Hq a b)=Gx a b:=by
 unfold Hq Gx
 by_cases h:b≤a∧a - b≤1000000000
 ·rw[if_pos h,if_pos (by omega)]
 ·rw[if_neg h]
  unfold Cb
  split
  ·rw[if_neg (by omega)]
  ·rfl
def I9:Int×Int→List He→Option ByteArray
 |_,[]=>some (tx [])
 |q,p::l=>if Gx p.count_ q.1=tx []∨Gx p.at_ q.2=tx []then none else(I9 (p.count_,p.at_) l).map fun t=>(Gx p.count_ q.1++Gx p.at_ q.2)++t
def Bu(l:List He):ByteArray:=match I9 (0,0) l with
 |some t=>Cb l.length++t
 |none=>tx []
theorem Ui:∀{l:List He} {q:Int×Int} {t:ByteArray},I9 q l=some t→t.size≤10*l.length
 |[],q,t,h=>by cases h;simp[A3]
 |p::l,q,t,h=>by
  simp only[I9]at h
  split at h
  ·cases h
  ·obtain⟨u,hu,rfl⟩:=Option.map_eq_some_iff.1 h
   have:=Ui hu
   have h1:=Tx (rfl:Gx p.count_ q.1=_)
   have h2:=Tx (rfl:Gx p.at_ q.2=_)
   rw[ByteArray.size_append,ByteArray.size_append,List.length_cons]
   omega
theorem Ox(l:List He):(Bu l).size≤5+10*l.length:=by
 unfold Bu
 split
 ·rename_i t h
  have h1:=Ui h
  have h2:=Ia l.length
  rw[ByteArray.size_append]
  omega
 ·simp[A3]
theorem Rd{l:List He}{o:ByteArray}(h:Bu l=o):o.size≤5+10*l.length:=by rw[←h];exact Ox l
theorem XgB(s:ByteArray):tx []++s=s:=by rw[←Vk s,Cw];rfl
theorem Zz(s:ByteArray):s++tx []=s:=by rw[←Vk s,Cw,List.append_nil]
theorem Xdb{n w:Int}(h:Ap n w≠tx []):(Ap n w).size=w.toNat:=by
 by_cases hh:0≤n∧1≤w∧w≤8∧n.toNat/2^ (8*w.toNat)=0
 ·exact Re hh
 ·exact absurd (if_neg hh) h
def wfPl(l:List He):Prop:=∀p∈l,wfI p.count_∧wfI p.at_
def Je(acc:ByteArray):List Int→Option ByteArray
 |[]=>some acc
 |x::l=>if Ap x 4=tx []then none else Je (acc++Ap x 4) l
def Bd(a b c d:Int):ByteArray:=match Je (tx []) [a,b,c,d]with
 |some t=>t++tx [73,68,88,33]
 |none=>tx []
theorem U4:∀{l:List Int} {acc t:ByteArray},Je acc l=some t→t.size≤acc.size+8*l.length
 |[],acc,t,h=>by cases h;simp
 |x::l,acc,t,h=>by
  simp only[Je]at h
  split at h
  ·cases h
  ·have:=U4 h
   have h1:=@Fa x 4
   rw[ByteArray.size_append]at this
   rw[List.length_cons]
   omega
theorem Gy{a b c d:Int}{o:ByteArray}(h:Bd a b c d=o):o.size≤36:=by
 rw[←h]
 unfold Bd
 split
 ·rename_i t ht
  have:=U4 ht
  simp only[A3,List.length_cons,List.length_nil]at this
  rw[ByteArray.size_append,A3]
  simp only[List.length_cons,List.length_nil]
  omega
 ·simp[A3]
theorem Xbp:∀{l:List Int} {acc t:ByteArray},Je acc l=some t→t.size=acc.size+4*l.length
 |[],acc,t,h=>by cases h;simp
 |x::l,acc,t,h=>by
  simp only[Je]at h
  split at h
  ·cases h
  ·rename_i hx
   have:=Xbp h
   have h1:=Xdb hx
   rw[ByteArray.size_append,h1]at this
   rw[List.length_cons,this]
   simp
   omega
theorem Nm{a b c d:Int}(h:Bd a b c d≠tx []):(Bd a b c d).size=20:=by
 unfold Bd at h⊢
 split
 ·rename_i t ht
  have:=Xbp ht
  simp only[A3,List.length_cons,List.length_nil]at this
  rw[ByteArray.size_append,A3,this]
  rfl
 ·rename_i ht
  rw[ht]at h
  exact absurd rfl h
def B1(h:A0)(offs:List Int)(fin:Int):ByteArray:=
 if Ct h=true∧Cf h.version_ (h.base_+offs.length)≠tx []∧Bu (Cs h.stride_ offs)≠tx []∧Bd fin offs.length h.stride_ 0≠tx []then
  (Cf h.version_ (h.base_+offs.length)++Bu (Cs h.stride_ offs))++Bd fin offs.length h.stride_ (Fw ((Cf h.version_ (h.base_+offs.length)++Bu (Cs h.stride_ offs))++(Bd fin offs.length h.stride_ 0).extract 0 12))else tx []
theorem Mo{s:Int}{offs:List Int}:(Cs s offs).length≤offs.length:=by
 unfold Cs
 split
 ·simp
 ·exact Z9
theorem S8{s:Int}{offs:List Int}(h:∀x∈offs,wfI x)(hl:offs.length<2^40):wfPl (Cs s offs):=by
 unfold Cs
 split
 ·intro p hp;simp at hp
 ·intro p hp
  unfold Xgj at hp
  obtain⟨i,hi,rfl⟩:=List.mem_map.1 hp
  have aa:=List.mem_range.1 (List.mem_filter.1 hi).1
  refine⟨⟨by show -9223372036854775808≤(i:Int);omega,by show(i:Int)<9223372036854775808;omega⟩,?_⟩
  show wfI (offs.getD i 0)
  rw[←XcF aa]
  exact h _ (List.getElem_mem aa)
theorem Sx(h:A0)(offs:List Int)(fin:Int):(B1 h offs fin).size≤57+10*offs.length:=by
 unfold B1
 split
 ·rw[ByteArray.size_append,ByteArray.size_append]
  have h1:=Lq (rfl:Cf h.version_ (h.base_+offs.length)=_)
  have h2:=Ox (Cs h.stride_ offs)
  have h3:=@Mo h.stride_ offs
  have h4:=Gy (rfl:Bd fin offs.length h.stride_ (Fw ((Cf h.version_ (h.base_+offs.length)++Bu (Cs h.stride_ offs))++(Bd fin offs.length h.stride_ 0).extract 0 12))=_)
  omega
 ·simp[A3]
variable {stride mark count sum a b:Int} {offs:List Int} {xoffs xo:List (List D)} {o:ByteArray}
theorem Xgk{o:List He}(hoffs:offs.map cI=xoffs)(hl:offs.length<2^40)(hr:Cs stride offs=o)(ho:o.map Ta=xo):Fn Tryz.prog 171 [I stride,.d (.row 1 xoffs)] [] ⟨.d (.row 2 xo),[],[]⟩:=by
 refine Fn.go I4 Tryz.func171 fun P hP Q hQ=>?_
 conv=>cbv
 refine LoopW.lp (κ:=Int×(List (List D))×Nat) I4 hP [1] [0,1] (fun(i6,aa,ab)=>[(5,.ref 2 0 ab),(6,I i6)]) (fun(i6,aa,ab)=>[(2,.row 2 false aa)])
  (fun(i6,aa,ab)=>∃(w2:List He),w2.map Ta=aa∧ab=w2.length∧∃k:Nat,i6=(k:Int)∧k≤offs.length∧(1≤stride∨k=0)∧w2=Xgj stride.toNat offs k)
  (fun(i6,aa,ab)=>(offs.length - i6).toNat) (0,[],0) ⟨[],rfl,rfl,0,rfl,by omega,by omega,by simp[Xgj]⟩ ⟨rfl,rfl,trivial⟩ rfl ?_
 rintro⟨i6,aa,ab⟩ J ⟨w2,ac,ah,k,hi,hk,hs,hw⟩ hJ
 have hwl:w2.length≤k:=by rw[hw];exact Z9
 conv=>cbv
 refine .go hoffs fun v1 ak=>?_
 conv=>cbv
 refine .lss (fun h2=>?_) fun h2=>?_
 conv=>cbv
 refine .geq (fun h3=>?_) fun h3=>?_
 conv=>cbv
 refine .rem fun v4 ad=>?_
 conv=>cbv
 refine .eql (fun h5=>?_) fun h5=>?_
 conv=>cbv
 refine .go i6.toNat hoffs fun ai e6 ae=>?_
 conv=>cbv
 have em0:((k% stride.toNat:Nat):Int)=0:=by rw[Int.natCast_emod,Int.toNat_of_nonneg (by omega),←hi,←ad];exact h5
 have em:k% stride.toNat=0:=by omega
 have e1:(⟨i6,e6⟩:He)=⟨(k:Int),offs.getD k 0⟩:=by rw[ae,XcF];simp only[hi,Int.toNat_natCast]
 refine .one (⟨i6,e6⟩:He) ac rfl fun af z7 aj ag=>?_
 conv=>cbv
 refine .add fun v8 al=>?_
 conv=>cbv
 exact .go [4] (v8,z7,af) (hJ _ ⟨_,ag,Cv,k+1,by omega,by omega,by omega,by rw[Q9,if_pos em,hw,e1]⟩ mlt)
 conv=>cbv
 have em:¬k% stride.toNat=0:=by intro e;refine h5 ?_;rw[ad,hi,show stride=((stride.toNat:Nat):Int)by omega,←Int.natCast_emod,e];rfl
 refine .add fun v6 am=>?_
 conv=>cbv
 exact .go [2] (v6,aa,ab) (hJ _ ⟨_,ac,Cv,k+1,by omega,by omega,by omega,by rw[Q9,if_neg em,hw];simp⟩ mlt)
 conv=>cbv
 have e:w2=Cs stride offs:=(by rw[hw,show k=0 by omega];unfold Cs;rw[if_pos (by omega)];rfl)
 rw[hr]at e
 subst e
 exact hQ _ _ (.r rfl rfl (by rw[←ac,List.length_map];first|omega|(simp;omega)) (by rw[←ac,←ho]))
 conv=>cbv
 have e:w2=Cs stride offs:=(by rw[hw];unfold Cs;split;rw[show k=0 by omega];rfl;rw[show k=offs.length by omega])
 rw[hr]at e
 subst e
 exact hQ _ _ (.r rfl rfl (by rw[←ac,List.length_map];first|omega|(simp;omega)) (by rw[←ac,←ho]))
theorem Xf1{o:List He}(hoffs:offs.map cI=xoffs)(hl:offs.length<2^40)(hr:Cs stride offs=o)(ho:o.map Ta=xo):Fn Tryz.prog 232 [I stride,.d (.row 1 xoffs)] [] ⟨.d (.row 2 xo),[],[]⟩:=by
 refine Fn.go I4 Tryz.func232 fun P hP Q hQ=>?_
 conv=>cbv
 refine .lss (fun h1=>?_) fun h1=>?_
 conv=>cbv
 have e:[]=Cs stride offs:=(by unfold Cs;rw[if_pos (by omega)])
 rw[hr]at e
 subst e
 exact hQ _ _ (.r rfl rfl rfl (by rw[←ho];rfl))
 conv=>cbv
 refine LoopW.lp (κ:=Int×(List (List D))×Nat) I4 hP [1] [0,1] (fun(i6,aa,ab)=>[(5,.ref 2 0 ab),(6,I i6)]) (fun(i6,aa,ab)=>[(2,.row 2 false aa)])
  (fun(i6,aa,ab)=>∃(w2:List He),w2.map Ta=aa∧ab=w2.length∧∃k:Nat,i6=(k:Int)∧k≤offs.length∧k% stride.toNat=0∧w2=Xgj stride.toNat offs k)
  (fun(i6,aa,ab)=>(offs.length - i6).toNat) (0,[],0) ⟨[],rfl,rfl,0,rfl,by omega,by simp,by simp[Xgj]⟩ ⟨rfl,rfl,trivial⟩ rfl ?_
 rintro⟨i6,aa,ab⟩ J ⟨w2,ac,ag,k,hi,hk,hs,hw⟩ hJ
 have hwl:w2.length≤k:=by rw[hw];exact Z9
 conv=>cbv
 refine .go hoffs fun v2 aj=>?_
 conv=>cbv
 refine .lss (fun h3=>?_) fun h3=>?_
 conv=>cbv
 refine .go i6.toNat hoffs fun ah e4 ae=>?_
 conv=>cbv
 have e1:(⟨i6,e4⟩:He)=⟨(k:Int),offs.getD k 0⟩:=by rw[ae,XcF];simp only[hi,Int.toNat_natCast]
 refine .one (⟨i6,e4⟩:He) ac rfl fun af z5 ai ad=>?_
 conv=>cbv
 refine .go hoffs fun v6 ak=>?_
 conv=>cbv
 refine .sub fun v7 al=>?_
 conv=>cbv
 refine .gtr (fun h8=>?_) fun h8=>?_
 conv=>cbv
 have e:(w2++[(⟨i6,e4⟩:He)])=Cs stride offs:=(by unfold Cs;rw[if_neg (by omega),show offs.length=k+1+(offs.length - 1 - k)by omega,Xab hs _ (by omega),hw,e1])
 rw[hr]at e
 subst e
 exact hQ _ _ (.r rfl rfl (by rw[←ad,List.length_map];first|omega|(simp;omega)) (by rw[←ad,←ho]))
 conv=>cbv
 refine .add fun v9 am=>?_
 conv=>cbv
 exact .go [4] (v9,z5,af) (hJ _ ⟨_,ad,Cv,k+stride.toNat,by omega,by omega,by rw[Nat.add_mod_right];exact hs,by rw[show k+stride.toNat=k+1+(stride.toNat - 1)by omega,Xab hs _ (by omega),hw,e1]⟩ mlt)
 conv=>cbv
 have e:w2=Cs stride offs:=(by unfold Cs;rw[if_neg (by omega),hw,show k=offs.length by omega])
 rw[hr]at e
 subst e
 exact hQ _ _ (.r rfl rfl (by rw[←ac,List.length_map];first|omega|(simp;omega)) (by rw[←ac,←ho]))
theorem Qt(k1:mark<9223372036854775808)(k2:count<9223372036854775808)(k3:stride<9223372036854775808)(k4:sum<9223372036854775808)(hr:Bd mark count stride sum=o):Fn Tryz.prog 300 [I mark,I count,I stride,I sum] [] ⟨S o,[],[]⟩:=by
 refine Fn.go I4 Tryz.func300 fun P hP Q hQ=>?_
 conv=>cbv
 refine .go fun v1 ah=>?_
 conv=>cbv
 refine LoopW.lp (κ:=ByteArray×Int) I4 hP [] [17,18] (fun(s9,aa)=>[(9,S s9),(19,I aa)]) (fun(s9,aa)=>[])
  (fun(s9,aa)=>∃k:Nat,aa=(k:Int)∧k≤4∧s9.size≤8*k∧Je (tx []) [mark,count,stride,sum]=Je s9 ([mark,count,stride,sum].drop k))
  (fun(s9,aa)=>(4 - aa).toNat) (tx [],0) ⟨0,rfl,by omega,by simp[A3],rfl⟩ ⟨rfl,rfl,trivial⟩ rfl ?_
 rintro⟨s9,aa⟩ J ⟨k,hi,hk,hz,hf⟩ hJ
 conv=>cbv
 refine .lss (fun h2=>?_) fun h2=>?_
 conv=>cbv
 refine .go aa.toNat fun p3 ai af=>?_
 conv=>cbv
 refine .go (l:=[mark,count,stride,sum]) (c:=cI) rfl fun ag e4 ac=>?_
 conv=>cbv
 have eE:[mark,count,stride,sum][k]'(by simp;omega)=e4:=by rw[ac];congr 1;omega
 have hE:e4<9223372036854775808:=by
  rw[←eE]
  have aj:k<4:=by omega
  rcases k with _|_|_|_|k
  ·exact k1
  ·exact k2
  ·exact k3
  ·exact k4
  ·omega
 generalize ab:Ap e4 4=r5
 have zr5:=Bs ab
 refine .dd hP (Fh (by omega) ab) ?_
 conv=>cbv
 refine .eql (fun h6=>?_) fun h6=>?_
 conv=>cbv
 have e:(tx [])=Bd mark count stride sum:=(by unfold Bd;rw[hf,List.drop_eq_getElem_cons (by simp;omega)];simp only[Je];rw[eE,if_pos (by rw[ab];exact h6)])
 rw[hr]at e
 subst e
 exact hQ _ _ (.s rfl rfl)
 conv=>cbv
 refine .go fun s7 ad ak=>?_
 conv=>cbv
 refine .add fun v8 al=>?_
 conv=>cbv
 exact .go [] (s7,v8) (hJ _ ⟨k+1,by omega,by omega,by omega,by rw[hf,List.drop_eq_getElem_cons (by simp;omega)];simp only[Je];rw[eE,if_neg];rw[ad];rw[ab];exact fun e=>h6 (ab.symm.trans e)⟩ mlt)
 conv=>cbv
 refine .litR 4 fun s3 ae am=>?_
 conv=>cbv
 have e:s3=Bd mark count stride sum:=(by unfold Bd;rw[hf,List.drop_of_length_le (by simp;omega)];simp only[Je];exact ae)
 rw[hr]at e
 subst e
 exact hQ _ _ (.s rfl rfl)
theorem P6(k1:mark<9223372036854775808)(k2:count<9223372036854775808)(k3:stride<9223372036854775808)(k4:sum<9223372036854775808)(hr:Bd mark count stride sum=o):Fn Tryz.prog 172 [I mark,I count,I stride,I sum] [] ⟨S o,[],[]⟩:=by
 refine Fn.go I4 Tryz.func172 fun P hP Q hQ=>?_
 conv=>cbv
 refine LoopW.lp (κ:=ByteArray×Int) I4 hP [] [10] (fun(s9,aa)=>[(9,S s9),(11,I aa)]) (fun(s9,aa)=>[])
  (fun(s9,aa)=>∃k:Nat,aa=(k:Int)∧k≤4∧s9.size≤8*k∧Je (tx []) [mark,count,stride,sum]=Je s9 ([mark,count,stride,sum].drop k))
  (fun(s9,aa)=>(4 - aa).toNat) (tx [],0) ⟨0,rfl,by omega,by simp[A3],rfl⟩ ⟨rfl,rfl,trivial⟩ rfl ?_
 rintro⟨s9,aa⟩ J ⟨k,hi,hk,hz,hf⟩ hJ
 conv=>cbv
 refine .lss (fun h1=>?_) fun h1=>?_
 conv=>cbv
 refine .go aa.toNat fun p2 ah af=>?_
 conv=>cbv
 refine .go (l:=[mark,count,stride,sum]) (c:=cI) rfl fun ag e3 ac=>?_
 conv=>cbv
 have eE:[mark,count,stride,sum][k]'(by simp;omega)=e3:=by rw[ac];congr 1;omega
 have hE:e3<9223372036854775808:=by
  rw[←eE]
  have ai:k<4:=by omega
  rcases k with _|_|_|_|k
  ·exact k1
  ·exact k2
  ·exact k3
  ·exact k4
  ·omega
 generalize ab:Ap e3 4=r4
 have zr4:=Bs ab
 refine .dd hP (Ew (by omega) ab) ?_
 conv=>cbv
 refine .eql (fun h5=>?_) fun h5=>?_
 conv=>cbv
 have e:(tx [])=Bd mark count stride sum:=(by unfold Bd;rw[hf,List.drop_eq_getElem_cons (by simp;omega)];simp only[Je];rw[eE,if_pos (by rw[ab];exact h5)])
 rw[hr]at e
 subst e
 exact hQ _ _ (.s rfl rfl)
 conv=>cbv
 refine .go fun s6 ad aj=>?_
 conv=>cbv
 refine .add fun v7 ak=>?_
 conv=>cbv
 exact .go [] (s6,v7) (hJ _ ⟨k+1,by omega,by omega,by omega,by rw[hf,List.drop_eq_getElem_cons (by simp;omega)];simp only[Je];rw[eE,if_neg];rw[ad];rw[ab];exact fun e=>h5 (ab.symm.trans e)⟩ mlt)
 conv=>cbv
 refine .litR 4 fun s2 ae al=>?_
 conv=>cbv
 have e:s2=Bd mark count stride sum:=(by unfold Bd;rw[hf,List.drop_of_length_le (by simp;omega)];simp only[Je];exact ae)
 rw[hr]at e
 subst e
 exact hQ _ _ (.s rfl rfl)
theorem XbZ{o:Int}(ha:wfI a)(hb:wfI b)(hr:Hq a b=o):Fn Tryz.prog 236 [I a,I b] [] ⟨I o,[],[]⟩:=by
 refine Fn.go I4 Tryz.func236 fun P hP Q hQ=>?_
 conv=>cbv
 refine .subW fun v1 aa=>?_
 conv=>cbv
 refine .lss (fun h2=>?_) fun h2=>?_
 conv=>cbv
 have e:(-1)=Hq a b:=(by unfold Hq;rw[Lv]at aa;obtain⟨ab,ac⟩:=ha;obtain⟨ad,hb2⟩:=hb;rw[if_neg (by omega)])
 rw[hr]at e
 subst e
 exact hQ _ _ (.i rfl rfl)
 conv=>cbv
 refine .lss (fun h3=>?_) fun h3=>?_
 conv=>cbv
 have e:(-1)=Hq a b:=(by unfold Hq;rw[Lv]at aa;obtain⟨ab,ac⟩:=ha;obtain⟨ad,hb2⟩:=hb;rw[if_neg (by omega)])
 rw[hr]at e
 subst e
 exact hQ _ _ (.i rfl rfl)
 conv=>cbv
 have e:v1=Hq a b:=(by unfold Hq;rw[Lv]at aa;obtain⟨ab,ac⟩:=ha;obtain⟨ad,hb2⟩:=hb;rw[if_pos (by omega)];omega)
 rw[hr]at e
 subst e
 exact hQ _ _ (.i rfl rfl)
theorem Xg6(ha:wfI a)(hb:wfI b)(hr:Gx a b=o):Fn Tryz.prog 326 [I a,I b] [] ⟨S o,[],[]⟩:=by
 refine Fn.go I4 Tryz.func326 fun P hP Q hQ=>?_
 conv=>cbv
 refine .lss (fun h1=>?_) fun h1=>?_
 conv=>cbv
 have e:(tx [])=Gx a b:=(by unfold Gx;rw[if_neg (by omega)])
 rw[hr]at e
 subst e
 exact hQ _ _ (.s rfl rfl)
 conv=>cbv
 refine .go fun v2 ab=>?_
 conv=>cbv
 refine .go fun v3 ac=>?_
 conv=>cbv
 refine .subW fun v4 ad=>?_
 conv=>cbv
 have e4:v4=a - b:=by rw[ad,ab,ac,F3,F3,F3];obtain⟨af,ag⟩:=ha;obtain⟨ah,hb2⟩:=hb;omega
 refine .gtr (fun h5=>?_) fun h5=>?_
 conv=>cbv
 have e:(tx [])=Gx a b:=(by unfold Gx;rw[if_neg (by omega)])
 rw[hr]at e
 subst e
 exact hQ _ _ (.s rfl rfl)
 conv=>cbv
 refine .sub fun v6 ae=>?_
 conv=>cbv
 generalize aa:Cb v6=r7
 have zr7:=Hm aa
 refine .dd hP (Vd aa) ?_
 conv=>cbv
 have e:r7=Gx a b:=(by unfold Gx;rw[if_pos (by omega),←aa,ae])
 rw[hr]at e
 subst e
 exact hQ _ _ (.s rfl rfl)
theorem XaC{l:List He}{xl:List (List D)}(hl:l.map Ta=xl)(hn:l.length<2^40)(hw:wfPl l)(hr:Bu l=o):Fn Tryz.prog 170 [.d (.row 2 xl)] [] ⟨S o,[],[]⟩:=by
 refine Fn.go I4 Tryz.func170 fun P hP Q hQ=>?_
 conv=>cbv
 refine .go hl fun v1 ao=>?_
 conv=>cbv
 generalize ae:Cb v1=r2
 have zr2:=Hm ae
 refine .dd hP (No ae) ?_
 conv=>cbv
 refine LoopW.lp (κ:=ByteArray×Int×Int×Int) I4 hP [] [0,4] (fun(s3,i5,ab,ac)=>[(3,S s3),(5,I i5)]) (fun(s3,i5,ab,ac)=>[(0,.box 162 [I ab,I ac])])
  (fun(s3,i5,ab,ac)=>∃(k:Nat) (pr:ByteArray),i5=(k:Int)∧k≤l.length∧s3=Cb l.length++pr∧pr.size≤10*k∧wfI ab∧wfI ac∧I9 (0,0) l=(I9 (ab,ac) (l.drop k)).map fun t=>pr++t)
  (fun(s3,i5,ab,ac)=>(l.length - i5).toNat) (r2,0,0,0) ⟨0,tx [],rfl,by omega,by rw[←ae,ao,Zz],by simp[A3],by constructor<;>omega,by constructor<;>omega,by simp[XgB]⟩ ⟨rfl,rfl,trivial⟩ rfl ?_
 rintro⟨s3,i5,ab,ac⟩ J ⟨k,pr,hi,hk,hs,hz,hwa,hwb,hp⟩ hJ
 have ay:s3.size≤5+10*k:=by rw[hs,ByteArray.size_append];have:=Ia l.length;omega
 conv=>cbv
 refine .go hl fun v3 az=>?_
 conv=>cbv
 refine .lss (fun h4=>?_) fun h4=>?_
 conv=>cbv
 refine .go i5.toNat hl fun ar ⟨aa,ad⟩ ah=>?_
 conv=>cbv
 have hkl:k<l.length:=by omega
 have hd:l.drop k=⟨aa,ad⟩::l.drop (k+1):=by rw[List.drop_eq_getElem_cons hkl,ah];congr 2;omega
 obtain⟨ai,aj⟩:=hw ⟨aa,ad⟩ (by rw[ah];exact List.getElem_mem _)
 simp only[]at ai aj
 generalize ak:Hq aa ab=r6
 refine .dd hP (XbZ (by assumption) (by assumption) ak) ?_
 conv=>cbv
 generalize af:Cb r6=r7
 have zr7:=Hm af
 refine .dd hP (No af) ?_
 conv=>cbv
 generalize al:Hq ad ac=r8
 refine .dd hP (XbZ (by assumption) (by assumption) al) ?_
 conv=>cbv
 generalize ag:Cb r8=r9
 have zr9:=Hm ag
 refine .dd hP (No ag) ?_
 conv=>cbv
 have ea:Gx aa ab=r7:=by rw[←af,←ak,X5]
 have eb:Gx ad ac=r9:=by rw[←ag,←al,X5]
 refine .eql (fun h10=>?_) fun h10=>?_
 conv=>cbv
 have e:(tx [])=Bu l:=(by unfold Bu;rw[hp,hd];simp only[I9];rw[ea,eb,if_pos (.inl h10)];rfl)
 rw[hr]at e
 subst e
 exact hQ _ _ (.s rfl rfl)
 conv=>cbv
 refine .eql (fun h11=>?_) fun h11=>?_
 conv=>cbv
 have e:(tx [])=Bu l:=(by unfold Bu;rw[hp,hd];simp only[I9];rw[ea,eb,if_pos (.inr h11)];rfl)
 rw[hr]at e
 subst e
 exact hQ _ _ (.s rfl rfl)
 conv=>cbv
 refine .go fun a1 am au=>?_
 conv=>cbv
 refine .go fun ap an aw=>?_
 conv=>cbv
 refine .add fun aq ax=>?_
 conv=>cbv
 exact .go [] (ap,aq,aa,ad) (hJ _ ⟨k+1,pr++(r7++r9),by omega,by omega,by rw[an,am,hs];simp only[ByteArray.append_assoc],by rw[ByteArray.size_append,ByteArray.size_append];omega,ai,aj,by rw[hp,hd];simp only[I9];rw[ea,eb,if_neg (by intro h;rcases h with h|h;exact h10 h;exact h11 h),Option.map_map];congr 1;funext t;simp only[Function.comp,ByteArray.append_assoc]⟩ mlt)
 conv=>cbv
 have e:s3=Bu l:=(by unfold Bu;rw[hp,List.drop_of_length_le (by omega),hs];simp[I9,Zz])
 rw[hr]at e
 subst e
 exact hQ _ _ (.s rfl rfl)
end
section
open Go Go.Proofs
set_option maxRecDepth 20000
set_option maxHeartbeats 4000000
def Xbg:List (Nat×TyRow):=[ty3,ty9,XkJ,XlN,Xld]
theorem Xbu:Bl Tryz.prog Xbg:=Bl.of (by kernel_rfl)
theorem Xd0:Setup Tryz.prog Xbg:=⟨Xbu,mixed⟩
theorem Xcm{l:List He}{xl:List (List D)}{o:ByteArray}(hl:l.map Ta=xl)(hn:l.length≤1000000000)(hw:wfPl l)(hr:Bu l=o):Fn Tryz.prog 299 [.d (.row 2 xl)] [] ⟨S o,[],[]⟩:=by
 refine Fn.go Xd0 Tryz.func299 fun P hP Q hQ=>?_
 conv=>cbv
 refine .go hl fun v1 az=>?_
 conv=>cbv
 generalize al:Cb v1=r2
 have zr2:=Hm al
 refine .dd hP (Vd al) ?_
 conv=>cbv
 obtain⟨nb3,hnb3⟩:∃m,([]:List UInt8).length+r2.size=m:=⟨_,rfl⟩
 obtain⟨b3,am⟩:∃m,[]++r2.data.toList=m:=⟨_,rfl⟩
 obtain⟨kb3,aq⟩:∃m,(r2.size:Int)=m:=⟨_,rfl⟩
 have lb3:nb3=b3.length:=by rw[←am,List.length_append,Array.length_toList];exact hnb3.symm
 refine .bx [2,0] [0] hP (XdO rfl (by first|omega|(simp;omega)) hnb3 am aq) rfl rfl rfl rfl ?_
 conv=>cbv
 refine .go hl fun v4 a8=>?_
 conv=>cbv
 refine LoopW.lp (κ:=Int×Int×Int×(List UInt8)×Nat) Xd0 hP [3] [3,4,15,16] (fun(ac,ad,ae,aa,ag)=>[(17,I ac)]) (fun(ac,ad,ae,aa,ag)=>[(2,.box 216 [.ptr 2 0 0,.ref 5 0 ag]),(4,.box 162 [I ad,I ae]),(5,.buf 5 false aa)])
  (fun(ac,ad,ae,aa,ag)=>ag=aa.length∧∃(k:Nat) (pr:ByteArray),ac=(k:Int)∧k≤l.length∧aa=(Cb l.length++pr).data.toList∧pr.size≤10*k∧wfI ad∧wfI ae∧I9 (0,0) l=(I9 (ad,ae) (l.drop k)).map fun t=>pr++t)
  (fun(ac,ad,ae,aa,ag)=>(l.length - ac).toNat) (0,0,0,b3,nb3) ⟨lb3,0,tx [],rfl,by omega,by rw[←am,Zz,←az,al];rfl,by simp[A3],by constructor<;>omega,by constructor<;>omega,by simp[XgB]⟩ ⟨rfl,trivial⟩ rfl ?_
 rintro⟨ac,ad,ae,aa,ag⟩ J ⟨ak,k,pr,hi,hk,hs,hz,hwa,hwb,hp⟩ hJ
 have z1:1≤(Cb l.length).size:=by unfold Cb;rw[if_pos (by omega),A3];exact List.length_pos_iff.2 (Xc7 _)
 have zv:=Ia l.length
 have zl:aa.length=(Cb l.length).size+pr.size:=by rw[hs,Array.length_toList];exact ByteArray.size_append
 conv=>cbv
 refine .lss (fun h5=>?_) fun h5=>?_
 conv=>cbv
 refine .go ac.toNat hl fun a2 ⟨ab,af⟩ ar=>?_
 conv=>cbv
 have hkl:k<l.length:=by omega
 have hd:l.drop k=⟨ab,af⟩::l.drop (k+1):=by rw[List.drop_eq_getElem_cons hkl,ar];congr 2;omega
 obtain⟨au,aw⟩:=hw ⟨ab,af⟩ (by rw[ar];exact List.getElem_mem _)
 simp only[]at au aw
 generalize ah:Gx ab ad=r7
 have zr7:=Tx ah
 refine .dd hP (Xg6 (by assumption) (by assumption) ah) ?_
 conv=>cbv
 generalize ai:Gx af ae=r8
 have zr8:=Tx ai
 refine .dd hP (Xg6 (by assumption) (by assumption) ai) ?_
 conv=>cbv
 refine .eql (fun h9=>?_) fun h9=>?_
 conv=>cbv
 have e:(tx [])=Bu l:=(by unfold Bu;rw[hp,hd];simp only[I9];rw[ah,ai,if_pos (.inl h9)];rfl)
 rw[hr]at e
 subst e
 exact hQ _ _ (.s rfl rfl)
 conv=>cbv
 refine .eql (fun h10=>?_) fun h10=>?_
 conv=>cbv
 have e:(tx [])=Bu l:=(by unfold Bu;rw[hp,hd];simp only[I9];rw[ah,ai,if_pos (.inr h10)];rfl)
 rw[hr]at e
 subst e
 exact hQ _ _ (.s rfl rfl)
 conv=>cbv
 refine .go fun an ax a6=>?_
 conv=>cbv
 obtain⟨nb12,hnb12⟩:∃m,(aa:List UInt8).length+an.size=m:=⟨_,rfl⟩
 obtain⟨ay,aj⟩:∃m,aa++an.data.toList=m:=⟨_,rfl⟩
 obtain⟨kb12,ao⟩:∃m,(an.size:Int)=m:=⟨_,rfl⟩
 have lb12:nb12=ay.length:=by rw[←aj,List.length_append,Array.length_toList];exact hnb12.symm
 refine .bx [2,5] [5] hP (XeY ak (by first|omega|(simp;omega)) hnb12 aj ao) rfl rfl rfl rfl ?_
 conv=>cbv
 refine .add fun a1 a7=>?_
 conv=>cbv
 exact .go [7] (a1,ab,af,ay,nb12) (hJ _ ⟨Cv,k+1,pr++(r7++r8),by omega,by omega,by rw[←aj,hs,ax];simp[ByteArray.data_append,List.append_assoc],by rw[ByteArray.size_append,ByteArray.size_append];omega,au,aw,by rw[hp,hd];simp only[I9];rw[ah,ai,if_neg (by intro h;rcases h with h|h;exact h9 h;exact h10 h),Option.map_map];congr 1;funext t;simp only[Function.comp,ByteArray.append_assoc]⟩ mlt)
 conv=>cbv
 obtain⟨b6,ap⟩:∃m,tx aa=m:=⟨_,rfl⟩
 have zb6:b6.size=aa.length:=by rw[←ap,A3]
 refine .bx [2,5] [5] hP (Xer (x:=.ptr 0 0 0) ak (by intro e;rw[e]at zl;simp at zl;omega) (by first|omega|(simp;omega)) ap) rfl rfl rfl rfl ?_
 conv=>cbv
 have e:b6=Bu l:=(by unfold Bu;rw[hp,List.drop_of_length_le (by omega)];simp only[I9,Option.map_some,Zz];rw[←ap,hs,Vk])
 rw[hr]at e
 subst e
 exact hQ _ _ (.s rfl rfl)
end
section
open Go Go.Proofs
set_option maxRecDepth 20000
set_option maxHeartbeats 4000000
def Xbf:List (Nat×TyRow):=[ty3,ty9,Xal,XiF,XkJ]
theorem XbP:Bl Tryz.prog Xbf:=Bl.of (by kernel_rfl)
theorem Xfb:Setup Tryz.prog Xbf:=⟨XbP,mixed⟩
theorem Ue{h:A0}{offs:List Int}{fin:Int}{o:ByteArray}(e:B1 h offs fin=o):o.size≤57+10*offs.length:=by rw[←e];exact Sx _ _ _
variable {hver hstr hbas hlin fin:Int} {offs:List Int} {xoffs:List (List D)} {o:ByteArray}
theorem Xfv(hoffs:offs.map cI=xoffs)(hl:offs.length≤1000000000)(hwo:∀x∈offs,wfI x)(hf:fin<9223372036854775808)(hr:B1 (⟨hver,hstr,hbas,hlin⟩:A0) offs fin=o):Fn Tryz.prog 255 [.agg [I hver,I hstr,I hbas,I hlin],.d (.row 1 xoffs),I fin] [] ⟨S o,[],[]⟩:=by
 refine Fn.go Xfb Tryz.func255 fun P hP Q hQ=>?_
 conv=>cbv
 generalize ag:Ct (⟨hver,hstr,hbas,hlin⟩:A0)=r1
 refine .dd hP (Xae ag) ?_
 cases r1
 conv=>cbv
 have e:(tx [])=B1 (⟨hver,hstr,hbas,hlin⟩:A0) offs fin:=(by unfold B1;rw[if_neg];rintro⟨q1,q2,q3,q4⟩;simp only[]at q1 q2 q3 q4;rw[ag]at q1;cases q1)
 rw[hr]at e
 subst e
 exact hQ _ _ (.s rfl rfl)
 conv=>cbv
 have hh:=Hu ag
 refine .go hoffs fun v2 aj=>?_
 conv=>cbv
 refine .add fun v3 ak=>?_
 conv=>cbv
 generalize ac:Cf hver v3=r4
 have zr4:=Lq ac
 refine .dd hP (XbE ac) ?_
 conv=>cbv
 generalize ab:Cs hstr offs=l5
 generalize al:l5.map Ta=a7
 refine .dd hP (Xf1 hoffs (by omega) ab al) ?_
 conv=>cbv
 have zl5:l5.length≤offs.length:=ab▸Mo
 generalize ad:Bu l5=r6
 have zr6:=Rd ad
 refine .dd hP (Xcm al (by omega) (ab▸S8 hwo (by omega)) ad) ?_
 conv=>cbv
 refine .go hoffs fun v7 am=>?_
 conv=>cbv
 generalize aa:Bd fin v7 hstr 0=r8
 have zr8:=Gy aa
 refine .dd hP (Qt (by omega) (by omega) (by omega) (by omega) aa) ?_
 conv=>cbv
 refine .eql (fun h9=>?_) fun h9=>?_
 conv=>cbv
 have e:(tx [])=B1 (⟨hver,hstr,hbas,hlin⟩:A0) offs fin:=(by unfold B1;rw[if_neg];rintro⟨q1,q2,q3,q4⟩;simp only[]at q1 q2 q3 q4;rw[←aj,←ak,ac]at q2;exact q2 h9)
 rw[hr]at e
 subst e
 exact hQ _ _ (.s rfl rfl)
 conv=>cbv
 refine .eql (fun h10=>?_) fun h10=>?_
 conv=>cbv
 have e:(tx [])=B1 (⟨hver,hstr,hbas,hlin⟩:A0) offs fin:=(by unfold B1;rw[if_neg];rintro⟨q1,q2,q3,q4⟩;simp only[]at q1 q2 q3 q4;rw[ab,ad]at q3;exact q3 h10)
 rw[hr]at e
 subst e
 exact hQ _ _ (.s rfl rfl)
 conv=>cbv
 refine .eql (fun h11=>?_) fun h11=>?_
 conv=>cbv
 have e:(tx [])=B1 (⟨hver,hstr,hbas,hlin⟩:A0) offs fin:=(by unfold B1;rw[if_neg];rintro⟨q1,q2,q3,q4⟩;simp only[]at q1 q2 q3 q4;rw[←am,aa]at q4;exact q4 h11)
 rw[hr]at e
 subst e
 exact hQ _ _ (.s rfl rfl)
 conv=>cbv
 refine .go fun a8 ah ay=>?_
 conv=>cbv
 have z8:r8.size=20:=by rw[←aa];exact Nm (by rw[aa];exact h11)
 refine .hi fun ar ai=>?_
 conv=>cbv
 have ba:ar.size=12:=by rw[ai,T8 (by omega) (by omega)];rfl
 refine .go fun au an az=>?_
 conv=>cbv
 generalize ae:Fw au=aw
 have zr15:=Iw ae
 refine .dd hP (Ub (by omega) ae) ?_
 conv=>cbv
 refine .go fun bb ao a1=>?_
 conv=>cbv
 refine .go hoffs fun ap a2=>?_
 conv=>cbv
 generalize af:Bd fin ap hstr aw=bc
 have zr18:=Gy af
 refine .dd hP (Qt (by omega) (by omega) (by omega) (by omega) af) ?_
 conv=>cbv
 refine .go fun ax aq a6=>?_
 conv=>cbv
 have e:ax=B1 (⟨hver,hstr,hbas,hlin⟩:A0) offs fin:=(by have q:B1 ⟨hver,hstr,hbas,hlin⟩ offs fin=_:=if_pos ⟨ag,by simp only[];rw[←aj,←ak,ac];exact h9,by simp only[];rw[ab,ad];exact h10,by simp only[];rw[←am,aa];exact h11⟩;rw[q];simp only[];rw[←aj,←ak,ac,ab,ad,show(v2:Int)=v7 by omega,aa,←ah,aq,ao,←ah,←af,←ae,an,ai,show ap=v7 by omega];rfl)
 rw[hr]at e
 subst e
 exact hQ _ _ (.s rfl rfl)
theorem Xf0(hoffs:offs.map cI=xoffs)(hl:offs.length≤1000000000)(hwo:∀x∈offs,wfI x)(hf:fin<9223372036854775808)(hr:B1 (⟨hver,hstr,hbas,hlin⟩:A0) offs fin=o):Fn Tryz.prog 89 [.agg [I hver,I hstr,I hbas,I hlin],.d (.row 1 xoffs),I fin] [] ⟨S o,[],[]⟩:=by
 refine Fn.go Xfb Tryz.func89 fun P hP Q hQ=>?_
 conv=>cbv
 generalize ag:Ct (⟨hver,hstr,hbas,hlin⟩:A0)=r1
 refine .dd hP (Zy ag) ?_
 cases r1
 conv=>cbv
 have e:(tx [])=B1 (⟨hver,hstr,hbas,hlin⟩:A0) offs fin:=(by unfold B1;rw[if_neg];rintro⟨q1,q2,q3,q4⟩;simp only[]at q1 q2 q3 q4;rw[ag]at q1;cases q1)
 rw[hr]at e
 subst e
 exact hQ _ _ (.s rfl rfl)
 conv=>cbv
 have hh:=Hu ag
 refine .go hoffs fun v2 aj=>?_
 conv=>cbv
 refine .add fun v3 ak=>?_
 conv=>cbv
 generalize ac:Cf hver v3=r4
 have zr4:=Lq ac
 refine .dd hP (Xcd ac) ?_
 conv=>cbv
 generalize ab:Cs hstr offs=l5
 generalize al:l5.map Ta=a7
 refine .dd hP (Xgk hoffs (by omega) ab al) ?_
 conv=>cbv
 have zl5:l5.length≤offs.length:=ab▸Mo
 generalize ad:Bu l5=r6
 have zr6:=Rd ad
 refine .dd hP (XaC al (by omega) (ab▸S8 hwo (by omega)) ad) ?_
 conv=>cbv
 refine .go hoffs fun v7 am=>?_
 conv=>cbv
 generalize aa:Bd fin v7 hstr 0=r8
 have zr8:=Gy aa
 refine .dd hP (P6 (by omega) (by omega) (by omega) (by omega) aa) ?_
 conv=>cbv
 refine .eql (fun h9=>?_) fun h9=>?_
 conv=>cbv
 have e:(tx [])=B1 (⟨hver,hstr,hbas,hlin⟩:A0) offs fin:=(by unfold B1;rw[if_neg];rintro⟨q1,q2,q3,q4⟩;simp only[]at q1 q2 q3 q4;rw[←aj,←ak,ac]at q2;exact q2 h9)
 rw[hr]at e
 subst e
 exact hQ _ _ (.s rfl rfl)
 conv=>cbv
 refine .eql (fun h10=>?_) fun h10=>?_
 conv=>cbv
 have e:(tx [])=B1 (⟨hver,hstr,hbas,hlin⟩:A0) offs fin:=(by unfold B1;rw[if_neg];rintro⟨q1,q2,q3,q4⟩;simp only[]at q1 q2 q3 q4;rw[ab,ad]at q3;exact q3 h10)
 rw[hr]at e
 subst e
 exact hQ _ _ (.s rfl rfl)
 conv=>cbv
 refine .eql (fun h11=>?_) fun h11=>?_
 conv=>cbv
 have e:(tx [])=B1 (⟨hver,hstr,hbas,hlin⟩:A0) offs fin:=(by unfold B1;rw[if_neg];rintro⟨q1,q2,q3,q4⟩;simp only[]at q1 q2 q3 q4;rw[←am,aa]at q4;exact q4 h11)
 rw[hr]at e
 subst e
 exact hQ _ _ (.s rfl rfl)
 conv=>cbv
 refine .go fun a8 ah ay=>?_
 conv=>cbv
 have z8:r8.size=20:=by rw[←aa];exact Nm (by rw[aa];exact h11)
 refine .hi fun ar ai=>?_
 conv=>cbv
 have ba:ar.size=12:=by rw[ai,T8 (by omega) (by omega)];rfl
 refine .go fun au an az=>?_
 conv=>cbv
 generalize ae:Fw au=aw
 have zr15:=Iw ae
 refine .dd hP (Uj (by omega) ae) ?_
 conv=>cbv
 refine .go fun bb ao a1=>?_
 conv=>cbv
 refine .go hoffs fun ap a2=>?_
 conv=>cbv
 generalize af:Bd fin ap hstr aw=bc
 have zr18:=Gy af
 refine .dd hP (P6 (by omega) (by omega) (by omega) (by omega) af) ?_
 conv=>cbv
 refine .go fun ax aq a6=>?_
 conv=>cbv
 have e:ax=B1 (⟨hver,hstr,hbas,hlin⟩:A0) offs fin:=(by have q:B1 ⟨hver,hstr,hbas,hlin⟩ offs fin=_:=if_pos ⟨ag,by simp only[];rw[←aj,←ak,ac];exact h9,by simp only[];rw[ab,ad];exact h10,by simp only[];rw[←am,aa];exact h11⟩;rw[q];simp only[];rw[←aj,←ak,ac,ab,ad,show(v2:Int)=v7 by omega,aa,←ah,aq,ao,←ah,←af,←ae,an,ai,show ap=v7 by omega];rfl)
 rw[hr]at e
 subst e
 exact hQ _ _ (.s rfl rfl)
end
section
open Go Go.Proofs
set_option maxRecDepth 20000
set_option maxHeartbeats 4000000
def XdY:List (Nat×TyRow):=[ty3,ty9,Xgo,We,Xal,XiF,Xld]
theorem XcQ:Bl Tryz.prog XdY:=Bl.of (by kernel_rfl)
theorem Nf:Setup Tryz.prog XdY:=⟨XcQ,mixed⟩
def C0(v:Int):Int→List ByteArray→List UInt8
 |_,[]=>[]
 |p,r::l=>(Ai v p r).data.toList++C0 v (p+1) l
def Gb(v:Int):Int→Int→List ByteArray→List Int
 |_,_,[]=>[]
 |p,k,r::l=>k::Gb v (p+1) (k+(Ai v p r).size) l
def Zd(h:A0)(l:List ByteArray):List UInt8:=(Bj h).data.toList++C0 h.version_ h.base_ l
def A7(h:A0)(l:List ByteArray):ByteArray:=
 if Ct h=true∧l.length≤1000∧h.base_+l.length≤1000000000∧∀r∈l,r.size≤60 then
  tx (Zd h l)++B1 h (Gb h.version_ h.base_ (Bj h).size l) (Zd h l).length
 else tx []
theorem M7{v:Int}:∀{l:List ByteArray} {p:Int} {r:ByteArray},C0 v p (l++[r])=C0 v p l++(Ai v (p+l.length) r).data.toList
 |[],p,r=>by simp[C0]
 |x::l,p,r=>by
  rw[List.cons_append,C0,C0,M7,List.append_assoc,List.length_cons,show p+1+(l.length:Int)=p+((l.length+1:Nat):Int)by omega]
theorem Sq{v:Int}:∀{l:List ByteArray} {p k:Int} {r:ByteArray},Gb v p k (l++[r])=Gb v p k l++[k+(C0 v p l).length]
 |[],p,k,r=>by simp[C0,Gb]
 |x::l,p,k,r=>by
  have e:(Ai v p x).data.toList.length=(Ai v p x).size:=Array.length_toList
  rw[List.cons_append,Gb,Gb,Sq,C0,List.cons_append,List.length_append,e,show k+((Ai v p x).size:Int)+((C0 v (p+1) l).length:Int)=k+(((Ai v p x).size+(C0 v (p+1) l).length:Nat):Int)by omega]
theorem N5{v:Int}:∀{l:List ByteArray} {p k:Int},(Gb v p k l).length=l.length
 |[],_,_=>rfl
 |x::l,p,k=>by rw[Gb,List.length_cons,List.length_cons,N5]
theorem Kj{v:Int}:∀{l:List ByteArray} {p:Int},(C0 v p l).length≤84*l.length
 |[],_=>by simp[C0]
 |x::l,p=>by
  have:=@Kj v l (p+1)
  have h:=D9 (rfl:Ai v p x=_)
  have e:(Ai v p x).data.size=(Ai v p x).size:=rfl
  rw[C0,List.length_append,Array.length_toList,List.length_cons]
  omega
theorem Uh{v:Int}:∀{l:List ByteArray} {p k:Int},0≤k→∀x∈Gb v p k l,0≤x∧x≤k+84*l.length
 |[],_,_,_,x,hx=>by simp[Gb]at hx
 |y::l,p,k,hk,x,hx=>by
  rw[Gb,List.mem_cons]at hx
  have h:=D9 (rfl:Ai v p y=_)
  rcases hx with rfl|hx
  ·rw[List.length_cons];omega
  ·have:=@Uh v l (p+1) (k+(Ai v p y).size) (by omega) x hx
   rw[List.length_cons];omega
theorem Dt{h:A0}{l:List ByteArray}{o:ByteArray}(e:A7 h l=o):o.size≤200000:=by
 rw[←e]
 unfold A7
 split
 ·rename_i hc
  have h1:=Sx h (Gb h.version_ h.base_ (Bj h).size l) (Zd h l).length
  have h2:=G8 (rfl:Bj h=_)
  have h3:=@Kj h.version_ l h.base_
  rw[ByteArray.size_append,A3]
  rw[N5]at h1
  have e:(Bj h).data.size=(Bj h).size:=rfl
  have h4:(Zd h l).length=(Bj h).size+(C0 h.version_ h.base_ l).length:=by unfold Zd;rw[List.length_append,Array.length_toList];rfl
  omega
 ·simp[A3]
def Cm(s:ByteArray):Bool:=decide (60<s.size)
def Br(l:List ByteArray):Int:=if l.findIdx Cm<l.length then(l.findIdx Cm:Int)else -1
def Bz(l:List ByteArray):Bool:=l.any Cm
theorem XlQ{l:List ByteArray}{i:Int}(h0:0≤i)(hi:i.toNat<l.length)(h:Cm l[i.toNat]=true)(hb:∀(j:Nat) (hj:j<l.length),j<i.toNat→Cm l[j]=false):i=Br l:=by
 have e:l.findIdx Cm=i.toNat:=(List.findIdx_eq hi).2 ⟨h,fun j hji=>hb j (by omega) hji⟩
 unfold Br
 rw[e,if_pos hi]
 omega
theorem XjF{l:List ByteArray}(hb:∀(j:Nat) (hj:j<l.length),Cm l[j]=false): -1=Br l:=by
 unfold Br
 rw[if_neg]
 intro hlt
 have:=List.findIdx_getElem (w:=hlt)
 rw[hb _ hlt]at this
 cases this
theorem XhY{l:List ByteArray}:Bz l=decide (0≤Br l):=by
 unfold Bz Br
 by_cases h:l.findIdx Cm<l.length
 ·rw[if_pos h]
  have:=List.findIdx_getElem (w:=h)
  rw[List.any_eq_true.2 ⟨_,List.getElem_mem h,this⟩]
  simp
 ·rw[if_neg h]
  have:l.any Cm=false:=by
   rw[List.any_eq_false]
   intro x hx hp
   exact h (List.findIdx_lt_length_of_exists ⟨x,hx,hp⟩)
  rw[this]
  rfl
theorem XbD{l:List ByteArray}(h:Bz l=false):∀r∈l,r.size≤60:=by
 intro r hr
 have:=List.any_eq_false.1 h r hr
 simp[Cm]at this
 exact this
theorem Xh7{l:List ByteArray}(h:Bz l=true):¬∀r∈l,r.size≤60:=by
 intro hh
 obtain⟨r,hr,h'⟩:=List.any_eq_true.1 h
 have:=hh r hr
 simp[Cm]at h'
 omega
variable {o:ByteArray} {l:List ByteArray} {xl:List (List D)} {hver hstr hbas hlin:Int}
theorem Xb0{s:ByteArray}{o:Bool}(hr:Cm s=o):Fn Tryz.prog 249 [S s] [] ⟨B o,[],[]⟩:=by
 refine Fn.go Nf Tryz.func249 fun P hP Q hQ=>?_
 conv=>cbv
 refine .go fun v1 aa=>?_
 conv=>cbv
 refine .gtr (fun h2=>?_) fun h2=>?_
 conv=>cbv
 have e:true=Cm s:=(by unfold Cm;rw[eq_comm,decide_eq_true_iff];omega)
 rw[hr]at e
 subst e
 exact hQ _ _ (.b rfl rfl)
 conv=>cbv
 have e:false=Cm s:=(by unfold Cm;rw[eq_comm,decide_eq_false_iff_not];omega)
 rw[hr]at e
 subst e
 exact hQ _ _ (.b rfl rfl)
theorem M0{o:Int}(hl:l.map cS=xl)(hn:l.length<2^40)(hr:Br l=o):Fn Tryz.prog 228 [.d (.row 1 xl),.clo 249 []] [] ⟨I o,[],[]⟩:=by
 refine Fn.go Nf Tryz.func228 fun P hP Q hQ=>?_
 conv=>cbv
 refine .go hl fun v1 ad=>?_
 conv=>cbv
 refine LoopW.lp (κ:=Int) Nf hP [] [0,1,7] (fun i8=>[(8,I i8)]) (fun i8=>[])
  (fun i8=>0≤i8∧i8≤l.length∧∀(j:Nat) (hj:j<l.length),j<i8.toNat→Cm l[j]=false)
  (fun i8=>(l.length - i8).toNat) (0) ⟨by omega,by omega,fun j _ h=>by simp at h⟩ ⟨rfl,trivial⟩ rfl ?_
 rintro i8 J ⟨h0,h1,hb⟩ hJ
 conv=>cbv
 refine .lss (fun h2=>?_) fun h2=>?_
 conv=>cbv
 refine .go i8.toNat hl fun ac e3 ab=>?_
 conv=>cbv
 generalize aa:Cm e3=r4
 refine .dd hP (Xb0 aa) ?_
 cases r4
 conv=>cbv
 refine .add fun v5 ae=>?_
 conv=>cbv
 exact .go [] (v5) (hJ _ ⟨by omega,by omega,fun j hj h=>if e:j=i8.toNat then by subst e;rw[←ab];exact aa else hb j hj (by omega)⟩ mlt)
 conv=>cbv
 have e:i8=Br l:=(by exact XlQ h0 (by omega) (ab▸aa) hb)
 rw[hr]at e
 subst e
 exact hQ _ _ (.i rfl rfl)
 conv=>cbv
 have e:(-1)=Br l:=(by exact XjF fun j hj=>hb j hj (by omega))
 rw[hr]at e
 subst e
 exact hQ _ _ (.i rfl rfl)
theorem Lg{o:Bool}(hl:l.map cS=xl)(hn:l.length<2^40)(hr:Bz l=o):Fn Tryz.prog 248 [.d (.row 1 xl),.clo 249 []] [] ⟨B o,[],[]⟩:=by
 refine Fn.go Nf Tryz.func248 fun P hP Q hQ=>?_
 conv=>cbv
 generalize aa:Br l=r1
 refine .dd hP (M0 hl hn aa) ?_
 conv=>cbv
 refine .geq (fun h2=>?_) fun h2=>?_
 conv=>cbv
 have e:true=Bz l:=(by rw[XhY,aa,eq_comm,decide_eq_true_iff];omega)
 rw[hr]at e
 subst e
 exact hQ _ _ (.b rfl rfl)
 conv=>cbv
 have e:false=Bz l:=(by rw[XhY,aa,eq_comm,decide_eq_false_iff_not];omega)
 rw[hr]at e
 subst e
 exact hQ _ _ (.b rfl rfl)
theorem Xad{h:A0}(hk:Ct h=true):0<(Bj h).size:=by
 unfold Bj
 rw[if_pos hk,ByteArray.size_append]
 have:0<(Xcw h).size:=by
  unfold Xcw
  simp only[ByteArray.size_append,A3,List.length_cons]
  omega
 omega
theorem Om(hl:l.map cS=xl)(hn:l.length<2^40)(hr:A7 (⟨hver,hstr,hbas,hlin⟩:A0) l=o):Fn Tryz.prog 206 [.agg [I hver,I hstr,I hbas,I hlin],.d (.row 1 xl)] [] ⟨S o,[],[]⟩:=by
 refine Fn.go Nf Tryz.func206 fun P hP Q hQ=>?_
 conv=>cbv
 generalize ag:Ct (⟨hver,hstr,hbas,hlin⟩:A0)=r1
 refine .dd hP (Xae ag) ?_
 cases r1
 conv=>cbv
 have e:(tx [])=A7 (⟨hver,hstr,hbas,hlin⟩:A0) l:=(by unfold A7;rw[if_neg];rintro⟨q,_⟩;rw[ag]at q;cases q)
 rw[hr]at e
 subst e
 exact hQ _ _ (.s rfl rfl)
 conv=>cbv
 refine .go hl fun v2 bk=>?_
 conv=>cbv
 refine .gtr (fun h3=>?_) fun h3=>?_
 conv=>cbv
 have e:(tx [])=A7 (⟨hver,hstr,hbas,hlin⟩:A0) l:=(by unfold A7;rw[if_neg];rintro⟨_,q,_⟩;omega)
 rw[hr]at e
 subst e
 exact hQ _ _ (.s rfl rfl)
 conv=>cbv
 refine .go hl fun v4 bl=>?_
 conv=>cbv
 have hh:=Hu ag
 refine .add fun v5 bm=>?_
 conv=>cbv
 generalize aq:Bc v5=r6
 refine .dd hP (Fy aq) ?_
 cases r6
 simp only[Bc,decide_eq_true_eq,decide_eq_false_iff_not]at aq
 conv=>cbv
 have e:(tx [])=A7 (⟨hver,hstr,hbas,hlin⟩:A0) l:=(by unfold A7;rw[if_neg];rintro⟨_,_,q,_⟩;simp only[]at q;omega)
 rw[hr]at e
 subst e
 exact hQ _ _ (.s rfl rfl)
 simp only[Bc,decide_eq_true_eq,decide_eq_false_iff_not]at aq
 conv=>cbv
 generalize an:Bz l=r7
 refine .dd hP (Lg hl (by omega) an) ?_
 cases r7
 conv=>cbv
 generalize ah:Bj (⟨hver,hstr,hbas,hlin⟩:A0)=r8
 have zr8:=G8 ah
 refine .dd hP (Xl ah) ?_
 conv=>cbv
 have zp:=Xad ag;rw[ah]at zp
 obtain⟨nb9,hnb9⟩:∃m,([]:List UInt8).length+r8.size=m:=⟨_,rfl⟩
 obtain⟨b9,ar⟩:∃m,[]++r8.data.toList=m:=⟨_,rfl⟩
 obtain⟨kb9,a1⟩:∃m,(r8.size:Int)=m:=⟨_,rfl⟩
 have lb9:nb9=b9.length:=by rw[←ar,List.length_append,Array.length_toList];exact hnb9.symm
 refine .bx [3,1] [1] hP (XdO rfl (by first|omega|(simp;omega)) hnb9 ar a1) rfl rfl rfl rfl ?_
 conv=>cbv
 refine .go hl fun bn bf=>?_
 conv=>cbv
 refine LoopW.lp (κ:=Int×(List UInt8)×Nat×(List (List D))×Nat) Nf hP [4,5] [2,5,35,36] (fun(aa,ab,ac,ae,af)=>[(6,.ref 7 0 af),(37,I aa)]) (fun(aa,ab,ac,ae,af)=>[(3,.box 216 [.ptr 3 0 0,.ref 6 0 ac]),(6,.buf 5 false ab),(7,.row 1 false ae)])
  (fun(aa,ab,ac,ae,af)=>∃(w7:List Int),ac=ab.length∧w7.map cI=ae∧af=w7.length∧0≤aa∧aa≤l.length∧ab=r8.data.toList++C0 hver hbas (l.take aa.toNat)∧w7=Gb hver hbas r8.size (l.take aa.toNat))
  (fun(aa,ab,ac,ae,af)=>(l.length - aa).toNat) (0,b9,nb9,[],0) ⟨[],lb9,rfl,rfl,by omega,by omega,by rw[←ar];simp[C0],by simp[Gb]⟩ ⟨rfl,rfl,trivial⟩ rfl ?_
 rintro⟨aa,ab,ac,ae,af⟩ J ⟨w7,ao,au,bg,h0,h1,hz,hw⟩ hJ
 have q1:=@Kj hver (l.take aa.toNat) hbas
 have q2:(l.take aa.toNat).length=aa.toNat:=by rw[List.length_take];omega
 have q4:ab.length=r8.size+(C0 hver hbas (l.take aa.toNat)).length:=by rw[hz,List.length_append,Array.length_toList];rfl
 have q5:w7.length=aa.toNat:=by rw[hw,N5,q2]
 conv=>cbv
 refine .lss (fun h11=>?_) fun h11=>?_
 conv=>cbv
 refine .go aa.toNat hl fun ba aw ap=>?_
 conv=>cbv
 obtain⟨kb13,ad⟩:∃m,((ac:Nat):Int)=m:=⟨_,rfl⟩
 refine .bx [3,6] [6] hP (Xlp (bs:=ab) ad) rfl rfl rfl rfl ?_
 conv=>cbv
 refine .one kb13 au rfl fun a2 bb bc a6=>?_
 conv=>cbv
 have ze:=XbD an aw (ap▸List.getElem_mem _)
 refine .add fun a7 bh=>?_
 conv=>cbv
 generalize ai:Ai hver a7 aw=ax
 have zr16:=D9 ai
 refine .dd hP (Pd (by omega) ai) ?_
 conv=>cbv
 obtain⟨nb17,hnb17⟩:∃m,(ab:List UInt8).length+ax.size=m:=⟨_,rfl⟩
 obtain⟨ay,aj⟩:∃m,ab++ax.data.toList=m:=⟨_,rfl⟩
 obtain⟨kb17,az⟩:∃m,(ax.size:Int)=m:=⟨_,rfl⟩
 have lb17:nb17=ay.length:=by rw[←aj,List.length_append,Array.length_toList];exact hnb17.symm
 refine .bx [3,6] [6] hP (XeY ao (by first|omega|(simp;omega)) hnb17 aj az) rfl rfl rfl rfl ?_
 conv=>cbv
 refine .add fun ak bi=>?_
 conv=>cbv
 have t1:ak.toNat=aa.toNat+1:=by omega
 have t2:l.take ak.toNat=l.take aa.toNat++[aw]:=by rw[t1,ap,List.take_append_getElem]
 have t4:ay=r8.data.toList++C0 hver hbas (l.take ak.toNat):=by rw[←aj,hz,t2,M7,q2,List.append_assoc,show hbas+((aa.toNat:Nat):Int)=a7 by omega,ai]
 have t5:w7++[kb13]=Gb hver hbas r8.size (l.take ak.toNat):=by rw[t2,Sq,←hw,show kb13=(r8.size:Int)+((C0 hver hbas (l.take aa.toNat)).length:Int)by omega]
 exact .go [10,9] (ak,ay,nb17,bb,a2) (hJ _ ⟨_,Cv,a6,Cv,by omega,by omega,t4,t5⟩ mlt)
 conv=>cbv
 obtain⟨bd,al⟩:∃m,tx ab=m:=⟨_,rfl⟩
 have zb12:bd.size=ab.length:=by rw[←al,A3]
 refine .bx [3,6] [6] hP (Xer (x:=.ptr 0 0 0) ao (by intro e;rw[e]at q4;simp at q4;omega) (by first|omega|(simp;omega)) al) rfl rfl rfl rfl ?_
 conv=>cbv
 obtain⟨kb13,ad⟩:∃m,((ac:Nat):Int)=m:=⟨_,rfl⟩
 refine .bx [3,6] [6] hP (Xlp (bs:=ab) ad) rfl rfl rfl rfl ?_
 conv=>cbv
 generalize am:B1 (⟨hver,hstr,hbas,hlin⟩:A0) w7 kb13=bo
 have zr14:=Ue am
 refine .lnt hP (Xfv au (by omega) (fun x hx=>by rw[hw]at hx;have:=Uh (k:=(r8.size:Int)) (by omega) x hx;exact⟨by omega,by omega⟩) (by omega) am) (.agg (.d rfl (.d rfl (.d rfl (.d rfl .nil)))) (.ref rfl (by rw[←au,List.length_map];first|omega|(simp;omega)) (.d rfl .nil))) ?_
 conv=>cbv
 refine .go fun be a8 bj=>?_
 conv=>cbv
 have t0:l.take aa.toNat=l:=List.take_of_length_le (by omega)
 have e1:Zd ⟨hver,hstr,hbas,hlin⟩ l=ab:=by unfold Zd;rw[ah,hz,t0]
 have e2:Gb hver hbas r8.size l=w7:=by rw[hw,t0]
 have e:be=A7 (⟨hver,hstr,hbas,hlin⟩:A0) l:=(by unfold A7;rw[if_pos ⟨ag,by omega,by simp only[];omega,XbD an⟩,e1,ah,a8,←al,←am,←e2];show _=tx ab++B1 _ (Gb hver hbas r8.size l) ab.length;congr 2;omega)
 rw[hr]at e
 subst e
 exact hQ _ _ (.s rfl rfl)
 conv=>cbv
 have e:(tx [])=A7 (⟨hver,hstr,hbas,hlin⟩:A0) l:=(by unfold A7;rw[if_neg];rintro⟨_,_,_,q⟩;exact Xh7 an q)
 rw[hr]at e
 subst e
 exact hQ _ _ (.s rfl rfl)
theorem Js(hl:l.map cS=xl)(hn:l.length<2^40)(hr:A7 (⟨hver,hstr,hbas,hlin⟩:A0) l=o):Fn Tryz.prog 28 [.agg [I hver,I hstr,I hbas,I hlin],.d (.row 1 xl)] [] ⟨S o,[],[]⟩:=by
 refine Fn.go Nf Tryz.func28 fun P hP Q hQ=>?_
 conv=>cbv
 generalize aj:Ct (⟨hver,hstr,hbas,hlin⟩:A0)=r1
 refine .dd hP (Zy aj) ?_
 cases r1
 conv=>cbv
 have e:(tx [])=A7 (⟨hver,hstr,hbas,hlin⟩:A0) l:=(by unfold A7;rw[if_neg];rintro⟨q,_⟩;rw[aj]at q;cases q)
 rw[hr]at e
 subst e
 exact hQ _ _ (.s rfl rfl)
 conv=>cbv
 refine .go hl fun v2 bt=>?_
 conv=>cbv
 refine .gtr (fun h3=>?_) fun h3=>?_
 conv=>cbv
 have e:(tx [])=A7 (⟨hver,hstr,hbas,hlin⟩:A0) l:=(by unfold A7;rw[if_neg];rintro⟨_,q,_⟩;omega)
 rw[hr]at e
 subst e
 exact hQ _ _ (.s rfl rfl)
 conv=>cbv
 refine .go hl fun v4 bu=>?_
 conv=>cbv
 have hh:=Hu aj
 refine .add fun v5 bv=>?_
 conv=>cbv
 refine .gtr (fun h6=>?_) fun h6=>?_
 conv=>cbv
 have e:(tx [])=A7 (⟨hver,hstr,hbas,hlin⟩:A0) l:=(by unfold A7;rw[if_neg];rintro⟨_,_,q,_⟩;simp only[]at q;omega)
 rw[hr]at e
 subst e
 exact hQ _ _ (.s rfl rfl)
 conv=>cbv
 generalize ak:Bj (⟨hver,hstr,hbas,hlin⟩:A0)=r7
 have zr7:=G8 ak
 refine .dd hP (Sb ak) ?_
 conv=>cbv
 refine .go fun a2 z8 bi a6=>?_
 conv=>cbv
 refine LoopW.lp (κ:=Int×(List (List D))×Nat×(List (List D))×Nat) Nf hP [1,2] [1,2] (fun(i7,aa,ab,ac,ad)=>[(5,.ref 3 0 ab),(6,.ref 4 0 ad),(7,I i7)]) (fun(i7,aa,ab,ac,ad)=>[(3,.row 1 false aa),(4,.row 1 false ac)])
  (fun(i7,aa,ab,ac,ad)=>∃(w3:List UInt8) (w4:List Int),w3.map cB=aa∧ab=w3.length∧w4.map cI=ac∧ad=w4.length∧0≤i7∧i7≤l.length∧w3=r7.data.toList++C0 hver hbas (l.take i7.toNat)∧w4=Gb hver hbas r7.size (l.take i7.toNat)∧∀r∈l.take i7.toNat,r.size≤60)
  (fun(i7,aa,ab,ac,ad)=>(l.length - i7).toNat) (0,z8,a2,[],0) ⟨r7.data.toList,[],a6,(by first|omega|(simp;omega)),rfl,rfl,by omega,by omega,by simp[C0],by simp[Gb],by simp⟩ ⟨rfl,rfl,rfl,trivial⟩ rfl ?_
 rintro⟨i7,aa,ab,ac,ad⟩ J ⟨w3,w4,aq,bj,al,bk,h0,h1,hz,hw,am⟩ hJ
 have q1:=@Kj hver (l.take i7.toNat) hbas
 have q2:(l.take i7.toNat).length=i7.toNat:=by rw[List.length_take];omega
 have q4:w3.length=r7.size+(C0 hver hbas (l.take i7.toNat)).length:=by rw[hz,List.length_append,Array.length_toList];rfl
 have q5:w4.length=i7.toNat:=by rw[hw,N5,q2]
 conv=>cbv
 refine .go hl fun v9 bw=>?_
 conv=>cbv
 refine .lss (fun h10=>?_) fun h10=>?_
 conv=>cbv
 refine .go i7.toNat hl fun a7 a8 af=>?_
 conv=>cbv
 refine .go fun bz bl=>?_
 conv=>cbv
 refine .gtr (fun h13=>?_) fun h13=>?_
 conv=>cbv
 have e:(tx [])=A7 (⟨hver,hstr,hbas,hlin⟩:A0) l:=(by unfold A7;rw[if_neg];rintro⟨_,_,_,q⟩;have:=q a8 (af▸List.getElem_mem _);omega)
 rw[hr]at e
 subst e
 exact hQ _ _ (.s rfl rfl)
 conv=>cbv
 refine .go fun an bm=>?_
 conv=>cbv
 refine .one an al rfl fun ar ba bb au=>?_
 conv=>cbv
 refine .add fun aw bn=>?_
 conv=>cbv
 refine .go i7.toNat hl fun bc ao ag=>?_
 conv=>cbv
 have b0:ao.size≤60:=by rw[ag,←af];omega
 generalize ah:Ai hver aw ao=bd
 have zr18:=D9 ah
 refine .dd hP (Mh (by omega) ah) ?_
 conv=>cbv
 refine .str aq fun ax be bf ay=>?_
 conv=>cbv
 refine .add fun ae bo=>?_
 conv=>cbv
 have t1:ae.toNat=i7.toNat+1:=by omega
 have t2:l.take ae.toNat=l.take i7.toNat++[ao]:=by rw[t1,ag,List.take_append_getElem]
 have t4:w3++bd.data.toList=r7.data.toList++C0 hver hbas (l.take ae.toNat):=by rw[hz,t2,M7,q2,List.append_assoc,show hbas+((i7.toNat:Nat):Int)=aw by omega,ah]
 have t5:w4++[an]=Gb hver hbas r7.size (l.take ae.toNat):=by rw[t2,Sq,←hw,show an=(r7.size:Int)+((C0 hver hbas (l.take i7.toNat)).length:Int)by omega]
 have t6:∀r∈l.take ae.toNat,r.size≤60:=by rw[t2];intro r hr';rcases List.mem_append.1 hr' with h|h;exact am r h;rw[List.mem_singleton.1 h,ag,←af];omega
 exact .go [7,6] (ae,be,ax,ba,ar) (hJ _ ⟨_,_,ay,Cv,au,Cv,by omega,by omega,t4,t5,t6⟩ mlt)
 conv=>cbv
 refine .go fun bg bp=>?_
 conv=>cbv
 generalize ai:B1 (⟨hver,hstr,hbas,hlin⟩:A0) w4 bg=b2
 have zr12:=Ue ai
 refine .lnt hP (Xf0 al (by omega) (fun x hx=>by rw[hw]at hx;have:=Uh (k:=(r7.size:Int)) (by omega) x hx;exact⟨by omega,by omega⟩) (by omega) ai) (.agg (.d rfl (.d rfl (.d rfl (.d rfl .nil)))) (.ref rfl (by rw[←al,List.length_map];first|omega|(simp;omega)) (.d rfl .nil))) ?_
 conv=>cbv
 refine .str aq fun bq b3 ap az=>?_
 conv=>cbv
 refine .go az (hn:=by rw[ap,List.length_append,Array.length_toList];rfl) fun bh a1=>?_
 conv=>cbv
 have t0:l.take i7.toNat=l:=List.take_of_length_le (by omega)
 have e1:Zd ⟨hver,hstr,hbas,hlin⟩ l=w3:=by unfold Zd;rw[ak,hz,t0]
 have e2:Gb hver hbas r7.size l=w4:=by rw[hw,t0]
 rw[t0]at am
 have e:bh=A7 (⟨hver,hstr,hbas,hlin⟩:A0) l:=(by unfold A7;rw[if_pos ⟨aj,by omega,by simp only[];omega,am⟩,e1,ak,a1,←Cw,Vk,←ai,←e2];show _=tx w3++B1 _ (Gb hver hbas r7.size l) w3.length;congr 2;omega)
 rw[hr]at e
 subst e
 exact hQ _ _ (.s rfl rfl)
end
section
open Go Go.Proofs
set_option maxRecDepth 20000
set_option maxHeartbeats 4000000
def XaO:List (Nat×TyRow):=[ty4,ty9,We,XiF,ty92]
theorem Xcg:Bl Tryz.prog XaO:=Bl.of (by kernel_rfl)
theorem Xed:Setup Tryz.prog XaO:=⟨Xcg,mixed⟩
def El(b:ByteArray):A0×List ByteArray×Bool:=
 if(As b).ok_=true∧(As b).marked_=true∧A7 (As b).head_ (As b).records_=b then((As b).head_,(As b).records_,true)else(⟨0,0,0,0⟩,[],false)
def Ng(b:ByteArray):Bool:=(El b).2.2
theorem W6:∀(k:Nat) {h:A0} {b:ByteArray} {n:Nat} {p:Int},(b.size - p).toNat≤k→0≤p∧p≤b.size→p+(H9 h b n p).1.length≤b.size
 |k,h,b,n,p,hk,hp=>by
  cases hm:D7 h.version_ (h.base_+n) b p
  ·rcases hf:Au h.version_ (h.base_+n) b p with⟨r,q,ok⟩
   cases ok
   ·rw[Nz hm hf]
    simpa using hp.2
   ·have h2:=Hp hf
    rw[Of hm hf]
    cases k with
    |zero=>omega
    |succ k=>
     have ih:=W6 k (h:=h) (b:=b) (n:=n+1) (p:=q) (by omega) (by omega)
     rw[List.length_cons]
     omega
  ·rw[Ob hm]
   simpa using hp.2
theorem Jp{b:ByteArray}:(As b).records_.length≤b.size:=by
 unfold As
 split
 ·rename_i h e
  have h2:=G9 e
  have:=W6 _ (h:=h) (b:=b) (n:=0) (p:=24) (Nat.le_refl _) (by omega)
  show(H9 h b 0 24).1.length≤_
  omega
 ·simp
variable {b:ByteArray}
theorem Xbj{oaver:Int}{oastr:Int}{oabas:Int}{oalin:Int}{ob:List ByteArray}{xob:List (List D)}{oc:Bool}(hn:b.size<2^40)(hr:El b=(⟨oaver,oastr,oabas,oalin⟩,ob,oc))(hob:ob.map cS=xob):Fn Tryz.prog 158 [S b] [] ⟨.tup [.agg [I oaver,I oastr,I oabas,I oalin],.d (.row 1 xob),B oc],[],[]⟩:=by
 refine Fn.go Xed Tryz.func158 fun P hP Q hQ=>?_
 conv=>cbv
 rcases ag:As b with⟨al,⟨aa,ab,ac,ad⟩,af,aj,ao,ak⟩
 generalize ae:af.map cS=am
 generalize ah:aj.map cI=an
 refine .dd hP (Lp (by omega) ag ae ah) ?_
 conv=>cbv
 cases al
 conv=>cbv
 have e:((⟨0,0,0,0⟩:A0),[],false)=El b:=(by unfold El;rw[ag];simp only[];rw[if_neg];rintro⟨q,_⟩;cases q)
 rw[hr]at e
 simp only[Prod.mk.injEq,A0.mk.injEq]at e
 obtain⟨⟨rfl,rfl,rfl,rfl⟩,rfl,rfl⟩:=e
 refine hQ _ _ ?_
 exact .many (.inl rfl) rfl rfl (.agg (.d rfl rfl (.d rfl rfl (.d rfl rfl (.d rfl rfl (.nil))))) (.ref rfl rfl (by rw[←hob];rfl) (.d rfl rfl (.nil))))
 conv=>cbv
 cases ak
 conv=>cbv
 have e:((⟨0,0,0,0⟩:A0),[],false)=El b:=(by unfold El;rw[ag];simp only[];rw[if_neg];rintro⟨_,q,_⟩;cases q)
 rw[hr]at e
 simp only[Prod.mk.injEq,A0.mk.injEq]at e
 obtain⟨⟨rfl,rfl,rfl,rfl⟩,rfl,rfl⟩:=e
 refine hQ _ _ ?_
 exact .many (.inl rfl) rfl rfl (.agg (.d rfl rfl (.d rfl rfl (.d rfl rfl (.d rfl rfl (.nil))))) (.ref rfl rfl (by rw[←hob];rfl) (.d rfl rfl (.nil))))
 conv=>cbv
 have zl:=Jp (b:=b)
 rw[ag]at zl
 simp only[]at zl
 generalize ai:A7 (⟨aa,ab,ac,ad⟩:A0) af=r2
 have zr2:=Dt ai
 refine .dd hP (Js ae (by omega) ai) ?_
 conv=>cbv
 refine .neq (fun h3=>?_) fun h3=>?_
 conv=>cbv
 have e:((⟨0,0,0,0⟩:A0),[],false)=El b:=(by unfold El;rw[ag];simp only[];rw[if_neg];rintro⟨_,_,q⟩;exact h3 (ai.symm.trans q))
 rw[hr]at e
 simp only[Prod.mk.injEq,A0.mk.injEq]at e
 obtain⟨⟨rfl,rfl,rfl,rfl⟩,rfl,rfl⟩:=e
 refine hQ _ _ ?_
 exact .many (.inl rfl) rfl rfl (.agg (.d rfl rfl (.d rfl rfl (.d rfl rfl (.d rfl rfl (.nil))))) (.ref rfl rfl (by rw[←hob];rfl) (.d rfl rfl (.nil))))
 conv=>cbv
 have e:((⟨aa,ab,ac,ad⟩:A0),af,true)=El b:=(by unfold El;rw[ag];simp only[];rw[if_pos ⟨trivial,trivial,ai.trans h3⟩])
 rw[hr]at e
 simp only[Prod.mk.injEq,A0.mk.injEq]at e
 obtain⟨⟨rfl,rfl,rfl,rfl⟩,rfl,rfl⟩:=e
 refine hQ _ _ ?_
 exact .many (.inl rfl) rfl rfl (.agg (.d rfl rfl (.d rfl rfl (.d rfl rfl (.d rfl rfl (.nil))))) (.d rfl (XlV ae hob) (.d rfl rfl (.nil))))
theorem XfS{o:Bool}(hn:b.size<2^40)(hr:Ng b=o):Fn Tryz.prog 80 [S b] [] ⟨B o,[],[]⟩:=by
 refine Fn.go Xed Tryz.func80 fun P hP Q hQ=>?_
 conv=>cbv
 rcases aa:El b with⟨⟨ac,ad,ae,af⟩,ag,ah⟩
 generalize ab:ag.map cS=ai
 refine .dd hP (Xbj (by omega) aa ab) ?_
 conv=>cbv
 have e:ah=Ng b:=(by unfold Ng;rw[aa])
 rw[hr]at e
 subst e
 exact hQ _ _ (.b rfl rfl)
end
section
open Go Go.Proofs
set_option maxRecDepth 20000
set_option maxHeartbeats 4000000
def XeQ:List (Nat×TyRow):=[ty3,ty9,XkD,Xfz,Z1,XaA,Wn]
theorem XdJ:Bl Tryz.prog XeQ:=Bl.of (by kernel_rfl)
theorem Ft:Setup Tryz.prog XeQ:=⟨XdJ,mixed⟩
def Wf{α:Type}(p:α→Bool)(l:List α):Int:=if l.findIdx p<l.length then(l.findIdx p:Int)else -1
section
variable {α:Type} {p:α→Bool} {l:List α} {i:Int}
theorem Pp(h0:0≤i)(hi:i.toNat<l.length)(h:p l[i.toNat]=true)(hb:∀(j:Nat) (hj:j<l.length),j<i.toNat→p l[j]=false):i=Wf p l:=by
 have e:l.findIdx p=i.toNat:=(List.findIdx_eq hi).2 ⟨h,fun j hji=>hb j (by omega) hji⟩
 unfold Wf
 rw[e,if_pos hi]
 omega
theorem J8(hb:∀(j:Nat) (hj:j<l.length),p l[j]=false): -1=Wf p l:=by
 unfold Wf
 rw[if_neg]
 intro hlt
 have:=List.findIdx_getElem (w:=hlt)
 rw[hb _ hlt]at this
 cases this
theorem Xio(e:Wf p l=i): -1≤i∧i<l.length:=by
 rw[←e]
 unfold Wf
 split<;>omega
theorem Tr(e:Wf p l=i)(h:0≤i):∃hi:i.toNat<l.length,p l[i.toNat]=true:=by
 unfold Wf at e
 split at e
 ·rename_i hlt
  have e2:i.toNat=l.findIdx p:=by omega
  refine⟨by omega,?_⟩
  have:=List.findIdx_getElem (w:=hlt)
  simpa only[e2]using this
 ·omega
theorem XhO(e:Wf p l=i)(h:i<0):∀x∈l,p x=false:=by
 unfold Wf at e
 split at e
 ·omega
 ·rename_i hlt
  intro x hx
  cases hp:p x
  ·rfl
  ·exact absurd (List.findIdx_lt_length_of_exists ⟨x,hx,hp⟩) hlt
end
def B0(e:Ac)(name:ByteArray):Bool:=decide (e.name_=name)
def D4(l:List Ac)(name:ByteArray):Int:=Wf (fun e=>B0 e name) l
def At(l:List Ac)(name:ByteArray):Int:=D4 l name
def Eh(n:Cj)(id:Int):Bool:=decide (n.id_=id)
def Ef(l:List Cj)(id:Int):Int:=Wf (fun n=>Eh n id) l
def Kd(d:Aa)(id:Int):Int:=Ef d.nodes_ id
def G7(d:Aa)(id:Int):Int:=Kd d id
def Cp(l:List Ac)(name:ByteArray):Int:=if At l name<0 then 0 else(l.getD (At l name).toNat ⟨tx [],0⟩).id_
def Du(l:List Ac)(name:ByteArray):Bool:=decide (0≤At l name)
def Ck(d:Aa)(name:ByteArray):Int:=if At d.entries_ name<0 then -1 else Kd d (Cp d.entries_ name)
def Dn(d:Aa)(name:ByteArray):Cj×Bool:=if Ck d name<0 then(⟨0,tx [],0⟩,false)else(d.nodes_.getD (Ck d name).toNat ⟨0,tx [],0⟩,true)
def Gc(d:Aa)(name:ByteArray):ByteArray×Bool:=((Dn d name).1.text_,(Dn d name).2)
def okD(d:Aa):Prop:=d.nodes_.length≤1000000000∧(∀n∈d.nodes_,n.text_.size≤1000000000)∧d.entries_.length≤1000000000∧(∀e∈d.entries_,e.name_.size≤1000000000)∧d.old_.length≤1000000000∧d.steps_.length≤1000000000
theorem gD{α:Type}{l:List α}{k:Nat}{d:α}(h:k<l.length):l[k]=l.getD k d:=by rw[List.getD_eq_getElem?_getD,List.getElem?_eq_getElem h];rfl
theorem Py{l:List Ac}{name:ByteArray}{i:Int}(e:At l name=i): -1≤i∧i<l.length:=Xio e
theorem X9{d:Aa}{id i:Int}(e:Kd d id=i): -1≤i∧i<d.nodes_.length:=Xio e
theorem Ib{d:Aa}{name:ByteArray}{i:Int}(e:Ck d name=i): -1≤i∧i<d.nodes_.length:=by
 unfold Ck at e
 split at e
 ·omega
 ·exact X9 e
theorem XdD{d:Aa}{name t:ByteArray}{ok:Bool}(hd:okD d)(e:Gc d name=(t,ok)):t.size≤1000000000:=by
 have e1:(Dn d name).1.text_=t:=congrArg Prod.fst e
 rw[←e1]
 unfold Dn
 split
 ·simp[A3]
 ·rename_i h
  have h2:=Ib (rfl:Ck d name=_)
  have h3:(Ck d name).toNat<d.nodes_.length:=by omega
  rw[←gD h3]
  exact hd.2.1 _ (List.getElem_mem h3)
theorem Pm{d:Aa}{name:ByteArray}:Dn d name=if G7 d (Cp d.entries_ name)<0∨Du d.entries_ name=false then(⟨0,tx [],0⟩,false)else(d.nodes_.getD (G7 d (Cp d.entries_ name)).toNat ⟨0,tx [],0⟩,true):=by
 unfold Dn Ck G7 Du
 by_cases h:At d.entries_ name<0
 ·rw[if_pos h,if_pos (by omega),if_pos (.inr (by simp;omega))]
 ·rw[if_neg h]
  by_cases h2:Kd d (Cp d.entries_ name)<0
  ·rw[if_pos h2,if_pos (.inl h2)]
  ·rw[if_neg h2,if_neg]
   rintro(h3|h3)
   ·exact h2 h3
   ·simp at h3;omega
variable {name oatex oa:ByteArray} {o id Ao An oaid oasur:Int} {l Aj Am:List Ac} {xl Bk Bg Bf Bi:List (List D)} {Ak:List Cj} {Al:List ByteArray} {ob:Bool}
theorem Xdp{enam:ByteArray}{eid:Int}{o:Bool}(hr:B0 (⟨enam,eid⟩:Ac) name=o):Fn Tryz.prog 285 [.agg [S enam,I eid],.ptr 0 0 0] [.box 9 [S name]] ⟨B o,[],[]⟩:=by
 refine Fn.goR Ft Tryz.func285 fun P hP Q hQ=>?_
 conv=>cbv
 refine .eql (fun h1=>?_) fun h1=>?_
 conv=>cbv
 have e:true=B0 (⟨enam,eid⟩:Ac) name:=(by unfold B0;symm;rw[decide_eq_true_eq];exact h1)
 rw[hr]at e
 subst e
 exact hQ _ _ (.of [] (.inl rfl) rfl rfl rfl rfl)
 conv=>cbv
 have e:false=B0 (⟨enam,eid⟩:Ac) name:=(by unfold B0;symm;rw[decide_eq_false_iff_not];exact h1)
 rw[hr]at e
 subst e
 exact hQ _ _ (.of [] (.inl rfl) rfl rfl rfl rfl)
theorem Vl{nid:Int}{ntex:ByteArray}{nsur:Int}{o:Bool}(hr:Eh (⟨nid,ntex,nsur⟩:Cj) id=o):Fn Tryz.prog 287 [.agg [I nid,S ntex,I nsur],.ptr 0 0 0] [.box 3 [I id]] ⟨B o,[],[]⟩:=by
 refine Fn.goR Ft Tryz.func287 fun P hP Q hQ=>?_
 conv=>cbv
 refine .eql (fun h1=>?_) fun h1=>?_
 conv=>cbv
 have e:true=Eh (⟨nid,ntex,nsur⟩:Cj) id:=(by unfold Eh;symm;rw[decide_eq_true_eq];exact h1)
 rw[hr]at e
 subst e
 exact hQ _ _ (.of [] (.inl rfl) rfl rfl rfl rfl)
 conv=>cbv
 have e:false=Eh (⟨nid,ntex,nsur⟩:Cj) id:=(by unfold Eh;symm;rw[decide_eq_false_iff_not];exact h1)
 rw[hr]at e
 subst e
 exact hQ _ _ (.of [] (.inl rfl) rfl rfl rfl rfl)
theorem Nq(hl:l.map Ad=xl)(hn:l.length<2^40)(hr:D4 l name=o):Fn Tryz.prog 284 [.d (.row 2 xl),.clo 285 [.ptr 0 0 0]] [.box 9 [S name]] ⟨I o,[],[]⟩:=by
 refine Fn.goR Ft Tryz.func284 fun P hP Q hQ=>?_
 conv=>cbv
 refine .go hl fun v1 af=>?_
 conv=>cbv
 refine LoopW.lp (κ:=Int) Ft hP [] [0,1,7] (fun i8=>[(8,I i8)]) (fun i8=>[])
  (fun i8=>0≤i8∧i8≤l.length∧∀(j:Nat) (hj:j<l.length),j<i8.toNat→B0 l[j] name=false)
  (fun i8=>(l.length - i8).toNat) (0) ⟨by omega,by omega,fun j _ h=>by simp at h⟩ ⟨rfl,trivial⟩ rfl ?_
 rintro i8 J ⟨h0,h1,hb⟩ hJ
 conv=>cbv
 refine .lss (fun h2=>?_) fun h2=>?_
 conv=>cbv
 refine .go i8.toNat hl fun ae ⟨aa,ac⟩ ad=>?_
 conv=>cbv
 generalize ab:B0 (⟨aa,ac⟩:Ac) name=r4
 refine .bx [0] [] hP (Xdp ab) rfl rfl rfl rfl ?_
 cases r4
 conv=>cbv
 refine .add fun v5 ag=>?_
 conv=>cbv
 exact .go [] (v5) (hJ _ ⟨by omega,by omega,fun j hj h=>if e:j=i8.toNat then by subst e;rw[←ad];exact ab else hb j hj (by omega)⟩ mlt)
 conv=>cbv
 have e:i8=D4 l name:=(by exact Pp (p:=fun x=>B0 x name) h0 (by omega) (ad▸ab) hb)
 rw[hr]at e
 subst e
 exact hQ _ _ (.of [] (.inl rfl) rfl rfl rfl rfl)
 conv=>cbv
 have e:(-1)=D4 l name:=(by exact J8 (p:=fun x=>B0 x name) fun j hj=>hb j hj (by omega))
 rw[hr]at e
 subst e
 exact hQ _ _ (.of [] (.inl rfl) rfl rfl rfl rfl)
theorem Oo{l:List Cj}(hl:l.map B3=xl)(hn:l.length<2^40)(hr:Ef l id=o):Fn Tryz.prog 286 [.d (.row 3 xl),.clo 287 [.ptr 0 0 0]] [.box 3 [I id]] ⟨I o,[],[]⟩:=by
 refine Fn.goR Ft Tryz.func286 fun P hP Q hQ=>?_
 conv=>cbv
 refine .go hl fun v1 ag=>?_
 conv=>cbv
 refine LoopW.lp (κ:=Int) Ft hP [] [0,1,7] (fun i8=>[(8,I i8)]) (fun i8=>[])
  (fun i8=>0≤i8∧i8≤l.length∧∀(j:Nat) (hj:j<l.length),j<i8.toNat→Eh l[j] id=false)
  (fun i8=>(l.length - i8).toNat) (0) ⟨by omega,by omega,fun j _ h=>by simp at h⟩ ⟨rfl,trivial⟩ rfl ?_
 rintro i8 J ⟨h0,h1,hb⟩ hJ
 conv=>cbv
 refine .lss (fun h2=>?_) fun h2=>?_
 conv=>cbv
 refine .go i8.toNat hl fun af ⟨ad,aa,ab⟩ ae=>?_
 conv=>cbv
 generalize ac:Eh (⟨ad,aa,ab⟩:Cj) id=r4
 refine .bx [0] [] hP (Vl ac) rfl rfl rfl rfl ?_
 cases r4
 conv=>cbv
 refine .add fun v5 ah=>?_
 conv=>cbv
 exact .go [] (v5) (hJ _ ⟨by omega,by omega,fun j hj h=>if e:j=i8.toNat then by subst e;rw[←ae];exact ac else hb j hj (by omega)⟩ mlt)
 conv=>cbv
 have e:i8=Ef l id:=(by exact Pp (p:=fun x=>Eh x id) h0 (by omega) (ae▸ac) hb)
 rw[hr]at e
 subst e
 exact hQ _ _ (.of [] (.inl rfl) rfl rfl rfl rfl)
 conv=>cbv
 have e:(-1)=Ef l id:=(by exact J8 (p:=fun x=>Eh x id) fun j hj=>hb j hj (by omega))
 rw[hr]at e
 subst e
 exact hQ _ _ (.of [] (.inl rfl) rfl rfl rfl rfl)
theorem Xhr(hl:l.map Ad=xl)(hn:l.length<2^40)(hr:At l name=o):Fn Tryz.prog 240 [.d (.row 2 xl),S name] [] ⟨I o,[],[]⟩:=by
 refine Fn.go Ft Tryz.func240 fun P hP Q hQ=>?_
 conv=>cbv
 generalize aa:D4 l name=r1
 refine .bx [0] [] hP (Nq hl (by omega) aa) rfl rfl rfl rfl ?_
 conv=>cbv
 have e:r1=At l name:=(by unfold At;exact aa.symm)
 rw[hr]at e
 subst e
 exact hQ _ _ (.i rfl rfl)
theorem Y2(A1:Ak.map B3=Bk)(Ax:Aj.map Ad=Bg)(A6:Am.map Ad=Bf)(A5:Al.map cS=Bi)(hn:Ak.length<2^40)(hr:Kd (⟨Ak,Aj,Am,Al,Ao,An⟩:Aa) id=o):Fn Tryz.prog 241 [.agg [.d (.row 3 Bk),.d (.row 2 Bg),.d (.row 2 Bf),.d (.row 1 Bi),I Ao,I An],I id] [] ⟨I o,[],[]⟩:=by
 refine Fn.go Ft Tryz.func241 fun P hP Q hQ=>?_
 conv=>cbv
 generalize aa:Ef Ak id=r1
 refine .bx [1] [] hP (Oo A1 (by omega) aa) rfl rfl rfl rfl ?_
 conv=>cbv
 have e:r1=Kd (⟨Ak,Aj,Am,Al,Ao,An⟩:Aa) id:=(by unfold Kd;exact aa.symm)
 rw[hr]at e
 subst e
 exact hQ _ _ (.i rfl rfl)
theorem Ze(A1:Ak.map B3=Bk)(Ax:Aj.map Ad=Bg)(A6:Am.map Ad=Bf)(A5:Al.map cS=Bi)(hd:okD ⟨Ak,Aj,Am,Al,Ao,An⟩)(hr:Ck (⟨Ak,Aj,Am,Al,Ao,An⟩:Aa) name=o):Fn Tryz.prog 177 [.agg [.d (.row 3 Bk),.d (.row 2 Bg),.d (.row 2 Bf),.d (.row 1 Bi),I Ao,I An],S name] [] ⟨I o,[],[]⟩:=by
 refine Fn.go Ft Tryz.func177 fun P hP Q hQ=>?_
 conv=>cbv
 obtain⟨d1,d2,d3,d4,d5,d6⟩:=hd
 simp only[]at d1 d2 d3 d4 d5 d6
 generalize aa:At Aj name=r1
 refine .dd hP (Xhr Ax (by omega) aa) ?_
 conv=>cbv
 have hb:=Py aa
 refine .lss (fun h2=>?_) fun h2=>?_
 conv=>cbv
 have e:(-1)=Ck (⟨Ak,Aj,Am,Al,Ao,An⟩:Aa) name:=(by unfold Ck;rw[if_pos (by simp only[];omega)])
 rw[hr]at e
 subst e
 exact hQ _ _ (.i rfl rfl)
 conv=>cbv
 refine .go r1.toNat Ax fun ab ⟨ae,ac⟩ af=>?_
 conv=>cbv
 generalize ad:Kd (⟨Ak,Aj,Am,Al,Ao,An⟩:Aa) ac=r4
 refine .dd hP (Y2 A1 Ax A6 A5 (by omega) ad) ?_
 conv=>cbv
 have e:r4=Ck (⟨Ak,Aj,Am,Al,Ao,An⟩:Aa) name:=(by unfold Ck Cp;simp only[];rw[aa,if_neg (by omega),if_neg (by omega),←gD ab,←af];exact ad.symm)
 rw[hr]at e
 subst e
 exact hQ _ _ (.i rfl rfl)
theorem Y3(A1:Ak.map B3=Bk)(Ax:Aj.map Ad=Bg)(A6:Am.map Ad=Bf)(A5:Al.map cS=Bi)(hd:okD ⟨Ak,Aj,Am,Al,Ao,An⟩)(hr:Dn (⟨Ak,Aj,Am,Al,Ao,An⟩:Aa) name=(⟨oaid,oatex,oasur⟩,ob)):Fn Tryz.prog 93 [.agg [.d (.row 3 Bk),.d (.row 2 Bg),.d (.row 2 Bf),.d (.row 1 Bi),I Ao,I An],S name] [] ⟨.tup [.agg [I oaid,S oatex,I oasur],B ob],[],[]⟩:=by
 refine Fn.go Ft Tryz.func93 fun P hP Q hQ=>?_
 conv=>cbv
 generalize aa:Ck (⟨Ak,Aj,Am,Al,Ao,An⟩:Aa) name=r1
 refine .dd hP (Ze A1 Ax A6 A5 hd aa) ?_
 conv=>cbv
 have hb:=Ib aa
 simp only[]at hb
 refine .lss (fun h2=>?_) fun h2=>?_
 conv=>cbv
 have e:((⟨0,tx [],0⟩:Cj),false)=Dn (⟨Ak,Aj,Am,Al,Ao,An⟩:Aa) name:=(by unfold Dn;rw[if_pos (by rw[aa];omega)])
 rw[hr]at e
 simp only[Prod.mk.injEq,Cj.mk.injEq]at e
 obtain⟨⟨rfl,rfl,rfl⟩,rfl⟩:=e
 refine hQ _ _ ?_
 exact .many (.inl rfl) rfl rfl (.agg (.d rfl rfl (.d rfl rfl (.d rfl rfl (.nil)))) (.d rfl rfl (.nil)))
 conv=>cbv
 refine .go r1.toNat A1 fun af ⟨ad,ab,ac⟩ ae=>?_
 conv=>cbv
 have e:((⟨ad,ab,ac⟩:Cj),true)=Dn (⟨Ak,Aj,Am,Al,Ao,An⟩:Aa) name:=(by unfold Dn;rw[aa,if_neg (by omega)];simp only[];rw[←gD (show r1.toNat<Ak.length by omega)];rw[←ae])
 rw[hr]at e
 simp only[Prod.mk.injEq,Cj.mk.injEq]at e
 obtain⟨⟨rfl,rfl,rfl⟩,rfl⟩:=e
 refine hQ _ _ ?_
 exact .many (.inl rfl) rfl rfl (.agg (.d rfl rfl (.d rfl rfl (.d rfl rfl (.nil)))) (.d rfl rfl (.nil)))
theorem XfM(A1:Ak.map B3=Bk)(Ax:Aj.map Ad=Bg)(A6:Am.map Ad=Bf)(A5:Al.map cS=Bi)(hd:okD ⟨Ak,Aj,Am,Al,Ao,An⟩)(hr:Gc (⟨Ak,Aj,Am,Al,Ao,An⟩:Aa) name=(oa,ob)):Fn Tryz.prog 79 [.agg [.d (.row 3 Bk),.d (.row 2 Bg),.d (.row 2 Bf),.d (.row 1 Bi),I Ao,I An],S name] [] ⟨.tup [S oa,B ob],[],[]⟩:=by
 refine Fn.go Ft Tryz.func79 fun P hP Q hQ=>?_
 conv=>cbv
 rcases ab:Dn (⟨Ak,Aj,Am,Al,Ao,An⟩:Aa) name with⟨⟨ad,aa,ac⟩,ae⟩
 refine .dd hP (Y3 A1 Ax A6 A5 hd ab) ?_
 conv=>cbv
 have e:(aa,ae)=Gc (⟨Ak,Aj,Am,Al,Ao,An⟩:Aa) name:=(by unfold Gc;rw[ab])
 rw[hr]at e
 simp only[Prod.mk.injEq]at e
 obtain⟨rfl,rfl⟩:=e
 refine hQ _ _ ?_
 exact .many (.inl rfl) rfl rfl (.d rfl rfl (.d rfl rfl (.nil)))
theorem I2(hl:l.map Ad=xl)(hn:l.length<2^40)(hr:Cp l name=o):Fn Tryz.prog 187 [.d (.row 2 xl),S name] [] ⟨I o,[],[]⟩:=by
 refine Fn.go Ft Tryz.func187 fun P hP Q hQ=>?_
 conv=>cbv
 refine LoopW.lp (κ:=Int) Ft hP [] [0,1] (fun i5=>[(5,I i5)]) (fun i5=>[])
  (fun i5=>0≤i5∧i5≤l.length∧∀(j:Nat) (hj:j<l.length),j<i5.toNat→B0 l[j] name=false)
  (fun i5=>(l.length - i5).toNat) (0) ⟨by omega,by omega,fun j _ h=>by simp at h⟩ ⟨rfl,trivial⟩ rfl ?_
 rintro i5 J ⟨h0,h1,hb⟩ hJ
 conv=>cbv
 refine .go hl fun v1 ai=>?_
 conv=>cbv
 refine .lss (fun h2=>?_) fun h2=>?_
 conv=>cbv
 refine .go i5.toNat hl fun ag ⟨ad,ah⟩ aa=>?_
 conv=>cbv
 refine .eql (fun h4=>?_) fun h4=>?_
 conv=>cbv
 refine .go i5.toNat hl fun ab ⟨ae,ac⟩ af=>?_
 conv=>cbv
 have e:ac=Cp l name:=(by have e2:At l name=i5:=(Pp (p:=fun x=>B0 x name) (l:=l) h0 (by omega) (by rw[←aa];unfold B0;rw[decide_eq_true_eq];exact h4) hb).symm;unfold Cp;rw[e2,if_neg (by omega),←gD ab,←af])
 rw[hr]at e
 subst e
 exact hQ _ _ (.i rfl rfl)
 conv=>cbv
 refine .add fun v5 aj=>?_
 conv=>cbv
 exact .go [] (v5) (hJ _ ⟨by omega,by omega,fun j hj h=>if e:j=i5.toNat then by subst e;rw[←aa];unfold B0;rw[decide_eq_false_iff_not];exact h4 else hb j hj (by omega)⟩ mlt)
 conv=>cbv
 have e:0=Cp l name:=(by have e2:At l name= -1:=(J8 (p:=fun x=>B0 x name) fun j hj=>hb j hj (by omega)).symm;unfold Cp;rw[e2,if_pos (by omega)])
 rw[hr]at e
 subst e
 exact hQ _ _ (.i rfl rfl)
theorem P5(A1:Ak.map B3=Bk)(Ax:Aj.map Ad=Bg)(A6:Am.map Ad=Bf)(A5:Al.map cS=Bi)(hn:Ak.length<2^40)(hr:G7 (⟨Ak,Aj,Am,Al,Ao,An⟩:Aa) id=o):Fn Tryz.prog 186 [.agg [.d (.row 3 Bk),.d (.row 2 Bg),.d (.row 2 Bf),.d (.row 1 Bi),I Ao,I An],I id] [] ⟨I o,[],[]⟩:=by
 refine Fn.go Ft Tryz.func186 fun P hP Q hQ=>?_
 conv=>cbv
 refine LoopW.lp (κ:=Int) Ft hP [] [1,2] (fun i5=>[(5,I i5)]) (fun i5=>[])
  (fun i5=>0≤i5∧i5≤Ak.length∧∀(j:Nat) (hj:j<Ak.length),j<i5.toNat→Eh Ak[j] id=false)
  (fun i5=>(Ak.length - i5).toNat) (0) ⟨by omega,by omega,fun j _ h=>by simp at h⟩ ⟨rfl,trivial⟩ rfl ?_
 rintro i5 J ⟨h0,h1,hb⟩ hJ
 conv=>cbv
 refine .go A1 fun v1 af=>?_
 conv=>cbv
 refine .lss (fun h2=>?_) fun h2=>?_
 conv=>cbv
 refine .go i5.toNat A1 fun ad ⟨ae,ab,ac⟩ aa=>?_
 conv=>cbv
 refine .eql (fun h4=>?_) fun h4=>?_
 conv=>cbv
 have e:i5=G7 (⟨Ak,Aj,Am,Al,Ao,An⟩:Aa) id:=(by exact Pp (p:=fun x=>Eh x id) (l:=Ak) h0 (by omega) (by rw[←aa];unfold Eh;rw[decide_eq_true_eq];exact h4) hb)
 rw[hr]at e
 subst e
 exact hQ _ _ (.i rfl rfl)
 conv=>cbv
 refine .add fun v5 ag=>?_
 conv=>cbv
 exact .go [] (v5) (hJ _ ⟨by omega,by omega,fun j hj h=>if e:j=i5.toNat then by subst e;rw[←aa];unfold Eh;rw[decide_eq_false_iff_not];exact h4 else hb j hj (by omega)⟩ mlt)
 conv=>cbv
 have e:(-1)=G7 (⟨Ak,Aj,Am,Al,Ao,An⟩:Aa) id:=(by exact J8 (p:=fun x=>Eh x id) (l:=Ak) fun j hj=>hb j hj (by omega))
 rw[hr]at e
 subst e
 exact hQ _ _ (.i rfl rfl)
theorem Kl{o:Bool}(hl:l.map Ad=xl)(hn:l.length<2^40)(hr:Du l name=o):Fn Tryz.prog 188 [.d (.row 2 xl),S name] [] ⟨B o,[],[]⟩:=by
 refine Fn.go Ft Tryz.func188 fun P hP Q hQ=>?_
 conv=>cbv
 refine LoopW.lp (κ:=Int) Ft hP [] [0,1] (fun i5=>[(5,I i5)]) (fun i5=>[])
  (fun i5=>0≤i5∧i5≤l.length∧∀(j:Nat) (hj:j<l.length),j<i5.toNat→B0 l[j] name=false)
  (fun i5=>(l.length - i5).toNat) (0) ⟨by omega,by omega,fun j _ h=>by simp at h⟩ ⟨rfl,trivial⟩ rfl ?_
 rintro i5 J ⟨h0,h1,hb⟩ hJ
 conv=>cbv
 refine .go hl fun v1 ae=>?_
 conv=>cbv
 refine .lss (fun h2=>?_) fun h2=>?_
 conv=>cbv
 refine .go i5.toNat hl fun ac ⟨ab,ad⟩ aa=>?_
 conv=>cbv
 refine .eql (fun h4=>?_) fun h4=>?_
 conv=>cbv
 have e:true=Du l name:=(by have e2:At l name=i5:=(Pp (p:=fun x=>B0 x name) (l:=l) h0 (by omega) (by rw[←aa];unfold B0;rw[decide_eq_true_eq];exact h4) hb).symm;unfold Du;rw[e2];symm;rw[decide_eq_true_eq];omega)
 rw[hr]at e
 subst e
 exact hQ _ _ (.b rfl rfl)
 conv=>cbv
 refine .add fun v5 af=>?_
 conv=>cbv
 exact .go [] (v5) (hJ _ ⟨by omega,by omega,fun j hj h=>if e:j=i5.toNat then by subst e;rw[←aa];unfold B0;rw[decide_eq_false_iff_not];exact h4 else hb j hj (by omega)⟩ mlt)
 conv=>cbv
 have e:false=Du l name:=(by have e2:At l name= -1:=(J8 (p:=fun x=>B0 x name) fun j hj=>hb j hj (by omega)).symm;unfold Du;rw[e2];rfl)
 rw[hr]at e
 subst e
 exact hQ _ _ (.b rfl rfl)
theorem Yl(A1:Ak.map B3=Bk)(Ax:Aj.map Ad=Bg)(A6:Am.map Ad=Bf)(A5:Al.map cS=Bi)(hd:okD ⟨Ak,Aj,Am,Al,Ao,An⟩)(hr:Dn (⟨Ak,Aj,Am,Al,Ao,An⟩:Aa) name=(⟨oaid,oatex,oasur⟩,ob)):Fn Tryz.prog 100 [.agg [.d (.row 3 Bk),.d (.row 2 Bg),.d (.row 2 Bf),.d (.row 1 Bi),I Ao,I An],S name] [] ⟨.tup [.agg [I oaid,S oatex,I oasur],B ob],[],[]⟩:=by
 refine Fn.go Ft Tryz.func100 fun P hP Q hQ=>?_
 conv=>cbv
 obtain⟨d1,d2,d3,d4,d5,d6⟩:=hd
 simp only[]at d1 d2 d3 d4 d5 d6
 generalize ab:Cp Aj name=r1
 refine .dd hP (I2 Ax (by omega) ab) ?_
 conv=>cbv
 generalize aa:G7 (⟨Ak,Aj,Am,Al,Ao,An⟩:Aa) r1=r2
 refine .dd hP (P5 A1 Ax A6 A5 (by omega) aa) ?_
 conv=>cbv
 have hb:=X9 (d:=⟨Ak,Aj,Am,Al,Ao,An⟩) (id:=r1) aa
 simp only[]at hb
 refine .lss (fun h3=>?_) fun h3=>?_
 conv=>cbv
 have e:((⟨0,tx [],0⟩:Cj),false)=Dn (⟨Ak,Aj,Am,Al,Ao,An⟩:Aa) name:=(by rw[Pm,if_pos (.inl (by simp only[];rw[ab,aa];omega))])
 rw[hr]at e
 simp only[Prod.mk.injEq,Cj.mk.injEq]at e
 obtain⟨⟨rfl,rfl,rfl⟩,rfl⟩:=e
 refine hQ _ _ ?_
 exact .many (.inl rfl) rfl rfl (.agg (.d rfl rfl (.d rfl rfl (.d rfl rfl (.nil)))) (.d rfl rfl (.nil)))
 conv=>cbv
 generalize ac:Du Aj name=r4
 refine .dd hP (Kl Ax (by omega) ac) ?_
 cases r4
 conv=>cbv
 have e:((⟨0,tx [],0⟩:Cj),false)=Dn (⟨Ak,Aj,Am,Al,Ao,An⟩:Aa) name:=(by rw[Pm,if_pos (.inr ac)])
 rw[hr]at e
 simp only[Prod.mk.injEq,Cj.mk.injEq]at e
 obtain⟨⟨rfl,rfl,rfl⟩,rfl⟩:=e
 refine hQ _ _ ?_
 exact .many (.inl rfl) rfl rfl (.agg (.d rfl rfl (.d rfl rfl (.d rfl rfl (.nil)))) (.d rfl rfl (.nil)))
 conv=>cbv
 refine .go r2.toNat A1 fun ah ⟨af,ad,ae⟩ ag=>?_
 conv=>cbv
 have e:((⟨af,ad,ae⟩:Cj),true)=Dn (⟨Ak,Aj,Am,Al,Ao,An⟩:Aa) name:=(by rw[Pm,if_neg (by simp only[];rw[ab,aa,ac];rintro(h|h);omega;cases h)];simp only[];rw[ab,aa,←gD (show r2.toNat<Ak.length by omega),←ag])
 rw[hr]at e
 simp only[Prod.mk.injEq,Cj.mk.injEq]at e
 obtain⟨⟨rfl,rfl,rfl⟩,rfl⟩:=e
 refine hQ _ _ ?_
 exact .many (.inl rfl) rfl rfl (.agg (.d rfl rfl (.d rfl rfl (.d rfl rfl (.nil)))) (.d rfl rfl (.nil)))
theorem Xgh(A1:Ak.map B3=Bk)(Ax:Aj.map Ad=Bg)(A6:Am.map Ad=Bf)(A5:Al.map cS=Bi)(hd:okD ⟨Ak,Aj,Am,Al,Ao,An⟩)(hr:Gc (⟨Ak,Aj,Am,Al,Ao,An⟩:Aa) name=(oa,ob)):Fn Tryz.prog 68 [.agg [.d (.row 3 Bk),.d (.row 2 Bg),.d (.row 2 Bf),.d (.row 1 Bi),I Ao,I An],S name] [] ⟨.tup [S oa,B ob],[],[]⟩:=by
 refine Fn.go Ft Tryz.func68 fun P hP Q hQ=>?_
 conv=>cbv
 rcases ab:Dn (⟨Ak,Aj,Am,Al,Ao,An⟩:Aa) name with⟨⟨ad,aa,ac⟩,ae⟩
 refine .dd hP (Yl A1 Ax A6 A5 hd ab) ?_
 conv=>cbv
 have e:(aa,ae)=Gc (⟨Ak,Aj,Am,Al,Ao,An⟩:Aa) name:=(by unfold Gc;rw[ab])
 rw[hr]at e
 simp only[Prod.mk.injEq]at e
 obtain⟨rfl,rfl⟩:=e
 refine hQ _ _ ?_
 exact .many (.inl rfl) rfl rfl (.d rfl rfl (.d rfl rfl (.nil)))
end
end Go.Proofs.YtjbmpmmffjgedaaGreatDoor.Ab
