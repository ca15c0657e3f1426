/- What functions of the program come to, for all arguments in the given bounds. -/
import Derived.Test.YtgdmjbcllgmepaaGreatDoorch01a
set_option linter.unusedVariables false
set_option linter.unusedSimpArgs false
namespace Go.Proofs.YtgdmjbcllgmepaaGreatDoor.Ab
section
open Go Go.Proofs
set_option maxRecDepth 20000
set_option maxHeartbeats 4000000
def XfO:List (Nat×TyRow):=[ty3,ty5,ty9,Xbc]
theorem XdA:B8 Tryz.prog XfO:=B8.of (by kernel_rfl)
theorem Nb:Setup Tryz.prog XfO:=⟨XdA,mixed⟩
def D8(s p:ByteArray):Bool:=decide (s.extract 0 p.size=p)
def Gj(b:ByteArray)(p:Int)(t:ByteArray):Bool:=decide ((0≤p∧p+t.size≤b.size)∧b.extract p.toNat (p.toNat+t.size)=t)
theorem Uv{s:ByteArray}{i j:Nat}(h:i≤j)(h2:j≤s.size):(s.extract i j).size=j - i:=by
 rw[ByteArray.size_extract]
 omega
theorem Xlj{s:ByteArray}{i k:Nat}(h:i≤s.size):(s.extract i s.size).extract 0 k=s.extract i (i+k):=by
 rw[Xfp,Xfp,Xfp s i (i+k),Qf,List.drop_zero,Nat.sub_zero,List.take_take,Nat.add_sub_cancel_left]
 congr 1
 have:(s.data.toList.drop i).length=s.size - i:=by rw[List.length_drop,Jb]
 by_cases hk:k≤s.size - i
 ·rw[Nat.min_eq_left hk]
 ·rw[Nat.min_eq_right (by omega),List.take_of_length_le (by omega),List.take_of_length_le (by omega)]
theorem Zh{s p:ByteArray}(h:D8 s p=true):p.size≤s.size:=by
 have:=of_decide_eq_true h
 have h2:=congrArg ByteArray.size this
 rw[ByteArray.size_extract]at h2
 omega
theorem Vs(n:Int)(h:0≤n∧n<4294967296):(Ay n 4).size=4:=Sh ⟨h.1,by omega,by omega,Nat.div_eq_of_lt (show n.toNat<2^ (8*4)by omega)⟩
theorem Ra{v n:Int}{r:ByteArray}(hv:v=1∨v=2)(hn:0≤n∧n≤1000000000)(hr:r.size≤60):Aq v n r≠tx []:=by
 unfold Aq
 rw[if_pos ⟨hv,hn,hr⟩]
 intro h
 have:=congrArg ByteArray.size h
 rw[ByteArray.size_append,Vs _ (V3 r),B7]at this
 simp at this
theorem Kt{v n:Int}{r:ByteArray}(h:¬((v=1∨v=2)∧0≤n∧n≤1000000000)):Aq v n r=tx []:=if_neg (fun hh=>h ⟨hh.1,hh.2.1⟩)
def Ia(v n:Int)(b:ByteArray)(p x q:Int):ByteArray×Int×Bool:=
 if x≤60∧q+x≤b.size∧Aq v n (b.extract q.toNat (q+x).toNat)≠tx []∧Gj b p (Aq v n (b.extract q.toNat (q+x).toNat))=true then
  (b.extract q.toNat (q+x).toNat,p+(Aq v n (b.extract q.toNat (q+x).toNat)).size,true)else(tx [],0,false)
def A4(v n:Int)(b:ByteArray)(p:Int):ByteArray×Int×Bool:=
 if v=2 then(if(Cc b p 4).2=true then Ia v n b p (Cc b p 4).1 (p+8)else(tx [],0,false))
 else(if(C5 b p).2.2=true then Ia v n b p (C5 b p).1 (C5 b p).2.1 else(tx [],0,false))
theorem Ki{v n p x:Int}{b:ByteArray}{ok:Bool}(h1:v=2)(h:Cc b p 4=(x,ok)):A4 v n b p=if ok=true then Ia v n b p x (p+8)else(tx [],0,false):=by
 unfold A4
 rw[if_pos h1,h]
theorem Kl{v n p x q:Int}{b:ByteArray}{ok:Bool}(h1:v≠2)(h:C5 b p=(x,q,ok)):A4 v n b p=if ok=true then Ia v n b p x q else(tx [],0,false):=by
 unfold A4
 rw[if_neg h1,h]
theorem Nn{b:ByteArray}{p w x:Int}(h:Cc b p w=(x,true)):(1≤w∧w≤8)∧0≤p∧p+w≤b.size∧0≤x∧x<9223372036854775808:=by
 unfold Cc at h
 split at h
 ·split at h
  ·simp only[Prod.mk.injEq,and_true]at h
   omega
  ·simp at h
 ·simp at h
theorem XfK:∀{f:Nat} {l:List UInt8} {n k:Nat},Qh f l=some (n,k)→1≤k∧k≤l.length
 |0,l,n,k,h=>by simp[Qh]at h
 |f+1,[],n,k,h=>by simp[Qh]at h
 |f+1,x::l,n,k,h=>by
  simp only[Qh]at h
  split at h
  ·simp only[Option.some.injEq,Prod.mk.injEq]at h
   simp
   omega
  ·split at h
   ·rename_i m j hm
    have:=XfK hm
    split at h
    ·cases h
    ·simp only[Option.some.injEq,Prod.mk.injEq]at h
     simp
     omega
   ·cases h
theorem Mz{b:ByteArray}{p x q:Int}(h:C5 b p=(x,q,true)):0≤p∧p<q∧q≤b.size∧0≤x∧x≤1000000000:=by
 unfold C5 at h
 split at h
 ·split at h
  ·rename_i n k hv
   have:=XfK hv
   rw[List.length_drop,Jb]at this
   split at h
   ·simp only[Prod.mk.injEq,and_true]at h
    omega
   ·simp at h
  ·simp at h
 ·simp at h
theorem Ls{v n p x q:Int}{b:ByteArray}(h:¬(x≤60∧q+x≤b.size)):(tx [],0,false)=Ia v n b p x q:=(if_neg (fun hh=>h ⟨hh.1,hh.2.1⟩)).symm
theorem Xj{v n p x q:Int}{b t:ByteArray}(h:Aq v n (b.extract q.toNat (q+x).toNat)=t)(h2:t=tx []∨Gj b p t=false):(tx [],0,false)=Ia v n b p x q:=by
 unfold Ia
 rw[h,if_neg]
 rintro⟨_,_,h3,h4⟩
 rcases h2 with h2|h2
 ·exact h3 h2
 ·rw[h2]at h4;cases h4
theorem Xe0{v n p x q:Int}{b t:ByteArray}(hx:x≤60∧q+x≤b.size)(h:Aq v n (b.extract q.toNat (q+x).toNat)=t)(h2:t≠tx [])(h3:Gj b p t=true):(b.extract q.toNat (q+x).toNat,p+(t.size:Int),true)=Ia v n b p x q:=by
 unfold Ia
 rw[h,if_pos ⟨hx.1,hx.2,h2,h3⟩]
def Et(v n:Int)(b:ByteArray)(p:Int):Bool:=decide (C9 v n≠tx [])&&Gj b p (C9 v n)
theorem Xkv{v n p:Int}{b:ByteArray}(h:¬((v=1∨v=2)∧0≤n∧n≤1000000000)):(tx [],0,false)=A4 v n b p:=by
 unfold A4
 split
 ·split
  ·exact Xj (Kt h) (.inl rfl)
  ·rfl
 ·split
  ·exact Xj (Kt h) (.inl rfl)
  ·rfl
theorem XlV{v n p:Int}{b:ByteArray}(h:¬(0≤p∧p≤b.size)):(tx [],0,false)=A4 v n b p:=by
 rcases h1:Cc b p 4 with⟨x,ok⟩
 rcases h2:C5 b p with⟨y,q,ok2⟩
 by_cases hv:v=2
 ·rw[Ki hv h1]
  cases ok
  ·rfl
  ·have:=Nn h1;omega
 ·rw[Kl hv h2]
  cases ok2
  ·rfl
  ·have:=Mz h2;omega
def bAt(b:ByteArray)(i:Nat):Int:=(((b.data.toList[i]?).getD 0).toNat:Nat)
theorem XeL{b:ByteArray}{i:Nat}(h:i<b.size):((b[i].toNat:Nat):Int)=bAt b i:=by
 unfold bAt
 rw[Zz h,List.getElem?_eq_getElem (by rw[Jb];exact h)]
 rfl
def Cj(b:ByteArray):B9×Bool:=
 if 24≤b.size∧(Cc b 8 8).2=true∧Cx ⟨bAt b 4,bAt b 5,(Cc b 8 8).1,(Cc b 16 4).1⟩=b.extract 0 24 then(⟨bAt b 4,bAt b 5,(Cc b 8 8).1,(Cc b 16 4).1⟩,true)else(⟨0,0,0,0⟩,false)
theorem Hv{b:ByteArray}{h:B9}(e:Cj b=(h,true)):24≤b.size∧Cx h=b.extract 0 24∧Dh h=true:=by
 unfold Cj at e
 split at e
 ·rename_i hh
  simp only[Prod.mk.injEq,and_true]at e
  rw[←e]
  refine⟨hh.1,hh.2.2,?_⟩
  by_cases hk:Dh ⟨bAt b 4,bAt b 5,(Cc b 8 8).1,(Cc b 16 4).1⟩=true
  ·exact hk
  ·have h2:=hh.2.2
   unfold Cx at h2
   rw[if_neg hk]at h2
   have:=congrArg ByteArray.size h2
   rw[B7,Uv (by omega) (by omega)]at this
   simp at this
 ·simp at e
variable {s b oa:ByteArray} {p v n oaver oastr oabas oalin:Int} {o ob oc:Bool}
theorem In{p:ByteArray}(hs:s.size<2^47)(hr:D8 s p=o):Fn Tryz.prog 341 [S s,S p] [] ⟨B o,[],[]⟩:=by
 refine Fn.go Nb Tryz.func341 fun P hP Q hQ=>?_
 conv=>cbv
 refine .go fun v1 ab=>?_
 conv=>cbv
 refine .go fun v2 ac=>?_
 conv=>cbv
 refine .geq (fun h3=>?_) fun h3=>?_
 conv=>cbv
 refine .go fun v4 ad=>?_
 conv=>cbv
 refine .hi fun s5 aa=>?_
 conv=>cbv
 refine .eql (fun h6=>?_) fun h6=>?_
 conv=>cbv
 have e:true=D8 s p:=(by unfold D8;symm;rw[decide_eq_true_eq,show p.size=v4.toNat by omega,←aa];exact h6)
 rw[hr]at e
 subst e
 exact hQ _ _ (.b rfl rfl)
 conv=>cbv
 have e:false=D8 s p:=(by unfold D8;symm;rw[decide_eq_false_iff_not];intro h;refine h6 ?_;rw[aa,show v4.toNat=p.size by omega];exact h)
 rw[hr]at e
 subst e
 exact hQ _ _ (.b rfl rfl)
 conv=>cbv
 have e:false=D8 s p:=(by symm;cases hh:D8 s p;rfl;have:=Zh hh;omega)
 rw[hr]at e
 subst e
 exact hQ _ _ (.b rfl rfl)
theorem Qn{p:ByteArray}(hs:s.size<2^47)(hr:D8 s p=o):Fn Tryz.prog 316 [S s,S p] [] ⟨B o,[],[]⟩:=by
 refine Fn.go Nb Tryz.func316 fun P hP Q hQ=>?_
 conv=>cbv
 generalize aa:D8 s p=r1
 refine .dd hP (In (by omega) aa) ?_
 cases r1
 conv=>cbv
 have e:false=D8 s p:=(by exact aa.symm)
 rw[hr]at e
 subst e
 exact hQ _ _ (.b rfl rfl)
 conv=>cbv
 have e:true=D8 s p:=(by exact aa.symm)
 rw[hr]at e
 subst e
 exact hQ _ _ (.b rfl rfl)
theorem XdQ{t:ByteArray}(hs:b.size<2^47)(hr:Gj b p t=o):Fn Tryz.prog 311 [S b,I p,S t] [] ⟨B o,[],[]⟩:=by
 refine Fn.go Nb Tryz.func311 fun P hP Q hQ=>?_
 conv=>cbv
 refine .go fun v1 ad=>?_
 conv=>cbv
 generalize aa:Ca p 0 v1=r2
 refine .dd hP (Ge aa) ?_
 cases r2
 simp only[Ca,decide_eq_true_eq,decide_eq_false_iff_not]at aa
 conv=>cbv
 have e:false=Gj b p t:=(by unfold Gj;symm;rw[decide_eq_false_iff_not];intro h;omega)
 rw[hr]at e
 subst e
 exact hQ _ _ (.b rfl rfl)
 simp only[Ca,decide_eq_true_eq,decide_eq_false_iff_not]at aa
 conv=>cbv
 refine .lo fun s3 ac=>?_
 conv=>cbv
 have z3:s3.size≤b.size:=by rw[ac,ByteArray.size_extract];omega
 have key:D8 s3 t=Gj b p t:=by
  unfold D8 Gj
  rw[ac,Xlj (by omega)]
  simp only[decide_eq_decide]
  constructor
  ·intro h;refine⟨?_,h⟩;have h2:=congrArg ByteArray.size h;rw[ByteArray.size_extract]at h2;omega
  ·intro h;exact h.2
 generalize ab:D8 s3 t=r4
 refine .dd hP (Qn (by omega) ab) ?_
 cases r4
 conv=>cbv
 have e:false=Gj b p t:=(by rw[←key];exact ab.symm)
 rw[hr]at e
 subst e
 exact hQ _ _ (.b rfl rfl)
 conv=>cbv
 have e:true=Gj b p t:=(by rw[←key];exact ab.symm)
 rw[hr]at e
 subst e
 exact hQ _ _ (.b rfl rfl)
theorem Xjb(hs:b.size<2^47)(hp: -140737488355328≤p∧p<140737488355328)(hr:Et v n b p=o):Fn Tryz.prog 263 [I v,I n,S b,I p] [] ⟨B o,[],[]⟩:=by
 refine Fn.go Nb Tryz.func263 fun P hP Q hQ=>?_
 conv=>cbv
 generalize aa:C9 v n=r1
 have zr1:=Mr aa
 refine .dd hP (Xcs aa) ?_
 conv=>cbv
 refine .neq (fun h2=>?_) fun h2=>?_
 conv=>cbv
 generalize ab:Gj b p r1=r3
 refine .dd hP (XdQ (by omega) ab) ?_
 cases r3
 conv=>cbv
 have e:false=Et v n b p:=(by unfold Et;rw[aa];simp[show r1≠tx []from h2,ab])
 rw[hr]at e
 subst e
 exact hQ _ _ (.b rfl rfl)
 conv=>cbv
 have e:true=Et v n b p:=(by unfold Et;rw[aa];simp[show r1≠tx []from h2,ab])
 rw[hr]at e
 subst e
 exact hQ _ _ (.b rfl rfl)
 conv=>cbv
 have e:false=Et v n b p:=(by unfold Et;rw[aa];simp[show r1=tx []from h2])
 rw[hr]at e
 subst e
 exact hQ _ _ (.b rfl rfl)
theorem XjO(hs:b.size<2^47)(hp: -140737488355328≤p∧p<140737488355328)(hr:Et v n b p=o):Fn Tryz.prog 257 [I v,I n,S b,I p] [] ⟨B o,[],[]⟩:=by
 refine Fn.go Nb Tryz.func257 fun P hP Q hQ=>?_
 conv=>cbv
 generalize aa:C9 v n=r1
 have zr1:=Mr aa
 refine .dd hP (XbC aa) ?_
 conv=>cbv
 refine .neq (fun h2=>?_) fun h2=>?_
 conv=>cbv
 refine .go fun v3 ad=>?_
 conv=>cbv
 refine .go fun v4 ae=>?_
 conv=>cbv
 refine .sub fun v5 af=>?_
 conv=>cbv
 generalize ab:A7 p 0 v5=r6
 refine .dd hP (Dq ab) ?_
 cases r6
 simp only[A7,decide_eq_true_eq,decide_eq_false_iff_not]at ab
 conv=>cbv
 have e:false=Et v n b p:=(by unfold Et Gj;rw[aa];symm;simp;omega)
 rw[hr]at e
 subst e
 exact hQ _ _ (.b rfl rfl)
 simp only[A7,decide_eq_true_eq,decide_eq_false_iff_not]at ab
 conv=>cbv
 refine .go fun v7 ag=>?_
 conv=>cbv
 refine .add fun v8 ah=>?_
 conv=>cbv
 refine .lohi fun s9 ac=>?_
 conv=>cbv
 refine .eql (fun h10=>?_) fun h10=>?_
 conv=>cbv
 have e:true=Et v n b p:=(by unfold Et Gj;rw[aa,ac,show v8.toNat=p.toNat+r1.size by omega]at*;symm;simp[h10,show r1≠tx []from h2];omega)
 rw[hr]at e
 subst e
 exact hQ _ _ (.b rfl rfl)
 conv=>cbv
 have e:false=Et v n b p:=(by unfold Et Gj;rw[aa];rw[ac,show v8.toNat=p.toNat+r1.size by omega]at h10;symm;simp[h10])
 rw[hr]at e
 subst e
 exact hQ _ _ (.b rfl rfl)
 conv=>cbv
 have e:false=Et v n b p:=(by unfold Et;rw[aa];simp[show r1=tx []from h2])
 rw[hr]at e
 subst e
 exact hQ _ _ (.b rfl rfl)
theorem Yt(hs:b.size<2^47)(hr:Cj b=(⟨oaver,oastr,oabas,oalin⟩,ob)):Fn Tryz.prog 262 [S b] [] ⟨.tup [.agg [I oaver,I oastr,I oabas,I oalin],B ob],[],[]⟩:=by
 refine Fn.go Nb Tryz.func262 fun P hP Q hQ=>?_
 conv=>cbv
 refine .go fun v1 al=>?_
 conv=>cbv
 refine .lss (fun h2=>?_) fun h2=>?_
 conv=>cbv
 have e:((⟨0,0,0,0⟩:B9),false)=Cj b:=(by unfold Cj;rw[if_neg (by omega)])
 rw[hr]at e
 simp only[Prod.mk.injEq,B9.mk.injEq]at e
 obtain⟨⟨rfl,rfl,rfl,rfl⟩,rfl⟩:=e
 refine hQ _ _ ?_
 exact .many (.inl rfl) rfl rfl (.agg (.d rfl rfl (.d rfl rfl (.d rfl rfl (.d rfl rfl (.nil))))) (.d rfl rfl (.nil)))
 conv=>cbv
 rcases aa:Cc b 8 8 with⟨ae,ag⟩
 refine .dd hP (Vw (by omega) aa) ?_
 conv=>cbv
 rcases ab:Cc b 16 4 with⟨af,am⟩
 refine .dd hP (Vw (by omega) ab) ?_
 conv=>cbv
 refine .go 4 fun hjv5 v5 ah bv5=>?_
 conv=>cbv
 refine .id fun v6 ai=>?_
 conv=>cbv
 refine .go 5 fun hjv7 v7 aj bv7=>?_
 conv=>cbv
 refine .id fun v8 ak=>?_
 conv=>cbv
 cases ag
 conv=>cbv
 have e:((⟨0,0,0,0⟩:B9),false)=Cj b:=(by unfold Cj;rw[aa,ab,if_neg];simp)
 rw[hr]at e
 simp only[Prod.mk.injEq,B9.mk.injEq]at e
 obtain⟨⟨rfl,rfl,rfl,rfl⟩,rfl⟩:=e
 refine hQ _ _ ?_
 exact .many (.inl rfl) rfl rfl (.agg (.d rfl rfl (.d rfl rfl (.d rfl rfl (.d rfl rfl (.nil))))) (.d rfl rfl (.nil)))
 conv=>cbv
 have e4:v6=bAt b 4:=by rw[ai,ah,XeL]
 have e5:v8=bAt b 5:=by rw[ak,aj,XeL]
 generalize ac:Cx (⟨v6,v8,ae,af⟩:B9)=r9
 have zr9:=Ky ac
 refine .dd hP (Yu ac) ?_
 conv=>cbv
 refine .hi fun an ad=>?_
 conv=>cbv
 refine .neq (fun h11=>?_) fun h11=>?_
 conv=>cbv
 have e:((⟨0,0,0,0⟩:B9),false)=Cj b:=(by unfold Cj;rw[aa,ab,if_neg];rintro⟨_,_,h⟩;refine h11 ?_;rw[←ac,ad,e4,e5];exact h)
 rw[hr]at e
 simp only[Prod.mk.injEq,B9.mk.injEq]at e
 obtain⟨⟨rfl,rfl,rfl,rfl⟩,rfl⟩:=e
 refine hQ _ _ ?_
 exact .many (.inl rfl) rfl rfl (.agg (.d rfl rfl (.d rfl rfl (.d rfl rfl (.d rfl rfl (.nil))))) (.d rfl rfl (.nil)))
 conv=>cbv
 have e:((⟨v6,v8,ae,af⟩:B9),true)=Cj b:=(by unfold Cj;rw[aa,ab,←e4,←e5,if_pos];refine⟨by omega,rfl,?_⟩;rw[ac,h11,ad];rfl)
 rw[hr]at e
 simp only[Prod.mk.injEq,B9.mk.injEq]at e
 obtain⟨⟨rfl,rfl,rfl,rfl⟩,rfl⟩:=e
 refine hQ _ _ ?_
 exact .many (.inl rfl) rfl rfl (.agg (.d rfl rfl (.d rfl rfl (.d rfl rfl (.d rfl rfl (.nil))))) (.d rfl rfl (.nil)))
theorem X5(hs:b.size<2^47)(hr:Cj b=(⟨oaver,oastr,oabas,oalin⟩,ob)):Fn Tryz.prog 100 [S b] [] ⟨.tup [.agg [I oaver,I oastr,I oabas,I oalin],B ob],[],[]⟩:=by
 refine Fn.go Nb Tryz.func100 fun P hP Q hQ=>?_
 conv=>cbv
 refine .go fun v1 al=>?_
 conv=>cbv
 refine .lss (fun h2=>?_) fun h2=>?_
 conv=>cbv
 have e:((⟨0,0,0,0⟩:B9),false)=Cj b:=(by unfold Cj;rw[if_neg (by omega)])
 rw[hr]at e
 simp only[Prod.mk.injEq,B9.mk.injEq]at e
 obtain⟨⟨rfl,rfl,rfl,rfl⟩,rfl⟩:=e
 refine hQ _ _ ?_
 exact .many (.inl rfl) rfl rfl (.agg (.d rfl rfl (.d rfl rfl (.d rfl rfl (.d rfl rfl (.nil))))) (.d rfl rfl (.nil)))
 conv=>cbv
 rcases aa:Cc b 8 8 with⟨ae,ag⟩
 refine .dd hP (Vn (by omega) aa) ?_
 conv=>cbv
 rcases ab:Cc b 16 4 with⟨af,am⟩
 refine .dd hP (Vn (by omega) ab) ?_
 conv=>cbv
 refine .go 4 fun hjv5 v5 ah bv5=>?_
 conv=>cbv
 refine .id fun v6 ai=>?_
 conv=>cbv
 refine .go 5 fun hjv7 v7 aj bv7=>?_
 conv=>cbv
 refine .id fun v8 ak=>?_
 conv=>cbv
 cases ag
 conv=>cbv
 have e:((⟨0,0,0,0⟩:B9),false)=Cj b:=(by unfold Cj;rw[aa,ab,if_neg];simp)
 rw[hr]at e
 simp only[Prod.mk.injEq,B9.mk.injEq]at e
 obtain⟨⟨rfl,rfl,rfl,rfl⟩,rfl⟩:=e
 refine hQ _ _ ?_
 exact .many (.inl rfl) rfl rfl (.agg (.d rfl rfl (.d rfl rfl (.d rfl rfl (.d rfl rfl (.nil))))) (.d rfl rfl (.nil)))
 conv=>cbv
 have e4:v6=bAt b 4:=by rw[ai,ah,XeL]
 have e5:v8=bAt b 5:=by rw[ak,aj,XeL]
 generalize ac:Cx (⟨v6,v8,ae,af⟩:B9)=r9
 have zr9:=Ky ac
 refine .dd hP (Xt ac) ?_
 conv=>cbv
 refine .hi fun an ad=>?_
 conv=>cbv
 refine .neq (fun h11=>?_) fun h11=>?_
 conv=>cbv
 have e:((⟨0,0,0,0⟩:B9),false)=Cj b:=(by unfold Cj;rw[aa,ab,if_neg];rintro⟨_,_,h⟩;refine h11 ?_;rw[←ac,ad,e4,e5];exact h)
 rw[hr]at e
 simp only[Prod.mk.injEq,B9.mk.injEq]at e
 obtain⟨⟨rfl,rfl,rfl,rfl⟩,rfl⟩:=e
 refine hQ _ _ ?_
 exact .many (.inl rfl) rfl rfl (.agg (.d rfl rfl (.d rfl rfl (.d rfl rfl (.d rfl rfl (.nil))))) (.d rfl rfl (.nil)))
 conv=>cbv
 have e:((⟨v6,v8,ae,af⟩:B9),true)=Cj b:=(by unfold Cj;rw[aa,ab,←e4,←e5,if_pos];refine⟨by omega,rfl,?_⟩;rw[ac,h11,ad];rfl)
 rw[hr]at e
 simp only[Prod.mk.injEq,B9.mk.injEq]at e
 obtain⟨⟨rfl,rfl,rfl,rfl⟩,rfl⟩:=e
 refine hQ _ _ ?_
 exact .many (.inl rfl) rfl rfl (.agg (.d rfl rfl (.d rfl rfl (.d rfl rfl (.d rfl rfl (.nil))))) (.d rfl rfl (.nil)))
theorem XdM{ob:Int}(hs:b.size<2^47)(hp: -140737488355328≤p∧p<140737488355328)(hr:A4 v n b p=(oa,ob,oc)):Fn Tryz.prog 264 [I v,I n,S b,I p] [] ⟨.tup [S oa,I ob,B oc],[],[]⟩:=by
 refine Fn.go Nb Tryz.func264 fun P hP Q hQ=>?_
 conv=>cbv
 refine .eql (fun h1=>?_) fun h1=>?_
 conv=>cbv
 rcases aa:Cc b p 4 with⟨al,ag⟩
 refine .dd hP (Vw (by omega) aa) ?_
 conv=>cbv
 refine .add fun v3 au=>?_
 conv=>cbv
 cases ag
 conv=>cbv
 have e:((tx []),0,false)=A4 v n b p:=(by rw[Ki h1 aa];rfl)
 rw[hr]at e
 simp only[Prod.mk.injEq]at e
 obtain⟨rfl,rfl,rfl⟩:=e
 refine hQ _ _ ?_
 exact .many (.inl rfl) rfl rfl (.d rfl rfl (.d rfl rfl (.d rfl rfl (.nil))))
 conv=>cbv
 have zz:=Nn aa
 refine .gtr (fun h4=>?_) fun h4=>?_
 conv=>cbv
 have e:((tx []),0,false)=A4 v n b p:=(by rw[Ki h1 aa];rw[if_pos rfl];exact Ls (by omega))
 rw[hr]at e
 simp only[Prod.mk.injEq]at e
 obtain⟨rfl,rfl,rfl⟩:=e
 refine hQ _ _ ?_
 exact .many (.inl rfl) rfl rfl (.d rfl rfl (.d rfl rfl (.d rfl rfl (.nil))))
 conv=>cbv
 refine .go fun v5 a8=>?_
 conv=>cbv
 refine .gtr (fun h6=>?_) fun h6=>?_
 conv=>cbv
 have e:((tx []),0,false)=A4 v n b p:=(by rw[Ki h1 aa];rw[if_pos rfl];exact Ls (by omega))
 rw[hr]at e
 simp only[Prod.mk.injEq]at e
 obtain⟨rfl,rfl,rfl⟩:=e
 refine hQ _ _ ?_
 exact .many (.inl rfl) rfl rfl (.d rfl rfl (.d rfl rfl (.d rfl rfl (.nil))))
 conv=>cbv
 refine .go fun v7 aw=>?_
 conv=>cbv
 refine .sub fun v8 ba=>?_
 conv=>cbv
 refine .gtr (fun h9=>?_) fun h9=>?_
 conv=>cbv
 have e:((tx []),0,false)=A4 v n b p:=(by rw[Ki h1 aa];rw[if_pos rfl];exact Ls (by omega))
 rw[hr]at e
 simp only[Prod.mk.injEq]at e
 obtain⟨rfl,rfl,rfl⟩:=e
 refine hQ _ _ ?_
 exact .many (.inl rfl) rfl rfl (.d rfl rfl (.d rfl rfl (.d rfl rfl (.nil))))
 conv=>cbv
 refine .add fun bb ao=>?_
 conv=>cbv
 refine .lohi fun ah aj=>?_
 conv=>cbv
 have bc:ah.size≤b.size:=by rw[aj,ByteArray.size_extract];omega
 have am:ah=b.extract (p+8).toNat (p+8+al).toNat:=by rw[aj,ao,au]
 generalize ab:Aq v n ah=ax
 have zr12:=Fw ab
 refine .dd hP (Qj (by omega) ab) ?_
 conv=>cbv
 refine .eql (fun h13=>?_) fun h13=>?_
 conv=>cbv
 have e:((tx []),0,false)=A4 v n b p:=(by rw[Ki h1 aa];rw[if_pos rfl];rw[am]at ab;exact Xj ab (.inl h13))
 rw[hr]at e
 simp only[Prod.mk.injEq]at e
 obtain⟨rfl,rfl,rfl⟩:=e
 refine hQ _ _ ?_
 exact .many (.inl rfl) rfl rfl (.d rfl rfl (.d rfl rfl (.d rfl rfl (.nil))))
 conv=>cbv
 generalize ad:Gj b p ax=ay
 refine .dd hP (XdQ (by omega) ad) ?_
 cases ay
 conv=>cbv
 have e:((tx []),0,false)=A4 v n b p:=(by rw[Ki h1 aa];rw[if_pos rfl];rw[am]at ab;exact Xj ab (.inr ad))
 rw[hr]at e
 simp only[Prod.mk.injEq]at e
 obtain⟨rfl,rfl,rfl⟩:=e
 refine hQ _ _ ?_
 exact .many (.inl rfl) rfl rfl (.d rfl rfl (.d rfl rfl (.d rfl rfl (.nil))))
 conv=>cbv
 refine .go fun ap ae=>?_
 conv=>cbv
 refine .add fun az aq=>?_
 conv=>cbv
 have e:(ah,az,true)=A4 v n b p:=(by rw[Ki h1 aa];rw[if_pos rfl];rw[am]at ab⊢;rw[aq,ae];exact Xe0 (by omega) ab h13 ad)
 rw[hr]at e
 simp only[Prod.mk.injEq]at e
 obtain⟨rfl,rfl,rfl⟩:=e
 refine hQ _ _ ?_
 exact .many (.inl rfl) rfl rfl (.d rfl rfl (.d rfl rfl (.d rfl rfl (.nil))))
 conv=>cbv
 rcases aa:C5 b p with⟨al,ag,a1⟩
 refine .dd hP (Xij (by omega) aa) ?_
 conv=>cbv
 cases a1
 conv=>cbv
 have e:((tx []),0,false)=A4 v n b p:=(by rw[Kl h1 aa];rfl)
 rw[hr]at e
 simp only[Prod.mk.injEq]at e
 obtain⟨rfl,rfl,rfl⟩:=e
 refine hQ _ _ ?_
 exact .many (.inl rfl) rfl rfl (.d rfl rfl (.d rfl rfl (.d rfl rfl (.nil))))
 conv=>cbv
 have zz:=Mz aa
 refine .gtr (fun h3=>?_) fun h3=>?_
 conv=>cbv
 have e:((tx []),0,false)=A4 v n b p:=(by rw[Kl h1 aa];rw[if_pos rfl];exact Ls (by omega))
 rw[hr]at e
 simp only[Prod.mk.injEq]at e
 obtain⟨rfl,rfl,rfl⟩:=e
 refine hQ _ _ ?_
 exact .many (.inl rfl) rfl rfl (.d rfl rfl (.d rfl rfl (.d rfl rfl (.nil))))
 conv=>cbv
 refine .go fun v4 bd=>?_
 conv=>cbv
 refine .gtr (fun h5=>?_) fun h5=>?_
 conv=>cbv
 have e:((tx []),0,false)=A4 v n b p:=(by rw[Kl h1 aa];rw[if_pos rfl];exact Ls (by omega))
 rw[hr]at e
 simp only[Prod.mk.injEq]at e
 obtain⟨rfl,rfl,rfl⟩:=e
 refine hQ _ _ ?_
 exact .many (.inl rfl) rfl rfl (.d rfl rfl (.d rfl rfl (.d rfl rfl (.nil))))
 conv=>cbv
 refine .go fun v6 be=>?_
 conv=>cbv
 refine .sub fun v7 aw=>?_
 conv=>cbv
 refine .gtr (fun h8=>?_) fun h8=>?_
 conv=>cbv
 have e:((tx []),0,false)=A4 v n b p:=(by rw[Kl h1 aa];rw[if_pos rfl];exact Ls (by omega))
 rw[hr]at e
 simp only[Prod.mk.injEq]at e
 obtain⟨rfl,rfl,rfl⟩:=e
 refine hQ _ _ ?_
 exact .many (.inl rfl) rfl rfl (.d rfl rfl (.d rfl rfl (.d rfl rfl (.nil))))
 conv=>cbv
 refine .add fun v9 a2=>?_
 conv=>cbv
 refine .lohi fun ai ak=>?_
 conv=>cbv
 have bf:ai.size≤b.size:=by rw[ak,ByteArray.size_extract];omega
 have an:ai=b.extract ag.toNat (ag+al).toNat:=by rw[ak,a2]
 generalize ac:Aq v n ai=a6
 have zr11:=Fw ac
 refine .dd hP (Qj (by omega) ac) ?_
 conv=>cbv
 refine .eql (fun h12=>?_) fun h12=>?_
 conv=>cbv
 have e:((tx []),0,false)=A4 v n b p:=(by rw[Kl h1 aa];rw[if_pos rfl];rw[an]at ac;exact Xj ac (.inl h12))
 rw[hr]at e
 simp only[Prod.mk.injEq]at e
 obtain⟨rfl,rfl,rfl⟩:=e
 refine hQ _ _ ?_
 exact .many (.inl rfl) rfl rfl (.d rfl rfl (.d rfl rfl (.d rfl rfl (.nil))))
 conv=>cbv
 generalize af:Gj b p a6=a7
 refine .dd hP (XdQ (by omega) af) ?_
 cases a7
 conv=>cbv
 have e:((tx []),0,false)=A4 v n b p:=(by rw[Kl h1 aa];rw[if_pos rfl];rw[an]at ac;exact Xj ac (.inr af))
 rw[hr]at e
 simp only[Prod.mk.injEq]at e
 obtain⟨rfl,rfl,rfl⟩:=e
 refine hQ _ _ ?_
 exact .many (.inl rfl) rfl rfl (.d rfl rfl (.d rfl rfl (.d rfl rfl (.nil))))
 conv=>cbv
 refine .go fun bg ar=>?_
 conv=>cbv
 refine .add fun ap ae=>?_
 conv=>cbv
 have e:(ai,ap,true)=A4 v n b p:=(by rw[Kl h1 aa];rw[if_pos rfl];rw[an]at ac⊢;rw[ae,ar];exact Xe0 (by omega) ac h12 af)
 rw[hr]at e
 simp only[Prod.mk.injEq]at e
 obtain⟨rfl,rfl,rfl⟩:=e
 refine hQ _ _ ?_
 exact .many (.inl rfl) rfl rfl (.d rfl rfl (.d rfl rfl (.d rfl rfl (.nil))))
theorem XcT{b t:ByteArray}{p:Int}(hp:0≤p)(h:(b.size:Int) - p<t.size):Gj b p t=false:=by
 unfold Gj
 rw[decide_eq_false_iff_not]
 omega
theorem Sg{b t:ByteArray}{p q:Int}(hp:0≤p)(h:(t.size:Int)≤b.size - p)(hq:q=p+t.size):Gj b p t=true↔b.extract p.toNat q.toNat=t:=by
 unfold Gj
 rw[decide_eq_true_eq,show q.toNat=p.toNat+t.size by omega]
 exact⟨fun hh=>hh.2,fun hh=>⟨by omega,hh⟩⟩
theorem XdG{ob:Int}(hs:b.size<2^47)(hp: -140737488355328≤p∧p<140737488355328)(hr:A4 v n b p=(oa,ob,oc)):Fn Tryz.prog 258 [I v,I n,S b,I p] [] ⟨.tup [S oa,I ob,B oc],[],[]⟩:=by
 refine Fn.go Nb Tryz.func258 fun P hP Q hQ=>?_
 conv=>cbv
 generalize al:A7 v 1 2=r1
 refine .dd hP (Dq al) ?_
 cases r1
 simp only[A7,decide_eq_true_eq,decide_eq_false_iff_not]at al
 conv=>cbv
 have e:((tx []),0,false)=A4 v n b p:=(by exact Xkv (by omega))
 rw[hr]at e
 simp only[Prod.mk.injEq]at e
 obtain⟨rfl,rfl,rfl⟩:=e
 refine hQ _ _ ?_
 exact .many (.inl rfl) rfl rfl (.d rfl rfl (.d rfl rfl (.d rfl rfl (.nil))))
 simp only[A7,decide_eq_true_eq,decide_eq_false_iff_not]at al
 conv=>cbv
 generalize am:A7 n 0 1000000000=r2
 refine .dd hP (Dq am) ?_
 cases r2
 simp only[A7,decide_eq_true_eq,decide_eq_false_iff_not]at am
 conv=>cbv
 have e:((tx []),0,false)=A4 v n b p:=(by exact Xkv (by omega))
 rw[hr]at e
 simp only[Prod.mk.injEq]at e
 obtain⟨rfl,rfl,rfl⟩:=e
 refine hQ _ _ ?_
 exact .many (.inl rfl) rfl rfl (.d rfl rfl (.d rfl rfl (.d rfl rfl (.nil))))
 simp only[A7,decide_eq_true_eq,decide_eq_false_iff_not]at am
 conv=>cbv
 refine .go fun v3 bp=>?_
 conv=>cbv
 generalize an:A7 p 0 v3=r4
 refine .dd hP (Dq an) ?_
 cases r4
 simp only[A7,decide_eq_true_eq,decide_eq_false_iff_not]at an
 conv=>cbv
 have e:((tx []),0,false)=A4 v n b p:=(by exact XlV (by omega))
 rw[hr]at e
 simp only[Prod.mk.injEq]at e
 obtain⟨rfl,rfl,rfl⟩:=e
 refine hQ _ _ ?_
 exact .many (.inl rfl) rfl rfl (.d rfl rfl (.d rfl rfl (.d rfl rfl (.nil))))
 simp only[A7,decide_eq_true_eq,decide_eq_false_iff_not]at an
 conv=>cbv
 rcases ac:C5 b p with⟨a8,aq,ba⟩
 refine .dd hP (XhY (by omega) ac) ?_
 conv=>cbv
 refine .eql (fun h6=>?_) fun h6=>?_
 conv=>cbv
 rcases ad:Cc b p 4 with⟨bb,bc⟩
 refine .dd hP (Vn (by omega) ad) ?_
 conv=>cbv
 refine .add fun v8 ar=>?_
 conv=>cbv
 cases bc
 conv=>cbv
 have e:((tx []),0,false)=A4 v n b p:=(by rw[Ki h6 ad];rfl)
 rw[hr]at e
 simp only[Prod.mk.injEq]at e
 obtain⟨rfl,rfl,rfl⟩:=e
 refine hQ _ _ ?_
 exact .many (.inl rfl) rfl rfl (.d rfl rfl (.d rfl rfl (.d rfl rfl (.nil))))
 conv=>cbv
 have zz:=Nn ad
 refine .gtr (fun h9=>?_) fun h9=>?_
 conv=>cbv
 have e:((tx []),0,false)=A4 v n b p:=(by rw[Ki h6 ad];rw[if_pos rfl];exact Ls (by omega))
 rw[hr]at e
 simp only[Prod.mk.injEq]at e
 obtain⟨rfl,rfl,rfl⟩:=e
 refine hQ _ _ ?_
 exact .many (.inl rfl) rfl rfl (.d rfl rfl (.d rfl rfl (.d rfl rfl (.nil))))
 conv=>cbv
 refine .go fun bq bi=>?_
 conv=>cbv
 refine .sub fun bd ai=>?_
 conv=>cbv
 refine .gtr (fun h12=>?_) fun h12=>?_
 conv=>cbv
 have e:((tx []),0,false)=A4 v n b p:=(by rw[Ki h6 ad];rw[if_pos rfl];exact Ls (by omega))
 rw[hr]at e
 simp only[Prod.mk.injEq]at e
 obtain⟨rfl,rfl,rfl⟩:=e
 refine hQ _ _ ?_
 exact .many (.inl rfl) rfl rfl (.d rfl rfl (.d rfl rfl (.d rfl rfl (.nil))))
 conv=>cbv
 refine .add fun bt au=>?_
 conv=>cbv
 refine .lohi fun ae ag=>?_
 conv=>cbv
 have bu:ae.size≤b.size:=by rw[ag,ByteArray.size_extract];omega
 have y14:ae.size≤60:=by rw[ag,ByteArray.size_extract];omega
 have ao:ae=b.extract (p+8).toNat (p+8+bb).toNat:=by rw[ag,au,ar]
 have ne:=Ra (v:=v) (n:=n) (r:=ae) (by omega) (by omega) y14
 generalize aa:Aq v n ae=bv
 have zr15:=Fw aa
 refine .dd hP (Qg (by omega) aa) ?_
 conv=>cbv
 refine .go fun be aw=>?_
 conv=>cbv
 refine .go fun bw bj=>?_
 conv=>cbv
 refine .sub fun bf ax=>?_
 conv=>cbv
 refine .gtr (fun h19=>?_) fun h19=>?_
 conv=>cbv
 have e:((tx []),0,false)=A4 v n b p:=(by rw[Ki h6 ad];rw[if_pos rfl];rw[ao]at aa;exact Xj aa (.inr (XcT (by omega) (by omega))))
 rw[hr]at e
 simp only[Prod.mk.injEq]at e
 obtain⟨rfl,rfl,rfl⟩:=e
 refine hQ _ _ ?_
 exact .many (.inl rfl) rfl rfl (.d rfl rfl (.d rfl rfl (.d rfl rfl (.nil))))
 conv=>cbv
 refine .go fun bz bk=>?_
 conv=>cbv
 refine .add fun ay bl=>?_
 conv=>cbv
 refine .lohi fun b0 aj=>?_
 conv=>cbv
 refine .neq (fun h23=>?_) fun h23=>?_
 conv=>cbv
 have e:((tx []),0,false)=A4 v n b p:=(by rw[Ki h6 ad];rw[if_pos rfl];rw[ao]at aa;refine Xj aa (.inr ?_);rw[←Bool.not_eq_true,Sg (q:=ay) (by omega) (by omega) (by omega),←aj];exact h23)
 rw[hr]at e
 simp only[Prod.mk.injEq]at e
 obtain⟨rfl,rfl,rfl⟩:=e
 refine hQ _ _ ?_
 exact .many (.inl rfl) rfl rfl (.d rfl rfl (.d rfl rfl (.d rfl rfl (.nil))))
 conv=>cbv
 refine .go fun b2 az=>?_
 conv=>cbv
 refine .add fun bg a1=>?_
 conv=>cbv
 have e:(ae,bg,true)=A4 v n b p:=(by rw[Ki h6 ad];rw[if_pos rfl];rw[aa]at ne;rw[ao]at aa⊢;rw[a1,az];exact Xe0 (by omega) aa ne ((Sg (q:=ay) (by omega) (by omega) (by omega)).2 (aj▸h23)))
 rw[hr]at e
 simp only[Prod.mk.injEq]at e
 obtain⟨rfl,rfl,rfl⟩:=e
 refine hQ _ _ ?_
 exact .many (.inl rfl) rfl rfl (.d rfl rfl (.d rfl rfl (.d rfl rfl (.nil))))
 conv=>cbv
 cases ba
 conv=>cbv
 have e:((tx []),0,false)=A4 v n b p:=(by rw[Kl (by omega) ac];rfl)
 rw[hr]at e
 simp only[Prod.mk.injEq]at e
 obtain⟨rfl,rfl,rfl⟩:=e
 refine hQ _ _ ?_
 exact .many (.inl rfl) rfl rfl (.d rfl rfl (.d rfl rfl (.d rfl rfl (.nil))))
 conv=>cbv
 have zz:=Mz ac
 refine .gtr (fun h7=>?_) fun h7=>?_
 conv=>cbv
 have e:((tx []),0,false)=A4 v n b p:=(by rw[Kl (by omega) ac];rw[if_pos rfl];exact Ls (by omega))
 rw[hr]at e
 simp only[Prod.mk.injEq]at e
 obtain⟨rfl,rfl,rfl⟩:=e
 refine hQ _ _ ?_
 exact .many (.inl rfl) rfl rfl (.d rfl rfl (.d rfl rfl (.d rfl rfl (.nil))))
 conv=>cbv
 refine .go fun v8 ar=>?_
 conv=>cbv
 refine .sub fun v9 b3=>?_
 conv=>cbv
 refine .gtr (fun h10=>?_) fun h10=>?_
 conv=>cbv
 have e:((tx []),0,false)=A4 v n b p:=(by rw[Kl (by omega) ac];rw[if_pos rfl];exact Ls (by omega))
 rw[hr]at e
 simp only[Prod.mk.injEq]at e
 obtain⟨rfl,rfl,rfl⟩:=e
 refine hQ _ _ ?_
 exact .many (.inl rfl) rfl rfl (.d rfl rfl (.d rfl rfl (.d rfl rfl (.nil))))
 conv=>cbv
 refine .add fun bd ai=>?_
 conv=>cbv
 refine .lohi fun af ah=>?_
 conv=>cbv
 have b4:af.size≤b.size:=by rw[ah,ByteArray.size_extract];omega
 have y12:af.size≤60:=by rw[ah,ByteArray.size_extract];omega
 have ap:af=b.extract aq.toNat (aq+a8).toNat:=by rw[ah,ai]
 have ne:=Ra (v:=v) (n:=n) (r:=af) (by omega) (by omega) y12
 generalize ab:Aq v n af=b5
 have zr13:=Fw ab
 refine .dd hP (Qg (by omega) ab) ?_
 conv=>cbv
 refine .go fun b6 bm=>?_
 conv=>cbv
 refine .go fun b7 bn=>?_
 conv=>cbv
 refine .sub fun be aw=>?_
 conv=>cbv
 refine .gtr (fun h17=>?_) fun h17=>?_
 conv=>cbv
 have e:((tx []),0,false)=A4 v n b p:=(by rw[Kl (by omega) ac];rw[if_pos rfl];rw[ap]at ab;exact Xj ab (.inr (XcT (by omega) (by omega))))
 rw[hr]at e
 simp only[Prod.mk.injEq]at e
 obtain⟨rfl,rfl,rfl⟩:=e
 refine hQ _ _ ?_
 exact .many (.inl rfl) rfl rfl (.d rfl rfl (.d rfl rfl (.d rfl rfl (.nil))))
 conv=>cbv
 refine .go fun bf ax=>?_
 conv=>cbv
 refine .add fun a2 bo=>?_
 conv=>cbv
 refine .lohi fun b8 ak=>?_
 conv=>cbv
 refine .neq (fun h21=>?_) fun h21=>?_
 conv=>cbv
 have e:((tx []),0,false)=A4 v n b p:=(by rw[Kl (by omega) ac];rw[if_pos rfl];rw[ap]at ab;refine Xj ab (.inr ?_);rw[←Bool.not_eq_true,Sg (q:=a2) (by omega) (by omega) (by omega),←ak];exact h21)
 rw[hr]at e
 simp only[Prod.mk.injEq]at e
 obtain⟨rfl,rfl,rfl⟩:=e
 refine hQ _ _ ?_
 exact .many (.inl rfl) rfl rfl (.d rfl rfl (.d rfl rfl (.d rfl rfl (.nil))))
 conv=>cbv
 refine .go fun b9 a6=>?_
 conv=>cbv
 refine .add fun bh a7=>?_
 conv=>cbv
 have e:(af,bh,true)=A4 v n b p:=(by rw[Kl (by omega) ac];rw[if_pos rfl];rw[ab]at ne;rw[ap]at ab⊢;rw[a7,a6];exact Xe0 (by omega) ab ne ((Sg (q:=a2) (by omega) (by omega) (by omega)).2 (ak▸h21)))
 rw[hr]at e
 simp only[Prod.mk.injEq]at e
 obtain⟨rfl,rfl,rfl⟩:=e
 refine hQ _ _ ?_
 exact .many (.inl rfl) rfl rfl (.d rfl rfl (.d rfl rfl (.d rfl rfl (.nil))))
end
section
open Go Go.Proofs
set_option maxRecDepth 20000
set_option maxHeartbeats 4000000
def XeC:List (Nat×TyRow):=[ty3,ty4,ty9,Xay,XeI,Xbc,Xjg]
theorem Xd9:B8 Tryz.prog XeC:=B8.of (by kernel_rfl)
theorem Xag:Setup Tryz.prog XeC:=⟨Xd9,mixed⟩
def Iw(h:B9)(b:ByteArray)(n:Nat)(p:Int):List ByteArray×List Int×Int×Bool:=
 if Et h.version_ (h.base_+n) b p=true then([],[],p,true)
 else match A4 h.version_ (h.base_+n) b p with
  |(r,q,true)=>if p<q∧q≤b.size then(r::(Iw h b (n+1) q).1,p::(Iw h b (n+1) q).2.1,(Iw h b (n+1) q).2.2)else([],[],p,false)
  |_=>([],[],p,false)
termination_by (b.size - p).toNat
decreasing_by all_goals omega
def Bj(b:ByteArray):Ql:=match Cj b with
 |(h,true)=>⟨true,h,(Iw h b 0 24).1,(Iw h b 0 24).2.1,(Iw h b 0 24).2.2.1,(Iw h b 0 24).2.2.2⟩
 |_=>⟨false,⟨0,0,0,0⟩,[],[],0,false⟩
theorem Xc{v n:Int}{r t:ByteArray}(e:Aq v n r=t)(h:t≠tx []):5≤t.size:=by
 unfold Aq at e
 split at e
 ·rename_i hh
  have h4:=Vs _ (V3 r)
  have h1:1≤(if v=2 then N5 n r.size else C1 r.size).size:=by
   split
   ·unfold N5
    rw[ByteArray.size_append,Vs _ (by omega)]
    omega
   ·unfold C1
    rw[if_pos (by omega),B7]
    exact List.length_pos_iff.2 (Xea _)
  rw[←e,ByteArray.size_append,ByteArray.size_append]
  omega
 ·exact absurd e.symm h
theorem H9{v n p q:Int}{b r:ByteArray}(h:A4 v n b p=(r,q,true)):0≤p∧p+5≤q∧q≤b.size∧r.size≤60∧(v=1∨v=2)∧0≤n∧n≤1000000000∧q=p+(Aq v n r).size∧Gj b p (Aq v n r)=true:=by
 have key:∀{x s:Int},0≤s→0≤x→Ia v n b p x s=(r,q,true)→0≤p∧p+5≤q∧q≤b.size∧r.size≤60∧(v=1∨v=2)∧0≤n∧n≤1000000000∧q=p+(Aq v n r).size∧Gj b p (Aq v n r)=true:=by
  intro x s hs hx e
  unfold Ia at e
  split at e
  ·rename_i hh
   obtain⟨h1,h2,h3,h4⟩:=hh
   simp only[Prod.mk.injEq,and_true]at e
   obtain⟨rfl,rfl⟩:=e
   have h5:=Xc rfl h3
   have h6:=of_decide_eq_true h4
   have h7:(b.extract s.toNat (s+x).toNat).size=x.toNat:=by rw[Uv (by omega) (by omega)];omega
   have h8:(v=1∨v=2)∧0≤n∧n≤1000000000:=by
    by_cases hh:(v=1∨v=2)∧0≤n∧n≤1000000000
    ·exact hh
    ·exact absurd (Kt hh) h3
   exact⟨h6.1.1,by omega,by omega,by omega,h8.1,h8.2.1,h8.2.2,rfl,h4⟩
  ·simp at e
 rcases h1:Cc b p 4 with⟨x,ok⟩
 rcases h2:C5 b p with⟨y,s,ok2⟩
 by_cases hv:v=2
 ·rw[Ki hv h1]at h
  cases ok
  ·simp at h
  ·have:=Nn h1
   exact key (by omega) (by omega) h
 ·rw[Kl hv h2]at h
  cases ok2
  ·simp at h
  ·have:=Mz h2
   exact key (by omega) (by omega) h
theorem Pj{h:B9}{b:ByteArray}{n:Nat}{p:Int}(hm:Et h.version_ (h.base_+n) b p=true):Iw h b n p=([],[],p,true):=by rw[Iw,if_pos hm]
theorem Pf{h:B9}{b:ByteArray}{n:Nat}{p:Int}{r:ByteArray}{q:Int}(hm:Et h.version_ (h.base_+n) b p=false)(hf:A4 h.version_ (h.base_+n) b p=(r,q,false)):Iw h b n p=([],[],p,false):=by rw[Iw,if_neg (by rw[hm];simp),hf]
theorem Pi{h:B9}{b:ByteArray}{n:Nat}{p:Int}{r:ByteArray}{q:Int}(hm:Et h.version_ (h.base_+n) b p=false)(hf:A4 h.version_ (h.base_+n) b p=(r,q,true)):Iw h b n p=(r::(Iw h b (n+1) q).1,p::(Iw h b (n+1) q).2.1,(Iw h b (n+1) q).2.2):=by
 have:=H9 hf
 rw[Iw,if_neg (by rw[hm];simp),hf]
 simp only[]
 rw[if_pos (by omega)]
variable {b:ByteArray} {ook omar:Bool} {oheaver oheastr oheabas ohealin oend:Int} {orec:List ByteArray} {xorec xooff:List (List D)} {ooff:List Int}
theorem Yb(hs:b.size<2^47)(hr:Bj b=⟨ook,⟨oheaver,oheastr,oheabas,ohealin⟩,orec,ooff,oend,omar⟩)(horec:orec.map cS=xorec)(hooff:ooff.map cI=xooff):Fn Tryz.prog 199 [S b] [] ⟨.agg [B ook,I oheaver,I oheastr,I oheabas,I ohealin,.d (.row 1 xorec),.d (.row 1 xooff),I oend,B omar],[],[]⟩:=by
 refine Fn.go Xag Tryz.func199 fun P hP Q hQ=>?_
 conv=>cbv
 rcases ak:Cj b with⟨⟨aa,ac,ab,ad⟩,ap⟩
 refine .dd hP (Yt (by omega) ak) ?_
 conv=>cbv
 cases ap
 conv=>cbv
 have e:(⟨false,⟨0,0,0,0⟩,[],[],0,false⟩:Ql)=Bj b:=(by unfold Bj;rw[ak])
 rw[hr]at e
 simp only[B9.mk.injEq,Ql.mk.injEq]at e
 obtain⟨rfl,⟨rfl,rfl,rfl,rfl⟩,rfl,rfl,rfl,rfl⟩:=e
 exact hQ _ _ (.one (.inl rfl) rfl (.agg (.d rfl rfl (.d rfl rfl (.d rfl rfl (.d rfl rfl (.d rfl rfl (.ref rfl rfl (by rw[←horec];rfl) (.ref rfl rfl (by rw[←hooff];rfl) (.d rfl rfl (.d rfl rfl (.nil)))))))))) .nil))
 conv=>cbv
 refine LoopW.lp (κ:=Int×(List (List D))×Nat×(List (List D))×Nat) Xag hP [4,5] [0,2,3,5] (fun(ae,al,am,af,ag)=>[]) (fun(ae,al,am,af,ag)=>[(8,.box 115 [B true,I aa,I ac,I ab,I ad,.ref 9 0 am,.ref 10 0 ag,I ae,B false]),(9,.row 1 false al),(10,.row 1 false af)])
  (fun(ae,al,am,af,ag)=>∃(w9:List ByteArray) (ai:List Int),w9.map cS=al∧am=w9.length∧ai.map cI=af∧ag=ai.length∧(24≤ae∧ae≤b.size∧w9.length=ai.length∧5*(w9.length:Int)+24≤ae)∧Iw ⟨aa,ac,ab,ad⟩ b 0 24=(w9++(Iw ⟨aa,ac,ab,ad⟩ b w9.length ae).1,ai++(Iw ⟨aa,ac,ab,ad⟩ b w9.length ae).2.1,(Iw ⟨aa,ac,ab,ad⟩ b w9.length ae).2.2))
  (fun(ae,al,am,af,ag)=>(b.size - ae).toNat) (24,[],0,[],0) ⟨[],[],rfl,rfl,rfl,rfl,by have:=Hv ak;simp;omega,rfl⟩ trivial rfl ?_
 rintro⟨ae,al,am,af,ag⟩ J ⟨w9,ai,ao,a2,ah,aq,hb,hS⟩ hJ
 have hd:=Ic (Hv ak).2.2
 conv=>cbv
 refine .go fun v2 a8=>?_
 conv=>cbv
 refine .add fun v3 ba=>?_
 conv=>cbv
 have e3:v3=ab+(w9.length:Int):=by omega
 generalize aj:Et aa v3 b ae=r4
 refine .dd hP (Xjb (by omega) (by omega) aj) ?_
 cases r4
 conv=>cbv
 rcases an:A4 aa v3 b ae with⟨ar,au,aw⟩
 refine .dd hP (XdM (by omega) (by omega) an) ?_
 conv=>cbv
 cases aw
 conv=>cbv
 have e:(⟨true,⟨aa,ac,ab,ad⟩,w9,ai,ae,false⟩:Ql)=Bj b:=(by rw[e3]at aj an;unfold Bj;rw[ak];simp only[];rw[hS,Pf (h:=⟨aa,ac,ab,ad⟩) aj an];simp)
 rw[hr]at e
 simp only[B9.mk.injEq,Ql.mk.injEq]at e
 obtain⟨rfl,⟨rfl,rfl,rfl,rfl⟩,rfl,rfl,rfl,rfl⟩:=e
 exact hQ _ _ (.one (.inl rfl) rfl (.agg (.d rfl rfl (.d rfl rfl (.d rfl rfl (.d rfl rfl (.d rfl rfl (.ref rfl (by rw[←ao,List.length_map];first|omega|(simp;omega)) (by rw[←ao,←horec]) (.ref rfl (by rw[←ah,List.length_map];first|omega|(simp;omega)) (by rw[←ah,←hooff]) (.d rfl rfl (.d rfl rfl (.nil)))))))))) .nil))
 conv=>cbv
 have hf:=H9 an
 refine .one ar ao rfl fun ax z6 a6 ay=>?_
 conv=>cbv
 refine .one ae ah rfl fun az z7 a7 a1=>?_
 conv=>cbv
 exact .go [12,14] (au,z6,ax,z7,az) (hJ _ ⟨_,_,ay,Hm,a1,Hm,by simp;omega,by rw[e3]at aj an;rw[hS,Pi (h:=⟨aa,ac,ab,ad⟩) aj an];simp[List.append_assoc]⟩ mlt)
 conv=>cbv
 have e:(⟨true,⟨aa,ac,ab,ad⟩,w9,ai,ae,true⟩:Ql)=Bj b:=(by rw[e3]at aj;unfold Bj;rw[ak];simp only[];rw[hS,Pj (h:=⟨aa,ac,ab,ad⟩) aj];simp)
 rw[hr]at e
 simp only[B9.mk.injEq,Ql.mk.injEq]at e
 obtain⟨rfl,⟨rfl,rfl,rfl,rfl⟩,rfl,rfl,rfl,rfl⟩:=e
 exact hQ _ _ (.one (.inl rfl) rfl (.agg (.d rfl rfl (.d rfl rfl (.d rfl rfl (.d rfl rfl (.d rfl rfl (.ref rfl (by rw[←ao,List.length_map];first|omega|(simp;omega)) (by rw[←ao,←horec]) (.ref rfl (by rw[←ah,List.length_map];first|omega|(simp;omega)) (by rw[←ah,←hooff]) (.d rfl rfl (.d rfl rfl (.nil)))))))))) .nil))
theorem Sl(hs:b.size<2^47)(hr:Bj b=⟨ook,⟨oheaver,oheastr,oheabas,ohealin⟩,orec,ooff,oend,omar⟩)(horec:orec.map cS=xorec)(hooff:ooff.map cI=xooff):Fn Tryz.prog 190 [S b] [] ⟨.agg [B ook,I oheaver,I oheastr,I oheabas,I ohealin,.d (.row 1 xorec),.d (.row 1 xooff),I oend,B omar],[],[]⟩:=by
 refine Fn.go Xag Tryz.func190 fun P hP Q hQ=>?_
 conv=>cbv
 rcases ak:Cj b with⟨⟨aa,ac,ab,ad⟩,ap⟩
 refine .dd hP (X5 (by omega) ak) ?_
 conv=>cbv
 cases ap
 conv=>cbv
 have e:(⟨false,⟨0,0,0,0⟩,[],[],0,false⟩:Ql)=Bj b:=(by unfold Bj;rw[ak])
 rw[hr]at e
 simp only[B9.mk.injEq,Ql.mk.injEq]at e
 obtain⟨rfl,⟨rfl,rfl,rfl,rfl⟩,rfl,rfl,rfl,rfl⟩:=e
 exact hQ _ _ (.one (.inl rfl) rfl (.agg (.d rfl rfl (.d rfl rfl (.d rfl rfl (.d rfl rfl (.d rfl rfl (.ref rfl rfl (by rw[←horec];rfl) (.ref rfl rfl (by rw[←hooff];rfl) (.d rfl rfl (.d rfl rfl (.nil)))))))))) .nil))
 conv=>cbv
 refine LoopW.lp (κ:=Int×(List (List D))×Nat×(List (List D))×Nat) Xag hP [4,5] [0,2,3,5] (fun(ae,al,am,af,ag)=>[]) (fun(ae,al,am,af,ag)=>[(8,.box 115 [B true,I aa,I ac,I ab,I ad,.ref 9 0 am,.ref 10 0 ag,I ae,B false]),(9,.row 1 false al),(10,.row 1 false af)])
  (fun(ae,al,am,af,ag)=>∃(w9:List ByteArray) (ai:List Int),w9.map cS=al∧am=w9.length∧ai.map cI=af∧ag=ai.length∧(24≤ae∧ae≤b.size∧w9.length=ai.length∧5*(w9.length:Int)+24≤ae)∧Iw ⟨aa,ac,ab,ad⟩ b 0 24=(w9++(Iw ⟨aa,ac,ab,ad⟩ b w9.length ae).1,ai++(Iw ⟨aa,ac,ab,ad⟩ b w9.length ae).2.1,(Iw ⟨aa,ac,ab,ad⟩ b w9.length ae).2.2))
  (fun(ae,al,am,af,ag)=>(b.size - ae).toNat) (24,[],0,[],0) ⟨[],[],rfl,rfl,rfl,rfl,by have:=Hv ak;simp;omega,rfl⟩ trivial rfl ?_
 rintro⟨ae,al,am,af,ag⟩ J ⟨w9,ai,ao,a2,ah,aq,hb,hS⟩ hJ
 have hd:=Ic (Hv ak).2.2
 conv=>cbv
 refine .go fun v2 a8=>?_
 conv=>cbv
 refine .add fun v3 ba=>?_
 conv=>cbv
 have e3:v3=ab+(w9.length:Int):=by omega
 generalize aj:Et aa v3 b ae=r4
 refine .dd hP (XjO (by omega) (by omega) aj) ?_
 cases r4
 conv=>cbv
 rcases an:A4 aa v3 b ae with⟨ar,au,aw⟩
 refine .dd hP (XdG (by omega) (by omega) an) ?_
 conv=>cbv
 cases aw
 conv=>cbv
 have e:(⟨true,⟨aa,ac,ab,ad⟩,w9,ai,ae,false⟩:Ql)=Bj b:=(by rw[e3]at aj an;unfold Bj;rw[ak];simp only[];rw[hS,Pf (h:=⟨aa,ac,ab,ad⟩) aj an];simp)
 rw[hr]at e
 simp only[B9.mk.injEq,Ql.mk.injEq]at e
 obtain⟨rfl,⟨rfl,rfl,rfl,rfl⟩,rfl,rfl,rfl,rfl⟩:=e
 exact hQ _ _ (.one (.inl rfl) rfl (.agg (.d rfl rfl (.d rfl rfl (.d rfl rfl (.d rfl rfl (.d rfl rfl (.ref rfl (by rw[←ao,List.length_map];first|omega|(simp;omega)) (by rw[←ao,←horec]) (.ref rfl (by rw[←ah,List.length_map];first|omega|(simp;omega)) (by rw[←ah,←hooff]) (.d rfl rfl (.d rfl rfl (.nil)))))))))) .nil))
 conv=>cbv
 have hf:=H9 an
 refine .one ar ao rfl fun ax z6 a6 ay=>?_
 conv=>cbv
 refine .one ae ah rfl fun az z7 a7 a1=>?_
 conv=>cbv
 exact .go [12,14] (au,z6,ax,z7,az) (hJ _ ⟨_,_,ay,Hm,a1,Hm,by simp;omega,by rw[e3]at aj an;rw[hS,Pi (h:=⟨aa,ac,ab,ad⟩) aj an];simp[List.append_assoc]⟩ mlt)
 conv=>cbv
 have e:(⟨true,⟨aa,ac,ab,ad⟩,w9,ai,ae,true⟩:Ql)=Bj b:=(by rw[e3]at aj;unfold Bj;rw[ak];simp only[];rw[hS,Pj (h:=⟨aa,ac,ab,ad⟩) aj];simp)
 rw[hr]at e
 simp only[B9.mk.injEq,Ql.mk.injEq]at e
 obtain⟨rfl,⟨rfl,rfl,rfl,rfl⟩,rfl,rfl,rfl,rfl⟩:=e
 exact hQ _ _ (.one (.inl rfl) rfl (.agg (.d rfl rfl (.d rfl rfl (.d rfl rfl (.d rfl rfl (.d rfl rfl (.ref rfl (by rw[←ao,List.length_map];first|omega|(simp;omega)) (by rw[←ao,←horec]) (.ref rfl (by rw[←ah,List.length_map];first|omega|(simp;omega)) (by rw[←ah,←hooff]) (.d rfl rfl (.d rfl rfl (.nil)))))))))) .nil))
end
section
open Go Go.Proofs
set_option maxRecDepth 20000
set_option maxHeartbeats 4000000
def Xft:List (Nat×TyRow):=[ty3,ty9,XeI,XlR,XkV,XmA]
theorem Xdu:B8 Tryz.prog Xft:=B8.of (by kernel_rfl)
theorem Jk:Setup Tryz.prog Xft:=⟨Xdu,mixed⟩
def Xgt(s:Nat)(offs:List Int)(n:Nat):List H0:=((List.range n).filter (fun i=>i% s=0)).map (fun(i:Nat)=>⟨(i:Int),offs.getD i 0⟩)
def Di(stride:Int)(offs:List Int):List H0:=if stride<1 then[]else Xgt stride.toNat offs offs.length
theorem Rr{s n:Nat}{offs:List Int}:Xgt s offs (n+1)=Xgt s offs n++(if n% s=0 then[⟨(n:Int),offs.getD n 0⟩]else[]):=by
 unfold Xgt
 rw[List.range_succ,List.filter_append,List.map_append]
 congr 1
 by_cases h:n% s=0<;>simp[h]
theorem Z3{s n:Nat}{offs:List Int}:(Xgt s offs n).length≤n:=by
 unfold Xgt
 rw[List.length_map]
 exact Nat.le_trans (List.length_filter_le _ _) (by simp)
theorem Zg{s k:Nat}{offs:List Int}(hk:k% s=0):∀(d:Nat),d<s→Xgt s offs (k+1+d)=Xgt s offs k++[⟨(k:Int),offs.getD k 0⟩]
 |0,_=>by rw[Nat.add_zero,Rr,if_pos hk]
 |d+1,h=>by
  rw[←Nat.add_assoc,Rr,Zg hk d (by omega),if_neg,List.append_nil]
  have:k+1+d=k+(d+1):=by omega
  rw[this,Nat.add_mod,hk,Nat.zero_add,Nat.mod_mod,Nat.mod_eq_of_lt h]
  omega
theorem Xd4{l:List Int}{k:Nat}(h:k<l.length):l[k]=l.getD k 0:=by rw[List.getD_eq_getElem?_getD,List.getElem?_eq_getElem h];rfl
def Hi(a b:Int):ByteArray:=if b≤a∧a - b≤1000000000 then C1 (a - b)else tx []
theorem Ul{a b:Int}{o:ByteArray}(h:Hi a b=o):o.size≤5:=by
 rw[←h]
 unfold Hi
 split
 ·exact Ix _
 ·simp[B7]
def Ig(a b:Int):Int:=if b≤a∧a - b<9223372036854775808 then a - b else -1
theorem Yg(a b:Int):C1 (Ig a b)=Hi a b:=by
 unfold Ig Hi
 by_cases h:b≤a∧a - b≤1000000000
 ·rw[if_pos h,if_pos (by omega)]
 ·rw[if_neg h]
  unfold C1
  split
  ·rw[if_neg (by omega)]
  ·rfl
def Js:Int×Int→List H0→Option ByteArray
 |_,[]=>some (tx [])
 |q,p::l=>if Hi p.count_ q.1=tx []∨Hi p.at_ q.2=tx []then none else(Js (p.count_,p.at_) l).map fun t=>(Hi p.count_ q.1++Hi p.at_ q.2)++t
def Ck(l:List H0):ByteArray:=match Js (0,0) l with
 |some t=>C1 l.length++t
 |none=>tx []
theorem Xa:∀{l:List H0} {q:Int×Int} {t:ByteArray},Js q l=some t→t.size≤10*l.length
 |[],q,t,h=>by cases h;simp[B7]
 |p::l,q,t,h=>by
  simp only[Js]at h
  split at h
  ·cases h
  ·obtain⟨u,hu,rfl⟩:=Option.map_eq_some_iff.1 h
   have:=Xa hu
   have h1:=Ul (rfl:Hi p.count_ q.1=_)
   have h2:=Ul (rfl:Hi p.at_ q.2=_)
   rw[ByteArray.size_append,ByteArray.size_append,List.length_cons]
   omega
theorem Qc(l:List H0):(Ck l).size≤5+10*l.length:=by
 unfold Ck
 split
 ·rename_i t h
  have h1:=Xa h
  have h2:=Ix l.length
  rw[ByteArray.size_append]
  omega
 ·simp[B7]
theorem Rv{l:List H0}{o:ByteArray}(h:Ck l=o):o.size≤5+10*l.length:=by rw[←h];exact Qc l
theorem Xhg(s:ByteArray):tx []++s=s:=by rw[←V8 s,D2];rfl
theorem Zk(s:ByteArray):s++tx []=s:=by rw[←V8 s,D2,List.append_nil]
theorem Xdo{n w:Int}(h:Ay n w≠tx []):(Ay n w).size=w.toNat:=by
 by_cases hh:0≤n∧1≤w∧w≤8∧n.toNat/2^ (8*w.toNat)=0
 ·exact Sh hh
 ·exact absurd (if_neg hh) h
def wfPl(l:List H0):Prop:=∀p∈l,wfI p.count_∧wfI p.at_
def Jo(acc:ByteArray):List Int→Option ByteArray
 |[]=>some acc
 |x::l=>if Ay x 4=tx []then none else Jo (acc++Ay x 4) l
def B4(a b c d:Int):ByteArray:=match Jo (tx []) [a,b,c,d]with
 |some t=>t++tx [73,68,88,33]
 |none=>tx []
theorem Ve:∀{l:List Int} {acc t:ByteArray},Jo acc l=some t→t.size≤acc.size+8*l.length
 |[],acc,t,h=>by cases h;simp
 |x::l,acc,t,h=>by
  simp only[Jo]at h
  split at h
  ·cases h
  ·have:=Ve h
   have h1:=@Fk x 4
   rw[ByteArray.size_append]at this
   rw[List.length_cons]
   omega
theorem Hk{a b c d:Int}{o:ByteArray}(h:B4 a b c d=o):o.size≤36:=by
 rw[←h]
 unfold B4
 split
 ·rename_i t ht
  have:=Ve ht
  simp only[B7,List.length_cons,List.length_nil]at this
  rw[ByteArray.size_append,B7]
  simp only[List.length_cons,List.length_nil]
  omega
 ·simp[B7]
theorem Xdf:∀{l:List Int} {acc t:ByteArray},Jo acc l=some t→t.size=acc.size+4*l.length
 |[],acc,t,h=>by cases h;simp
 |x::l,acc,t,h=>by
  simp only[Jo]at h
  split at h
  ·cases h
  ·rename_i hx
   have:=Xdf h
   have h1:=Xdo hx
   rw[ByteArray.size_append,h1]at this
   rw[List.length_cons,this]
   simp
   omega
theorem Om{a b c d:Int}(h:B4 a b c d≠tx []):(B4 a b c d).size=20:=by
 unfold B4 at h⊢
 split
 ·rename_i t ht
  have:=Xdf ht
  simp only[B7,List.length_cons,List.length_nil]at this
  rw[ByteArray.size_append,B7,this]
  rfl
 ·rename_i ht
  rw[ht]at h
  exact absurd rfl h
def Co(h:B9)(offs:List Int)(fin:Int):ByteArray:=
 if Dh h=true∧C9 h.version_ (h.base_+offs.length)≠tx []∧Ck (Di h.stride_ offs)≠tx []∧B4 fin offs.length h.stride_ 0≠tx []then
  (C9 h.version_ (h.base_+offs.length)++Ck (Di h.stride_ offs))++B4 fin offs.length h.stride_ (F7 ((C9 h.version_ (h.base_+offs.length)++Ck (Di h.stride_ offs))++(B4 fin offs.length h.stride_ 0).extract 0 12))else tx []
theorem Nl{s:Int}{offs:List Int}:(Di s offs).length≤offs.length:=by
 unfold Di
 split
 ·simp
 ·exact Z3
theorem Tp{s:Int}{offs:List Int}(h:∀x∈offs,wfI x)(hl:offs.length<2^40):wfPl (Di s offs):=by
 unfold Di
 split
 ·intro p hp;simp at hp
 ·intro p hp
  unfold Xgt at hp
  obtain⟨i,hi,rfl⟩:=List.mem_map.1 hp
  have aa:=List.mem_range.1 (List.mem_filter.1 hi).1
  refine⟨⟨by show -9223372036854775808≤(i:Int);omega,by show(i:Int)<9223372036854775808;omega⟩,?_⟩
  show wfI (offs.getD i 0)
  rw[←Xd4 aa]
  exact h _ (List.getElem_mem aa)
theorem Tz(h:B9)(offs:List Int)(fin:Int):(Co h offs fin).size≤57+10*offs.length:=by
 unfold Co
 split
 ·rw[ByteArray.size_append,ByteArray.size_append]
  have h1:=Mr (rfl:C9 h.version_ (h.base_+offs.length)=_)
  have h2:=Qc (Di h.stride_ offs)
  have h3:=@Nl h.stride_ offs
  have h4:=Hk (rfl:B4 fin offs.length h.stride_ (F7 ((C9 h.version_ (h.base_+offs.length)++Ck (Di h.stride_ offs))++(B4 fin offs.length h.stride_ 0).extract 0 12))=_)
  omega
 ·simp[B7]
variable {stride mark count sum a b:Int} {offs:List Int} {xoffs xo:List (List D)} {o:ByteArray}
theorem XfU{o:List H0}(hoffs:offs.map cI=xoffs)(hl:offs.length<2^40)(hr:Di stride offs=o)(ho:o.map Tx=xo):Fn Tryz.prog 287 [I stride,.d (.row 1 xoffs)] [] ⟨.d (.row 2 xo),[],[]⟩:=by
 refine Fn.go Jk Tryz.func287 fun P hP Q hQ=>?_
 conv=>cbv
 refine LoopW.lp (κ:=Int×(List (List D))×Nat) Jk hP [1] [0,1] (fun(i6,aa,ab)=>[(5,.ref 2 0 ab),(6,I i6)]) (fun(i6,aa,ab)=>[(2,.row 2 false aa)])
  (fun(i6,aa,ab)=>∃(w2:List H0),w2.map Tx=aa∧ab=w2.length∧∃k:Nat,i6=(k:Int)∧k≤offs.length∧(1≤stride∨k=0)∧w2=Xgt stride.toNat offs k)
  (fun(i6,aa,ab)=>(offs.length - i6).toNat) (0,[],0) ⟨[],rfl,rfl,0,rfl,by omega,by omega,by simp[Xgt]⟩ ⟨rfl,rfl,trivial⟩ rfl ?_
 rintro⟨i6,aa,ab⟩ J ⟨w2,ac,ah,k,hi,hk,hs,hw⟩ hJ
 have hwl:w2.length≤k:=by rw[hw];exact Z3
 conv=>cbv
 refine .go hoffs fun v1 ak=>?_
 conv=>cbv
 refine .lss (fun h2=>?_) fun h2=>?_
 conv=>cbv
 refine .geq (fun h3=>?_) fun h3=>?_
 conv=>cbv
 refine .rem fun v4 ad=>?_
 conv=>cbv
 refine .eql (fun h5=>?_) fun h5=>?_
 conv=>cbv
 refine .go i6.toNat hoffs fun ai e6 ae=>?_
 conv=>cbv
 have em0:((k% stride.toNat:Nat):Int)=0:=by rw[Int.natCast_emod,Int.toNat_of_nonneg (by omega),←hi,←ad];exact h5
 have em:k% stride.toNat=0:=by omega
 have e1:(⟨i6,e6⟩:H0)=⟨(k:Int),offs.getD k 0⟩:=by rw[ae,Xd4];simp only[hi,Int.toNat_natCast]
 refine .one (⟨i6,e6⟩:H0) ac rfl fun af z7 aj ag=>?_
 conv=>cbv
 refine .add fun v8 al=>?_
 conv=>cbv
 exact .go [4] (v8,z7,af) (hJ _ ⟨_,ag,Hm,k+1,by omega,by omega,by omega,by rw[Rr,if_pos em,hw,e1]⟩ mlt)
 conv=>cbv
 have em:¬k% stride.toNat=0:=by intro e;refine h5 ?_;rw[ad,hi,show stride=((stride.toNat:Nat):Int)by omega,←Int.natCast_emod,e];rfl
 refine .add fun v6 am=>?_
 conv=>cbv
 exact .go [2] (v6,aa,ab) (hJ _ ⟨_,ac,Hm,k+1,by omega,by omega,by omega,by rw[Rr,if_neg em,hw];simp⟩ mlt)
 conv=>cbv
 have e:w2=Di stride offs:=(by rw[hw,show k=0 by omega];unfold Di;rw[if_pos (by omega)];rfl)
 rw[hr]at e
 subst e
 exact hQ _ _ (.r rfl rfl (by rw[←ac,List.length_map];first|omega|(simp;omega)) (by rw[←ac,←ho]))
 conv=>cbv
 have e:w2=Di stride offs:=(by rw[hw];unfold Di;split;rw[show k=0 by omega];rfl;rw[show k=offs.length by omega])
 rw[hr]at e
 subst e
 exact hQ _ _ (.r rfl rfl (by rw[←ac,List.length_map];first|omega|(simp;omega)) (by rw[←ac,←ho]))
theorem XgL{o:List H0}(hoffs:offs.map cI=xoffs)(hl:offs.length<2^40)(hr:Di stride offs=o)(ho:o.map Tx=xo):Fn Tryz.prog 292 [I stride,.d (.row 1 xoffs)] [] ⟨.d (.row 2 xo),[],[]⟩:=by
 refine Fn.go Jk Tryz.func292 fun P hP Q hQ=>?_
 conv=>cbv
 refine .lss (fun h1=>?_) fun h1=>?_
 conv=>cbv
 have e:[]=Di stride offs:=(by unfold Di;rw[if_pos (by omega)])
 rw[hr]at e
 subst e
 exact hQ _ _ (.r rfl rfl rfl (by rw[←ho];rfl))
 conv=>cbv
 refine LoopW.lp (κ:=Int×(List (List D))×Nat) Jk hP [1] [0,1] (fun(i6,aa,ab)=>[(5,.ref 2 0 ab),(6,I i6)]) (fun(i6,aa,ab)=>[(2,.row 2 false aa)])
  (fun(i6,aa,ab)=>∃(w2:List H0),w2.map Tx=aa∧ab=w2.length∧∃k:Nat,i6=(k:Int)∧k≤offs.length∧k% stride.toNat=0∧w2=Xgt stride.toNat offs k)
  (fun(i6,aa,ab)=>(offs.length - i6).toNat) (0,[],0) ⟨[],rfl,rfl,0,rfl,by omega,by simp,by simp[Xgt]⟩ ⟨rfl,rfl,trivial⟩ rfl ?_
 rintro⟨i6,aa,ab⟩ J ⟨w2,ac,ag,k,hi,hk,hs,hw⟩ hJ
 have hwl:w2.length≤k:=by rw[hw];exact Z3
 conv=>cbv
 refine .go hoffs fun v2 aj=>?_
 conv=>cbv
 refine .lss (fun h3=>?_) fun h3=>?_
 conv=>cbv
 refine .go i6.toNat hoffs fun ah e4 ae=>?_
 conv=>cbv
 have e1:(⟨i6,e4⟩:H0)=⟨(k:Int),offs.getD k 0⟩:=by rw[ae,Xd4];simp only[hi,Int.toNat_natCast]
 refine .one (⟨i6,e4⟩:H0) ac rfl fun af z5 ai ad=>?_
 conv=>cbv
 refine .go hoffs fun v6 ak=>?_
 conv=>cbv
 refine .sub fun v7 al=>?_
 conv=>cbv
 refine .gtr (fun h8=>?_) fun h8=>?_
 conv=>cbv
 have e:(w2++[(⟨i6,e4⟩:H0)])=Di stride offs:=(by unfold Di;rw[if_neg (by omega),show offs.length=k+1+(offs.length - 1 - k)by omega,Zg hs _ (by omega),hw,e1])
 rw[hr]at e
 subst e
 exact hQ _ _ (.r rfl rfl (by rw[←ad,List.length_map];first|omega|(simp;omega)) (by rw[←ad,←ho]))
 conv=>cbv
 refine .add fun v9 am=>?_
 conv=>cbv
 exact .go [4] (v9,z5,af) (hJ _ ⟨_,ad,Hm,k+stride.toNat,by omega,by omega,by rw[Nat.add_mod_right];exact hs,by rw[show k+stride.toNat=k+1+(stride.toNat - 1)by omega,Zg hs _ (by omega),hw,e1]⟩ mlt)
 conv=>cbv
 have e:w2=Di stride offs:=(by unfold Di;rw[if_neg (by omega),hw,show k=offs.length by omega])
 rw[hr]at e
 subst e
 exact hQ _ _ (.r rfl rfl (by rw[←ac,List.length_map];first|omega|(simp;omega)) (by rw[←ac,←ho]))
theorem R7(k1:mark<9223372036854775808)(k2:count<9223372036854775808)(k3:stride<9223372036854775808)(k4:sum<9223372036854775808)(hr:B4 mark count stride sum=o):Fn Tryz.prog 293 [I mark,I count,I stride,I sum] [] ⟨S o,[],[]⟩:=by
 refine Fn.go Jk Tryz.func293 fun P hP Q hQ=>?_
 conv=>cbv
 refine .go fun v1 ah=>?_
 conv=>cbv
 refine LoopW.lp (κ:=ByteArray×Int) Jk hP [] [17,18] (fun(s9,aa)=>[(9,S s9),(19,I aa)]) (fun(s9,aa)=>[])
  (fun(s9,aa)=>∃k:Nat,aa=(k:Int)∧k≤4∧s9.size≤8*k∧Jo (tx []) [mark,count,stride,sum]=Jo s9 ([mark,count,stride,sum].drop k))
  (fun(s9,aa)=>(4 - aa).toNat) (tx [],0) ⟨0,rfl,by omega,by simp[B7],rfl⟩ ⟨rfl,rfl,trivial⟩ rfl ?_
 rintro⟨s9,aa⟩ J ⟨k,hi,hk,hz,hf⟩ hJ
 conv=>cbv
 refine .lss (fun h2=>?_) fun h2=>?_
 conv=>cbv
 refine .go aa.toNat fun p3 ai af=>?_
 conv=>cbv
 refine .go (l:=[mark,count,stride,sum]) (c:=cI) rfl fun ag e4 ac=>?_
 conv=>cbv
 have eE:[mark,count,stride,sum][k]'(by simp;omega)=e4:=by rw[ac];congr 1;omega
 have hE:e4<9223372036854775808:=by
  rw[←eE]
  have aj:k<4:=by omega
  rcases k with _|_|_|_|k
  ·exact k1
  ·exact k2
  ·exact k3
  ·exact k4
  ·omega
 generalize ab:Ay e4 4=r5
 have zr5:=Ch ab
 refine .dd hP (Fu (by omega) ab) ?_
 conv=>cbv
 refine .eql (fun h6=>?_) fun h6=>?_
 conv=>cbv
 have e:(tx [])=B4 mark count stride sum:=(by unfold B4;rw[hf,List.drop_eq_getElem_cons (by simp;omega)];simp only[Jo];rw[eE,if_pos (by rw[ab];exact h6)])
 rw[hr]at e
 subst e
 exact hQ _ _ (.s rfl rfl)
 conv=>cbv
 refine .go fun s7 ad ak=>?_
 conv=>cbv
 refine .add fun v8 al=>?_
 conv=>cbv
 exact .go [] (s7,v8) (hJ _ ⟨k+1,by omega,by omega,by omega,by rw[hf,List.drop_eq_getElem_cons (by simp;omega)];simp only[Jo];rw[eE,if_neg];rw[ad];rw[ab];exact fun e=>h6 (ab.symm.trans e)⟩ mlt)
 conv=>cbv
 refine .litR 4 fun s3 ae am=>?_
 conv=>cbv
 have e:s3=B4 mark count stride sum:=(by unfold B4;rw[hf,List.drop_of_length_le (by simp;omega)];simp only[Jo];exact ae)
 rw[hr]at e
 subst e
 exact hQ _ _ (.s rfl rfl)
theorem Si(k1:mark<9223372036854775808)(k2:count<9223372036854775808)(k3:stride<9223372036854775808)(k4:sum<9223372036854775808)(hr:B4 mark count stride sum=o):Fn Tryz.prog 288 [I mark,I count,I stride,I sum] [] ⟨S o,[],[]⟩:=by
 refine Fn.go Jk Tryz.func288 fun P hP Q hQ=>?_
 conv=>cbv
 refine LoopW.lp (κ:=ByteArray×Int) Jk hP [] [10] (fun(s9,aa)=>[(9,S s9),(11,I aa)]) (fun(s9,aa)=>[])
  (fun(s9,aa)=>∃k:Nat,aa=(k:Int)∧k≤4∧s9.size≤8*k∧Jo (tx []) [mark,count,stride,sum]=Jo s9 ([mark,count,stride,sum].drop k))
  (fun(s9,aa)=>(4 - aa).toNat) (tx [],0) ⟨0,rfl,by omega,by simp[B7],rfl⟩ ⟨rfl,rfl,trivial⟩ rfl ?_
 rintro⟨s9,aa⟩ J ⟨k,hi,hk,hz,hf⟩ hJ
 conv=>cbv
 refine .lss (fun h1=>?_) fun h1=>?_
 conv=>cbv
 refine .go aa.toNat fun p2 ah af=>?_
 conv=>cbv
 refine .go (l:=[mark,count,stride,sum]) (c:=cI) rfl fun ag e3 ac=>?_
 conv=>cbv
 have eE:[mark,count,stride,sum][k]'(by simp;omega)=e3:=by rw[ac];congr 1;omega
 have hE:e3<9223372036854775808:=by
  rw[←eE]
  have ai:k<4:=by omega
  rcases k with _|_|_|_|k
  ·exact k1
  ·exact k2
  ·exact k3
  ·exact k4
  ·omega
 generalize ab:Ay e3 4=r4
 have zr4:=Ch ab
 refine .dd hP (Fg (by omega) ab) ?_
 conv=>cbv
 refine .eql (fun h5=>?_) fun h5=>?_
 conv=>cbv
 have e:(tx [])=B4 mark count stride sum:=(by unfold B4;rw[hf,List.drop_eq_getElem_cons (by simp;omega)];simp only[Jo];rw[eE,if_pos (by rw[ab];exact h5)])
 rw[hr]at e
 subst e
 exact hQ _ _ (.s rfl rfl)
 conv=>cbv
 refine .go fun s6 ad aj=>?_
 conv=>cbv
 refine .add fun v7 ak=>?_
 conv=>cbv
 exact .go [] (s6,v7) (hJ _ ⟨k+1,by omega,by omega,by omega,by rw[hf,List.drop_eq_getElem_cons (by simp;omega)];simp only[Jo];rw[eE,if_neg];rw[ad];rw[ab];exact fun e=>h5 (ab.symm.trans e)⟩ mlt)
 conv=>cbv
 refine .litR 4 fun s2 ae al=>?_
 conv=>cbv
 have e:s2=B4 mark count stride sum:=(by unfold B4;rw[hf,List.drop_of_length_le (by simp;omega)];simp only[Jo];exact ae)
 rw[hr]at e
 subst e
 exact hQ _ _ (.s rfl rfl)
theorem XbL{o:Int}(ha:wfI a)(hb:wfI b)(hr:Ig a b=o):Fn Tryz.prog 325 [I a,I b] [] ⟨I o,[],[]⟩:=by
 refine Fn.go Jk Tryz.func325 fun P hP Q hQ=>?_
 conv=>cbv
 refine .subW fun v1 aa=>?_
 conv=>cbv
 refine .lss (fun h2=>?_) fun h2=>?_
 conv=>cbv
 have e:(-1)=Ig a b:=(by unfold Ig;rw[Me]at aa;obtain⟨ab,ac⟩:=ha;obtain⟨ad,hb2⟩:=hb;rw[if_neg (by omega)])
 rw[hr]at e
 subst e
 exact hQ _ _ (.i rfl rfl)
 conv=>cbv
 refine .lss (fun h3=>?_) fun h3=>?_
 conv=>cbv
 have e:(-1)=Ig a b:=(by unfold Ig;rw[Me]at aa;obtain⟨ab,ac⟩:=ha;obtain⟨ad,hb2⟩:=hb;rw[if_neg (by omega)])
 rw[hr]at e
 subst e
 exact hQ _ _ (.i rfl rfl)
 conv=>cbv
 have e:v1=Ig a b:=(by unfold Ig;rw[Me]at aa;obtain⟨ab,ac⟩:=ha;obtain⟨ad,hb2⟩:=hb;rw[if_pos (by omega)];omega)
 rw[hr]at e
 subst e
 exact hQ _ _ (.i rfl rfl)
theorem XhV(ha:wfI a)(hb:wfI b)(hr:Hi a b=o):Fn Tryz.prog 327 [I a,I b] [] ⟨S o,[],[]⟩:=by
 refine Fn.go Jk Tryz.func327 fun P hP Q hQ=>?_
 conv=>cbv
 refine .lss (fun h1=>?_) fun h1=>?_
 conv=>cbv
 have e:(tx [])=Hi a b:=(by unfold Hi;rw[if_neg (by omega)])
 rw[hr]at e
 subst e
 exact hQ _ _ (.s rfl rfl)
 conv=>cbv
 refine .go fun v2 ab=>?_
 conv=>cbv
 refine .go fun v3 ac=>?_
 conv=>cbv
 refine .subW fun v4 ad=>?_
 conv=>cbv
 have e4:v4=a - b:=by rw[ad,ab,ac,Gs,Gs,Gs];obtain⟨af,ag⟩:=ha;obtain⟨ah,hb2⟩:=hb;omega
 refine .gtr (fun h5=>?_) fun h5=>?_
 conv=>cbv
 have e:(tx [])=Hi a b:=(by unfold Hi;rw[if_neg (by omega)])
 rw[hr]at e
 subst e
 exact hQ _ _ (.s rfl rfl)
 conv=>cbv
 refine .sub fun v6 ae=>?_
 conv=>cbv
 generalize aa:C1 v6=r7
 have zr7:=Hy aa
 refine .dd hP (Wk aa) ?_
 conv=>cbv
 have e:r7=Hi a b:=(by unfold Hi;rw[if_pos (by omega),←aa,ae])
 rw[hr]at e
 subst e
 exact hQ _ _ (.s rfl rfl)
theorem Xcq{l:List H0}{xl:List (List D)}(hl:l.map Tx=xl)(hn:l.length<2^40)(hw:wfPl l)(hr:Ck l=o):Fn Tryz.prog 286 [.d (.row 2 xl)] [] ⟨S o,[],[]⟩:=by
 refine Fn.go Jk Tryz.func286 fun P hP Q hQ=>?_
 conv=>cbv
 refine .go hl fun v1 ao=>?_
 conv=>cbv
 generalize ae:C1 v1=r2
 have zr2:=Hy ae
 refine .dd hP (Ok ae) ?_
 conv=>cbv
 refine LoopW.lp (κ:=ByteArray×Int×Int×Int) Jk hP [] [0,4] (fun(s3,i5,ab,ac)=>[(3,S s3),(5,I i5)]) (fun(s3,i5,ab,ac)=>[(0,.box 253 [I ab,I ac])])
  (fun(s3,i5,ab,ac)=>∃(k:Nat) (pr:ByteArray),i5=(k:Int)∧k≤l.length∧s3=C1 l.length++pr∧pr.size≤10*k∧wfI ab∧wfI ac∧Js (0,0) l=(Js (ab,ac) (l.drop k)).map fun t=>pr++t)
  (fun(s3,i5,ab,ac)=>(l.length - i5).toNat) (r2,0,0,0) ⟨0,tx [],rfl,by omega,by rw[←ae,ao,Zk],by simp[B7],by constructor<;>omega,by constructor<;>omega,by simp[Xhg]⟩ ⟨rfl,rfl,trivial⟩ rfl ?_
 rintro⟨s3,i5,ab,ac⟩ J ⟨k,pr,hi,hk,hs,hz,hwa,hwb,hp⟩ hJ
 have ay:s3.size≤5+10*k:=by rw[hs,ByteArray.size_append];have:=Ix l.length;omega
 conv=>cbv
 refine .go hl fun v3 az=>?_
 conv=>cbv
 refine .lss (fun h4=>?_) fun h4=>?_
 conv=>cbv
 refine .go i5.toNat hl fun ar ⟨aa,ad⟩ ah=>?_
 conv=>cbv
 have hkl:k<l.length:=by omega
 have hd:l.drop k=⟨aa,ad⟩::l.drop (k+1):=by rw[List.drop_eq_getElem_cons hkl,ah];congr 2;omega
 obtain⟨ai,aj⟩:=hw ⟨aa,ad⟩ (by rw[ah];exact List.getElem_mem _)
 simp only[]at ai aj
 generalize ak:Ig aa ab=r6
 refine .dd hP (XbL (by assumption) (by assumption) ak) ?_
 conv=>cbv
 generalize af:C1 r6=r7
 have zr7:=Hy af
 refine .dd hP (Ok af) ?_
 conv=>cbv
 generalize al:Ig ad ac=r8
 refine .dd hP (XbL (by assumption) (by assumption) al) ?_
 conv=>cbv
 generalize ag:C1 r8=r9
 have zr9:=Hy ag
 refine .dd hP (Ok ag) ?_
 conv=>cbv
 have ea:Hi aa ab=r7:=by rw[←af,←ak,Yg]
 have eb:Hi ad ac=r9:=by rw[←ag,←al,Yg]
 refine .eql (fun h10=>?_) fun h10=>?_
 conv=>cbv
 have e:(tx [])=Ck l:=(by unfold Ck;rw[hp,hd];simp only[Js];rw[ea,eb,if_pos (.inl h10)];rfl)
 rw[hr]at e
 subst e
 exact hQ _ _ (.s rfl rfl)
 conv=>cbv
 refine .eql (fun h11=>?_) fun h11=>?_
 conv=>cbv
 have e:(tx [])=Ck l:=(by unfold Ck;rw[hp,hd];simp only[Js];rw[ea,eb,if_pos (.inr h11)];rfl)
 rw[hr]at e
 subst e
 exact hQ _ _ (.s rfl rfl)
 conv=>cbv
 refine .go fun a1 am au=>?_
 conv=>cbv
 refine .go fun ap an aw=>?_
 conv=>cbv
 refine .add fun aq ax=>?_
 conv=>cbv
 exact .go [] (ap,aq,aa,ad) (hJ _ ⟨k+1,pr++(r7++r9),by omega,by omega,by rw[an,am,hs];simp only[ByteArray.append_assoc],by rw[ByteArray.size_append,ByteArray.size_append];omega,ai,aj,by rw[hp,hd];simp only[Js];rw[ea,eb,if_neg (by intro h;rcases h with h|h;exact h10 h;exact h11 h),Option.map_map];congr 1;funext t;simp only[Function.comp,ByteArray.append_assoc]⟩ mlt)
 conv=>cbv
 have e:s3=Ck l:=(by unfold Ck;rw[hp,List.drop_of_length_le (by omega),hs];simp[Js,Zk])
 rw[hr]at e
 subst e
 exact hQ _ _ (.s rfl rfl)
end
section
open Go Go.Proofs
set_option maxRecDepth 20000
set_option maxHeartbeats 4000000
def XaW:List (Nat×TyRow):=[ty3,ty9,Xk4,XkV,XmA]
theorem Xbm:B8 Tryz.prog XaW:=B8.of (by kernel_rfl)
theorem XfN:Setup Tryz.prog XaW:=⟨Xbm,mixed⟩
theorem Xc0{l:List H0}{xl:List (List D)}{o:ByteArray}(hl:l.map Tx=xl)(hn:l.length≤1000000000)(hw:wfPl l)(hr:Ck l=o):Fn Tryz.prog 291 [.d (.row 2 xl)] [] ⟨S o,[],[]⟩:=by
 refine Fn.go XfN Tryz.func291 fun P hP Q hQ=>?_
 conv=>cbv
 refine .go hl fun v1 az=>?_
 conv=>cbv
 generalize al:C1 v1=r2
 have zr2:=Hy al
 refine .dd hP (Wk al) ?_
 conv=>cbv
 obtain⟨nb3,hnb3⟩:∃m,([]:List UInt8).length+r2.size=m:=⟨_,rfl⟩
 obtain⟨b3,am⟩:∃m,[]++r2.data.toList=m:=⟨_,rfl⟩
 obtain⟨kb3,aq⟩:∃m,(r2.size:Int)=m:=⟨_,rfl⟩
 have lb3:nb3=b3.length:=by rw[←am,List.length_append,Array.length_toList];exact hnb3.symm
 refine .bx [2,0] [0] hP (XeT rfl (by first|omega|(simp;omega)) hnb3 am aq) rfl rfl rfl rfl ?_
 conv=>cbv
 refine .go hl fun v4 a8=>?_
 conv=>cbv
 refine LoopW.lp (κ:=Int×Int×Int×(List UInt8)×Nat) XfN hP [3] [3,4,15,16] (fun(ac,ad,ae,aa,ag)=>[(17,I ac)]) (fun(ac,ad,ae,aa,ag)=>[(2,.box 219 [.ptr 2 0 0,.ref 5 0 ag]),(4,.box 253 [I ad,I ae]),(5,.buf 5 false aa)])
  (fun(ac,ad,ae,aa,ag)=>ag=aa.length∧∃(k:Nat) (pr:ByteArray),ac=(k:Int)∧k≤l.length∧aa=(C1 l.length++pr).data.toList∧pr.size≤10*k∧wfI ad∧wfI ae∧Js (0,0) l=(Js (ad,ae) (l.drop k)).map fun t=>pr++t)
  (fun(ac,ad,ae,aa,ag)=>(l.length - ac).toNat) (0,0,0,b3,nb3) ⟨lb3,0,tx [],rfl,by omega,by rw[←am,Zk,←az,al];rfl,by simp[B7],by constructor<;>omega,by constructor<;>omega,by simp[Xhg]⟩ ⟨rfl,trivial⟩ rfl ?_
 rintro⟨ac,ad,ae,aa,ag⟩ J ⟨ak,k,pr,hi,hk,hs,hz,hwa,hwb,hp⟩ hJ
 have z1:1≤(C1 l.length).size:=by unfold C1;rw[if_pos (by omega),B7];exact List.length_pos_iff.2 (Xea _)
 have zv:=Ix l.length
 have zl:aa.length=(C1 l.length).size+pr.size:=by rw[hs,Array.length_toList];exact ByteArray.size_append
 conv=>cbv
 refine .lss (fun h5=>?_) fun h5=>?_
 conv=>cbv
 refine .go ac.toNat hl fun a2 ⟨ab,af⟩ ar=>?_
 conv=>cbv
 have hkl:k<l.length:=by omega
 have hd:l.drop k=⟨ab,af⟩::l.drop (k+1):=by rw[List.drop_eq_getElem_cons hkl,ar];congr 2;omega
 obtain⟨au,aw⟩:=hw ⟨ab,af⟩ (by rw[ar];exact List.getElem_mem _)
 simp only[]at au aw
 generalize ah:Hi ab ad=r7
 have zr7:=Ul ah
 refine .dd hP (XhV (by assumption) (by assumption) ah) ?_
 conv=>cbv
 generalize ai:Hi af ae=r8
 have zr8:=Ul ai
 refine .dd hP (XhV (by assumption) (by assumption) ai) ?_
 conv=>cbv
 refine .eql (fun h9=>?_) fun h9=>?_
 conv=>cbv
 have e:(tx [])=Ck l:=(by unfold Ck;rw[hp,hd];simp only[Js];rw[ah,ai,if_pos (.inl h9)];rfl)
 rw[hr]at e
 subst e
 exact hQ _ _ (.s rfl rfl)
 conv=>cbv
 refine .eql (fun h10=>?_) fun h10=>?_
 conv=>cbv
 have e:(tx [])=Ck l:=(by unfold Ck;rw[hp,hd];simp only[Js];rw[ah,ai,if_pos (.inr h10)];rfl)
 rw[hr]at e
 subst e
 exact hQ _ _ (.s rfl rfl)
 conv=>cbv
 refine .go fun an ax a6=>?_
 conv=>cbv
 obtain⟨nb12,hnb12⟩:∃m,(aa:List UInt8).length+an.size=m:=⟨_,rfl⟩
 obtain⟨ay,aj⟩:∃m,aa++an.data.toList=m:=⟨_,rfl⟩
 obtain⟨kb12,ao⟩:∃m,(an.size:Int)=m:=⟨_,rfl⟩
 have lb12:nb12=ay.length:=by rw[←aj,List.length_append,Array.length_toList];exact hnb12.symm
 refine .bx [2,5] [5] hP (XfJ ak (by first|omega|(simp;omega)) hnb12 aj ao) rfl rfl rfl rfl ?_
 conv=>cbv
 refine .add fun a1 a7=>?_
 conv=>cbv
 exact .go [7] (a1,ab,af,ay,nb12) (hJ _ ⟨Hm,k+1,pr++(r7++r8),by omega,by omega,by rw[←aj,hs,ax];simp[ByteArray.data_append,List.append_assoc],by rw[ByteArray.size_append,ByteArray.size_append];omega,au,aw,by rw[hp,hd];simp only[Js];rw[ah,ai,if_neg (by intro h;rcases h with h|h;exact h9 h;exact h10 h),Option.map_map];congr 1;funext t;simp only[Function.comp,ByteArray.append_assoc]⟩ mlt)
 conv=>cbv
 obtain⟨b6,ap⟩:∃m,tx aa=m:=⟨_,rfl⟩
 have zb6:b6.size=aa.length:=by rw[←ap,B7]
 refine .bx [2,5] [5] hP (XeJ (x:=.ptr 0 0 0) ak (by intro e;rw[e]at zl;simp at zl;omega) (by first|omega|(simp;omega)) ap) rfl rfl rfl rfl ?_
 conv=>cbv
 have e:b6=Ck l:=(by unfold Ck;rw[hp,List.drop_of_length_le (by omega)];simp only[Js,Option.map_some,Zk];rw[←ap,hs,V8])
 rw[hr]at e
 subst e
 exact hQ _ _ (.s rfl rfl)
end
section
open Go Go.Proofs
set_option maxRecDepth 20000
set_option maxHeartbeats 4000000
def Xbp:List (Nat×TyRow):=[ty3,ty9,XeI,Xbc,XkV]
theorem Xbg:B8 Tryz.prog Xbp:=B8.of (by kernel_rfl)
theorem Xez:Setup Tryz.prog Xbp:=⟨Xbg,mixed⟩
theorem Vy{h:B9}{offs:List Int}{fin:Int}{o:ByteArray}(e:Co h offs fin=o):o.size≤57+10*offs.length:=by rw[←e];exact Tz _ _ _
variable {hver hstr hbas hlin fin:Int} {offs:List Int} {xoffs:List (List D)} {o:ByteArray}
theorem XfV(hoffs:offs.map cI=xoffs)(hl:offs.length≤1000000000)(hwo:∀x∈offs,wfI x)(hf:fin<9223372036854775808)(hr:Co (⟨hver,hstr,hbas,hlin⟩:B9) offs fin=o):Fn Tryz.prog 234 [.agg [I hver,I hstr,I hbas,I hlin],.d (.row 1 xoffs),I fin] [] ⟨S o,[],[]⟩:=by
 refine Fn.go Xez Tryz.func234 fun P hP Q hQ=>?_
 conv=>cbv
 generalize ag:Dh (⟨hver,hstr,hbas,hlin⟩:B9)=r1
 refine .dd hP (XaN ag) ?_
 cases r1
 conv=>cbv
 have e:(tx [])=Co (⟨hver,hstr,hbas,hlin⟩:B9) offs fin:=(by unfold Co;rw[if_neg];rintro⟨q1,q2,q3,q4⟩;simp only[]at q1 q2 q3 q4;rw[ag]at q1;cases q1)
 rw[hr]at e
 subst e
 exact hQ _ _ (.s rfl rfl)
 conv=>cbv
 have hh:=Ic ag
 refine .go hoffs fun v2 aj=>?_
 conv=>cbv
 refine .add fun v3 ak=>?_
 conv=>cbv
 generalize ac:C9 hver v3=r4
 have zr4:=Mr ac
 refine .dd hP (Xcs ac) ?_
 conv=>cbv
 generalize ab:Di hstr offs=l5
 generalize al:l5.map Tx=a7
 refine .dd hP (XgL hoffs (by omega) ab al) ?_
 conv=>cbv
 have zl5:l5.length≤offs.length:=ab▸Nl
 generalize ad:Ck l5=r6
 have zr6:=Rv ad
 refine .dd hP (Xc0 al (by omega) (ab▸Tp hwo (by omega)) ad) ?_
 conv=>cbv
 refine .go hoffs fun v7 am=>?_
 conv=>cbv
 generalize aa:B4 fin v7 hstr 0=r8
 have zr8:=Hk aa
 refine .dd hP (R7 (by omega) (by omega) (by omega) (by omega) aa) ?_
 conv=>cbv
 refine .eql (fun h9=>?_) fun h9=>?_
 conv=>cbv
 have e:(tx [])=Co (⟨hver,hstr,hbas,hlin⟩:B9) offs fin:=(by unfold Co;rw[if_neg];rintro⟨q1,q2,q3,q4⟩;simp only[]at q1 q2 q3 q4;rw[←aj,←ak,ac]at q2;exact q2 h9)
 rw[hr]at e
 subst e
 exact hQ _ _ (.s rfl rfl)
 conv=>cbv
 refine .eql (fun h10=>?_) fun h10=>?_
 conv=>cbv
 have e:(tx [])=Co (⟨hver,hstr,hbas,hlin⟩:B9) offs fin:=(by unfold Co;rw[if_neg];rintro⟨q1,q2,q3,q4⟩;simp only[]at q1 q2 q3 q4;rw[ab,ad]at q3;exact q3 h10)
 rw[hr]at e
 subst e
 exact hQ _ _ (.s rfl rfl)
 conv=>cbv
 refine .eql (fun h11=>?_) fun h11=>?_
 conv=>cbv
 have e:(tx [])=Co (⟨hver,hstr,hbas,hlin⟩:B9) offs fin:=(by unfold Co;rw[if_neg];rintro⟨q1,q2,q3,q4⟩;simp only[]at q1 q2 q3 q4;rw[←am,aa]at q4;exact q4 h11)
 rw[hr]at e
 subst e
 exact hQ _ _ (.s rfl rfl)
 conv=>cbv
 refine .go fun a8 ah ay=>?_
 conv=>cbv
 have z8:r8.size=20:=by rw[←aa];exact Om (by rw[aa];exact h11)
 refine .hi fun ar ai=>?_
 conv=>cbv
 have ba:ar.size=12:=by rw[ai,Uv (by omega) (by omega)];rfl
 refine .go fun au an az=>?_
 conv=>cbv
 generalize ae:F7 au=aw
 have zr15:=Jc ae
 refine .dd hP (V4 (by omega) ae) ?_
 conv=>cbv
 refine .go fun bb ao a1=>?_
 conv=>cbv
 refine .go hoffs fun ap a2=>?_
 conv=>cbv
 generalize af:B4 fin ap hstr aw=bc
 have zr18:=Hk af
 refine .dd hP (R7 (by omega) (by omega) (by omega) (by omega) af) ?_
 conv=>cbv
 refine .go fun ax aq a6=>?_
 conv=>cbv
 have e:ax=Co (⟨hver,hstr,hbas,hlin⟩:B9) offs fin:=(by have q:Co ⟨hver,hstr,hbas,hlin⟩ offs fin=_:=if_pos ⟨ag,by simp only[];rw[←aj,←ak,ac];exact h9,by simp only[];rw[ab,ad];exact h10,by simp only[];rw[←am,aa];exact h11⟩;rw[q];simp only[];rw[←aj,←ak,ac,ab,ad,show(v2:Int)=v7 by omega,aa,←ah,aq,ao,←ah,←af,←ae,an,ai,show ap=v7 by omega];rfl)
 rw[hr]at e
 subst e
 exact hQ _ _ (.s rfl rfl)
theorem XfZ(hoffs:offs.map cI=xoffs)(hl:offs.length≤1000000000)(hwo:∀x∈offs,wfI x)(hf:fin<9223372036854775808)(hr:Co (⟨hver,hstr,hbas,hlin⟩:B9) offs fin=o):Fn Tryz.prog 223 [.agg [I hver,I hstr,I hbas,I hlin],.d (.row 1 xoffs),I fin] [] ⟨S o,[],[]⟩:=by
 refine Fn.go Xez Tryz.func223 fun P hP Q hQ=>?_
 conv=>cbv
 generalize ag:Dh (⟨hver,hstr,hbas,hlin⟩:B9)=r1
 refine .dd hP (Zj ag) ?_
 cases r1
 conv=>cbv
 have e:(tx [])=Co (⟨hver,hstr,hbas,hlin⟩:B9) offs fin:=(by unfold Co;rw[if_neg];rintro⟨q1,q2,q3,q4⟩;simp only[]at q1 q2 q3 q4;rw[ag]at q1;cases q1)
 rw[hr]at e
 subst e
 exact hQ _ _ (.s rfl rfl)
 conv=>cbv
 have hh:=Ic ag
 refine .go hoffs fun v2 aj=>?_
 conv=>cbv
 refine .add fun v3 ak=>?_
 conv=>cbv
 generalize ac:C9 hver v3=r4
 have zr4:=Mr ac
 refine .dd hP (XbC ac) ?_
 conv=>cbv
 generalize ab:Di hstr offs=l5
 generalize al:l5.map Tx=a7
 refine .dd hP (XfU hoffs (by omega) ab al) ?_
 conv=>cbv
 have zl5:l5.length≤offs.length:=ab▸Nl
 generalize ad:Ck l5=r6
 have zr6:=Rv ad
 refine .dd hP (Xcq al (by omega) (ab▸Tp hwo (by omega)) ad) ?_
 conv=>cbv
 refine .go hoffs fun v7 am=>?_
 conv=>cbv
 generalize aa:B4 fin v7 hstr 0=r8
 have zr8:=Hk aa
 refine .dd hP (Si (by omega) (by omega) (by omega) (by omega) aa) ?_
 conv=>cbv
 refine .eql (fun h9=>?_) fun h9=>?_
 conv=>cbv
 have e:(tx [])=Co (⟨hver,hstr,hbas,hlin⟩:B9) offs fin:=(by unfold Co;rw[if_neg];rintro⟨q1,q2,q3,q4⟩;simp only[]at q1 q2 q3 q4;rw[←aj,←ak,ac]at q2;exact q2 h9)
 rw[hr]at e
 subst e
 exact hQ _ _ (.s rfl rfl)
 conv=>cbv
 refine .eql (fun h10=>?_) fun h10=>?_
 conv=>cbv
 have e:(tx [])=Co (⟨hver,hstr,hbas,hlin⟩:B9) offs fin:=(by unfold Co;rw[if_neg];rintro⟨q1,q2,q3,q4⟩;simp only[]at q1 q2 q3 q4;rw[ab,ad]at q3;exact q3 h10)
 rw[hr]at e
 subst e
 exact hQ _ _ (.s rfl rfl)
 conv=>cbv
 refine .eql (fun h11=>?_) fun h11=>?_
 conv=>cbv
 have e:(tx [])=Co (⟨hver,hstr,hbas,hlin⟩:B9) offs fin:=(by unfold Co;rw[if_neg];rintro⟨q1,q2,q3,q4⟩;simp only[]at q1 q2 q3 q4;rw[←am,aa]at q4;exact q4 h11)
 rw[hr]at e
 subst e
 exact hQ _ _ (.s rfl rfl)
 conv=>cbv
 refine .go fun a8 ah ay=>?_
 conv=>cbv
 have z8:r8.size=20:=by rw[←aa];exact Om (by rw[aa];exact h11)
 refine .hi fun ar ai=>?_
 conv=>cbv
 have ba:ar.size=12:=by rw[ai,Uv (by omega) (by omega)];rfl
 refine .go fun au an az=>?_
 conv=>cbv
 generalize ae:F7 au=aw
 have zr15:=Jc ae
 refine .dd hP (Wu (by omega) ae) ?_
 conv=>cbv
 refine .go fun bb ao a1=>?_
 conv=>cbv
 refine .go hoffs fun ap a2=>?_
 conv=>cbv
 generalize af:B4 fin ap hstr aw=bc
 have zr18:=Hk af
 refine .dd hP (Si (by omega) (by omega) (by omega) (by omega) af) ?_
 conv=>cbv
 refine .go fun ax aq a6=>?_
 conv=>cbv
 have e:ax=Co (⟨hver,hstr,hbas,hlin⟩:B9) offs fin:=(by have q:Co ⟨hver,hstr,hbas,hlin⟩ offs fin=_:=if_pos ⟨ag,by simp only[];rw[←aj,←ak,ac];exact h9,by simp only[];rw[ab,ad];exact h10,by simp only[];rw[←am,aa];exact h11⟩;rw[q];simp only[];rw[←aj,←ak,ac,ab,ad,show(v2:Int)=v7 by omega,aa,←ah,aq,ao,←ah,←af,←ae,an,ai,show ap=v7 by omega];rfl)
 rw[hr]at e
 subst e
 exact hQ _ _ (.s rfl rfl)
end
section
open Go Go.Proofs
set_option maxRecDepth 20000
set_option maxHeartbeats 4000000
def XeV:List (Nat×TyRow):=[ty3,ty9,Xay,XeI,Xbc,Xgl,Xk4]
theorem Xeh:B8 Tryz.prog XeV:=B8.of (by kernel_rfl)
theorem Ot:Setup Tryz.prog XeV:=⟨Xeh,mixed⟩
def Dm(v:Int):Int→List ByteArray→List UInt8
 |_,[]=>[]
 |p,r::l=>(Aq v p r).data.toList++Dm v (p+1) l
def Gk(v:Int):Int→Int→List ByteArray→List Int
 |_,_,[]=>[]
 |p,k,r::l=>k::Gk v (p+1) (k+(Aq v p r).size) l
def Zx(h:B9)(l:List ByteArray):List UInt8:=(Cx h).data.toList++Dm h.version_ h.base_ l
def Cf(h:B9)(l:List ByteArray):ByteArray:=
 if Dh h=true∧l.length≤1000∧h.base_+l.length≤1000000000∧∀r∈l,r.size≤60 then
  tx (Zx h l)++Co h (Gk h.version_ h.base_ (Cx h).size l) (Zx h l).length
 else tx []
theorem Oh{v:Int}:∀{l:List ByteArray} {p:Int} {r:ByteArray},Dm v p (l++[r])=Dm v p l++(Aq v (p+l.length) r).data.toList
 |[],p,r=>by simp[Dm]
 |x::l,p,r=>by
  rw[List.cons_append,Dm,Dm,Oh,List.append_assoc,List.length_cons,show p+1+(l.length:Int)=p+((l.length+1:Nat):Int)by omega]
theorem Tf{v:Int}:∀{l:List ByteArray} {p k:Int} {r:ByteArray},Gk v p k (l++[r])=Gk v p k l++[k+(Dm v p l).length]
 |[],p,k,r=>by simp[Dm,Gk]
 |x::l,p,k,r=>by
  have e:(Aq v p x).data.toList.length=(Aq v p x).size:=Array.length_toList
  rw[List.cons_append,Gk,Gk,Tf,Dm,List.cons_append,List.length_append,e,show k+((Aq v p x).size:Int)+((Dm v (p+1) l).length:Int)=k+(((Aq v p x).size+(Dm v (p+1) l).length:Nat):Int)by omega]
theorem Ps{v:Int}:∀{l:List ByteArray} {p k:Int},(Gk v p k l).length=l.length
 |[],_,_=>rfl
 |x::l,p,k=>by rw[Gk,List.length_cons,List.length_cons,Ps]
theorem Lp{v:Int}:∀{l:List ByteArray} {p:Int},(Dm v p l).length≤84*l.length
 |[],_=>by simp[Dm]
 |x::l,p=>by
  have:=@Lp v l (p+1)
  have h:=Fw (rfl:Aq v p x=_)
  have e:(Aq v p x).data.size=(Aq v p x).size:=rfl
  rw[Dm,List.length_append,Array.length_toList,List.length_cons]
  omega
theorem Ux{v:Int}:∀{l:List ByteArray} {p k:Int},0≤k→∀x∈Gk v p k l,0≤x∧x≤k+84*l.length
 |[],_,_,_,x,hx=>by simp[Gk]at hx
 |y::l,p,k,hk,x,hx=>by
  rw[Gk,List.mem_cons]at hx
  have h:=Fw (rfl:Aq v p y=_)
  rcases hx with rfl|hx
  ·rw[List.length_cons];omega
  ·have:=@Ux v l (p+1) (k+(Aq v p y).size) (by omega) x hx
   rw[List.length_cons];omega
theorem Gq{h:B9}{l:List ByteArray}{o:ByteArray}(e:Cf h l=o):o.size≤200000:=by
 rw[←e]
 unfold Cf
 split
 ·rename_i hc
  have h1:=Tz h (Gk h.version_ h.base_ (Cx h).size l) (Zx h l).length
  have h2:=Ky (rfl:Cx h=_)
  have h3:=@Lp h.version_ l h.base_
  rw[ByteArray.size_append,B7]
  rw[Ps]at h1
  have e:(Cx h).data.size=(Cx h).size:=rfl
  have h4:(Zx h l).length=(Cx h).size+(Dm h.version_ h.base_ l).length:=by unfold Zx;rw[List.length_append,Array.length_toList];rfl
  omega
 ·simp[B7]
def Dg(s:ByteArray):Bool:=decide (60<s.size)
def Ce(l:List ByteArray):Int:=if l.findIdx Dg<l.length then(l.findIdx Dg:Int)else -1
def Cm(l:List ByteArray):Bool:=l.any Dg
theorem XlS{l:List ByteArray}{i:Int}(h0:0≤i)(hi:i.toNat<l.length)(h:Dg l[i.toNat]=true)(hb:∀(j:Nat) (hj:j<l.length),j<i.toNat→Dg l[j]=false):i=Ce l:=by
 have e:l.findIdx Dg=i.toNat:=(List.findIdx_eq hi).2 ⟨h,fun j hji=>hb j (by omega) hji⟩
 unfold Ce
 rw[e,if_pos hi]
 omega
theorem Xi7{l:List ByteArray}(hb:∀(j:Nat) (hj:j<l.length),Dg l[j]=false): -1=Ce l:=by
 unfold Ce
 rw[if_neg]
 intro hlt
 have:=List.findIdx_getElem (w:=hlt)
 rw[hb _ hlt]at this
 cases this
theorem XiO{l:List ByteArray}:Cm l=decide (0≤Ce l):=by
 unfold Cm Ce
 by_cases h:l.findIdx Dg<l.length
 ·rw[if_pos h]
  have:=List.findIdx_getElem (w:=h)
  rw[List.any_eq_true.2 ⟨_,List.getElem_mem h,this⟩]
  simp
 ·rw[if_neg h]
  have:l.any Dg=false:=by
   rw[List.any_eq_false]
   intro x hx hp
   exact h (List.findIdx_lt_length_of_exists ⟨x,hx,hp⟩)
  rw[this]
  rfl
theorem XcH{l:List ByteArray}(h:Cm l=false):∀r∈l,r.size≤60:=by
 intro r hr
 have:=List.any_eq_false.1 h r hr
 simp[Dg]at this
 exact this
theorem XgY{l:List ByteArray}(h:Cm l=true):¬∀r∈l,r.size≤60:=by
 intro hh
 obtain⟨r,hr,h'⟩:=List.any_eq_true.1 h
 have:=hh r hr
 simp[Dg]at h'
 omega
variable {o:Bool} {l:List ByteArray} {xl:List (List D)} {hver hstr hbas hlin:Int}
theorem Xbk{s:ByteArray}(hr:Dg s=o):Fn Tryz.prog 270 [S s] [] ⟨B o,[],[]⟩:=by
 refine Fn.go Ot Tryz.func270 fun P hP Q hQ=>?_
 conv=>cbv
 refine .go fun v1 aa=>?_
 conv=>cbv
 refine .gtr (fun h2=>?_) fun h2=>?_
 conv=>cbv
 have e:true=Dg s:=(by unfold Dg;rw[eq_comm,decide_eq_true_iff];omega)
 rw[hr]at e
 subst e
 exact hQ _ _ (.b rfl rfl)
 conv=>cbv
 have e:false=Dg s:=(by unfold Dg;rw[eq_comm,decide_eq_false_iff_not];omega)
 rw[hr]at e
 subst e
 exact hQ _ _ (.b rfl rfl)
theorem N3{o:Int}(hl:l.map cS=xl)(hn:l.length<2^40)(hr:Ce l=o):Fn Tryz.prog 318 [.d (.row 1 xl),.clo 270 []] [] ⟨I o,[],[]⟩:=by
 refine Fn.go Ot Tryz.func318 fun P hP Q hQ=>?_
 conv=>cbv
 refine .go hl fun v1 ad=>?_
 conv=>cbv
 refine LoopW.lp (κ:=Int) Ot hP [] [0,1,7] (fun i8=>[(8,I i8)]) (fun i8=>[])
  (fun i8=>0≤i8∧i8≤l.length∧∀(j:Nat) (hj:j<l.length),j<i8.toNat→Dg l[j]=false)
  (fun i8=>(l.length - i8).toNat) (0) ⟨by omega,by omega,fun j _ h=>by simp at h⟩ ⟨rfl,trivial⟩ rfl ?_
 rintro i8 J ⟨h0,h1,hb⟩ hJ
 conv=>cbv
 refine .lss (fun h2=>?_) fun h2=>?_
 conv=>cbv
 refine .go i8.toNat hl fun ac e3 ab=>?_
 conv=>cbv
 generalize aa:Dg e3=r4
 refine .dd hP (Xbk aa) ?_
 cases r4
 conv=>cbv
 refine .add fun v5 ae=>?_
 conv=>cbv
 exact .go [] (v5) (hJ _ ⟨by omega,by omega,fun j hj h=>if e:j=i8.toNat then by subst e;rw[←ab];exact aa else hb j hj (by omega)⟩ mlt)
 conv=>cbv
 have e:i8=Ce l:=(by exact XlS h0 (by omega) (ab▸aa) hb)
 rw[hr]at e
 subst e
 exact hQ _ _ (.i rfl rfl)
 conv=>cbv
 have e:(-1)=Ce l:=(by exact Xi7 fun j hj=>hb j hj (by omega))
 rw[hr]at e
 subst e
 exact hQ _ _ (.i rfl rfl)
theorem L7(hl:l.map cS=xl)(hn:l.length<2^40)(hr:Cm l=o):Fn Tryz.prog 269 [.d (.row 1 xl),.clo 270 []] [] ⟨B o,[],[]⟩:=by
 refine Fn.go Ot Tryz.func269 fun P hP Q hQ=>?_
 conv=>cbv
 generalize aa:Ce l=r1
 refine .dd hP (N3 hl hn aa) ?_
 conv=>cbv
 refine .geq (fun h2=>?_) fun h2=>?_
 conv=>cbv
 have e:true=Cm l:=(by rw[XiO,aa,eq_comm,decide_eq_true_iff];omega)
 rw[hr]at e
 subst e
 exact hQ _ _ (.b rfl rfl)
 conv=>cbv
 have e:false=Cm l:=(by rw[XiO,aa,eq_comm,decide_eq_false_iff_not];omega)
 rw[hr]at e
 subst e
 exact hQ _ _ (.b rfl rfl)
theorem XaM{h:B9}(hk:Dh h=true):0<(Cx h).size:=by
 unfold Cx
 rw[if_pos hk,ByteArray.size_append]
 have:0<(Xd8 h).size:=by
  unfold Xd8
  simp only[ByteArray.size_append,B7,List.length_cons]
  omega
 omega
theorem Pa{o:ByteArray}(hl:l.map cS=xl)(hn:l.length<2^40)(hr:Cf (⟨hver,hstr,hbas,hlin⟩:B9) l=o):Fn Tryz.prog 204 [.agg [I hver,I hstr,I hbas,I hlin],.d (.row 1 xl)] [] ⟨S o,[],[]⟩:=by
 refine Fn.go Ot Tryz.func204 fun P hP Q hQ=>?_
 conv=>cbv
 generalize ag:Dh (⟨hver,hstr,hbas,hlin⟩:B9)=r1
 refine .dd hP (XaN ag) ?_
 cases r1
 conv=>cbv
 have e:(tx [])=Cf (⟨hver,hstr,hbas,hlin⟩:B9) l:=(by unfold Cf;rw[if_neg];rintro⟨q,_⟩;rw[ag]at q;cases q)
 rw[hr]at e
 subst e
 exact hQ _ _ (.s rfl rfl)
 conv=>cbv
 refine .go hl fun v2 bk=>?_
 conv=>cbv
 refine .gtr (fun h3=>?_) fun h3=>?_
 conv=>cbv
 have e:(tx [])=Cf (⟨hver,hstr,hbas,hlin⟩:B9) l:=(by unfold Cf;rw[if_neg];rintro⟨_,q,_⟩;omega)
 rw[hr]at e
 subst e
 exact hQ _ _ (.s rfl rfl)
 conv=>cbv
 refine .go hl fun v4 bl=>?_
 conv=>cbv
 have hh:=Ic ag
 refine .add fun v5 bm=>?_
 conv=>cbv
 generalize aq:Bl v5=r6
 refine .dd hP (Ft aq) ?_
 cases r6
 simp only[Bl,decide_eq_true_eq,decide_eq_false_iff_not]at aq
 conv=>cbv
 have e:(tx [])=Cf (⟨hver,hstr,hbas,hlin⟩:B9) l:=(by unfold Cf;rw[if_neg];rintro⟨_,_,q,_⟩;simp only[]at q;omega)
 rw[hr]at e
 subst e
 exact hQ _ _ (.s rfl rfl)
 simp only[Bl,decide_eq_true_eq,decide_eq_false_iff_not]at aq
 conv=>cbv
 generalize an:Cm l=r7
 refine .dd hP (L7 hl (by omega) an) ?_
 cases r7
 conv=>cbv
 generalize ah:Cx (⟨hver,hstr,hbas,hlin⟩:B9)=r8
 have zr8:=Ky ah
 refine .dd hP (Yu ah) ?_
 conv=>cbv
 have zp:=XaM ag;rw[ah]at zp
 obtain⟨nb9,hnb9⟩:∃m,([]:List UInt8).length+r8.size=m:=⟨_,rfl⟩
 obtain⟨b9,ar⟩:∃m,[]++r8.data.toList=m:=⟨_,rfl⟩
 obtain⟨kb9,a1⟩:∃m,(r8.size:Int)=m:=⟨_,rfl⟩
 have lb9:nb9=b9.length:=by rw[←ar,List.length_append,Array.length_toList];exact hnb9.symm
 refine .bx [3,1] [1] hP (XeT rfl (by first|omega|(simp;omega)) hnb9 ar a1) rfl rfl rfl rfl ?_
 conv=>cbv
 refine .go hl fun bn bf=>?_
 conv=>cbv
 refine LoopW.lp (κ:=Int×(List UInt8)×Nat×(List (List D))×Nat) Ot hP [4,5] [2,5,35,36] (fun(aa,ab,ac,ae,af)=>[(6,.ref 7 0 af),(37,I aa)]) (fun(aa,ab,ac,ae,af)=>[(3,.box 219 [.ptr 3 0 0,.ref 6 0 ac]),(6,.buf 5 false ab),(7,.row 1 false ae)])
  (fun(aa,ab,ac,ae,af)=>∃(w7:List Int),ac=ab.length∧w7.map cI=ae∧af=w7.length∧0≤aa∧aa≤l.length∧ab=r8.data.toList++Dm hver hbas (l.take aa.toNat)∧w7=Gk hver hbas r8.size (l.take aa.toNat))
  (fun(aa,ab,ac,ae,af)=>(l.length - aa).toNat) (0,b9,nb9,[],0) ⟨[],lb9,rfl,rfl,by omega,by omega,by rw[←ar];simp[Dm],by simp[Gk]⟩ ⟨rfl,rfl,trivial⟩ rfl ?_
 rintro⟨aa,ab,ac,ae,af⟩ J ⟨w7,ao,au,bg,h0,h1,hz,hw⟩ hJ
 have q1:=@Lp hver (l.take aa.toNat) hbas
 have q2:(l.take aa.toNat).length=aa.toNat:=by rw[List.length_take];omega
 have q4:ab.length=r8.size+(Dm hver hbas (l.take aa.toNat)).length:=by rw[hz,List.length_append,Array.length_toList];rfl
 have q5:w7.length=aa.toNat:=by rw[hw,Ps,q2]
 conv=>cbv
 refine .lss (fun h11=>?_) fun h11=>?_
 conv=>cbv
 refine .go aa.toNat hl fun ba aw ap=>?_
 conv=>cbv
 obtain⟨kb13,ad⟩:∃m,((ac:Nat):Int)=m:=⟨_,rfl⟩
 refine .bx [3,6] [6] hP (XmE (bs:=ab) ad) rfl rfl rfl rfl ?_
 conv=>cbv
 refine .one kb13 au rfl fun a2 bb bc a6=>?_
 conv=>cbv
 have ze:=XcH an aw (ap▸List.getElem_mem _)
 refine .add fun a7 bh=>?_
 conv=>cbv
 generalize ai:Aq hver a7 aw=ax
 have zr16:=Fw ai
 refine .dd hP (Qj (by omega) ai) ?_
 conv=>cbv
 obtain⟨nb17,hnb17⟩:∃m,(ab:List UInt8).length+ax.size=m:=⟨_,rfl⟩
 obtain⟨ay,aj⟩:∃m,ab++ax.data.toList=m:=⟨_,rfl⟩
 obtain⟨kb17,az⟩:∃m,(ax.size:Int)=m:=⟨_,rfl⟩
 have lb17:nb17=ay.length:=by rw[←aj,List.length_append,Array.length_toList];exact hnb17.symm
 refine .bx [3,6] [6] hP (XfJ ao (by first|omega|(simp;omega)) hnb17 aj az) rfl rfl rfl rfl ?_
 conv=>cbv
 refine .add fun ak bi=>?_
 conv=>cbv
 have t1:ak.toNat=aa.toNat+1:=by omega
 have t2:l.take ak.toNat=l.take aa.toNat++[aw]:=by rw[t1,ap,List.take_append_getElem]
 have t4:ay=r8.data.toList++Dm hver hbas (l.take ak.toNat):=by rw[←aj,hz,t2,Oh,q2,List.append_assoc,show hbas+((aa.toNat:Nat):Int)=a7 by omega,ai]
 have t5:w7++[kb13]=Gk hver hbas r8.size (l.take ak.toNat):=by rw[t2,Tf,←hw,show kb13=(r8.size:Int)+((Dm hver hbas (l.take aa.toNat)).length:Int)by omega]
 exact .go [10,9] (ak,ay,nb17,bb,a2) (hJ _ ⟨_,Hm,a6,Hm,by omega,by omega,t4,t5⟩ mlt)
 conv=>cbv
 obtain⟨bd,al⟩:∃m,tx ab=m:=⟨_,rfl⟩
 have zb12:bd.size=ab.length:=by rw[←al,B7]
 refine .bx [3,6] [6] hP (XeJ (x:=.ptr 0 0 0) ao (by intro e;rw[e]at q4;simp at q4;omega) (by first|omega|(simp;omega)) al) rfl rfl rfl rfl ?_
 conv=>cbv
 obtain⟨kb13,ad⟩:∃m,((ac:Nat):Int)=m:=⟨_,rfl⟩
 refine .bx [3,6] [6] hP (XmE (bs:=ab) ad) rfl rfl rfl rfl ?_
 conv=>cbv
 generalize am:Co (⟨hver,hstr,hbas,hlin⟩:B9) w7 kb13=bo
 have zr14:=Vy am
 refine .lnt hP (XfV au (by omega) (fun x hx=>by rw[hw]at hx;have:=Ux (k:=(r8.size:Int)) (by omega) x hx;exact⟨by omega,by omega⟩) (by omega) am) (.agg (.d rfl (.d rfl (.d rfl (.d rfl .nil)))) (.ref rfl (by rw[←au,List.length_map];first|omega|(simp;omega)) (.d rfl .nil))) ?_
 conv=>cbv
 refine .go fun be a8 bj=>?_
 conv=>cbv
 have t0:l.take aa.toNat=l:=List.take_of_length_le (by omega)
 have e1:Zx ⟨hver,hstr,hbas,hlin⟩ l=ab:=by unfold Zx;rw[ah,hz,t0]
 have e2:Gk hver hbas r8.size l=w7:=by rw[hw,t0]
 have e:be=Cf (⟨hver,hstr,hbas,hlin⟩:B9) l:=(by unfold Cf;rw[if_pos ⟨ag,by omega,by simp only[];omega,XcH an⟩,e1,ah,a8,←al,←am,←e2];show _=tx ab++Co _ (Gk hver hbas r8.size l) ab.length;congr 2;omega)
 rw[hr]at e
 subst e
 exact hQ _ _ (.s rfl rfl)
 conv=>cbv
 have e:(tx [])=Cf (⟨hver,hstr,hbas,hlin⟩:B9) l:=(by unfold Cf;rw[if_neg];rintro⟨_,_,_,q⟩;exact XgY an q)
 rw[hr]at e
 subst e
 exact hQ _ _ (.s rfl rfl)
theorem Yj{o:ByteArray}(hl:l.map cS=xl)(hn:l.length<2^40)(hr:Cf (⟨hver,hstr,hbas,hlin⟩:B9) l=o):Fn Tryz.prog 191 [.agg [I hver,I hstr,I hbas,I hlin],.d (.row 1 xl)] [] ⟨S o,[],[]⟩:=by
 refine Fn.go Ot Tryz.func191 fun P hP Q hQ=>?_
 conv=>cbv
 generalize aj:Dh (⟨hver,hstr,hbas,hlin⟩:B9)=r1
 refine .dd hP (Zj aj) ?_
 cases r1
 conv=>cbv
 have e:(tx [])=Cf (⟨hver,hstr,hbas,hlin⟩:B9) l:=(by unfold Cf;rw[if_neg];rintro⟨q,_⟩;rw[aj]at q;cases q)
 rw[hr]at e
 subst e
 exact hQ _ _ (.s rfl rfl)
 conv=>cbv
 refine .go hl fun v2 bt=>?_
 conv=>cbv
 refine .gtr (fun h3=>?_) fun h3=>?_
 conv=>cbv
 have e:(tx [])=Cf (⟨hver,hstr,hbas,hlin⟩:B9) l:=(by unfold Cf;rw[if_neg];rintro⟨_,q,_⟩;omega)
 rw[hr]at e
 subst e
 exact hQ _ _ (.s rfl rfl)
 conv=>cbv
 refine .go hl fun v4 bu=>?_
 conv=>cbv
 have hh:=Ic aj
 refine .add fun v5 bv=>?_
 conv=>cbv
 refine .gtr (fun h6=>?_) fun h6=>?_
 conv=>cbv
 have e:(tx [])=Cf (⟨hver,hstr,hbas,hlin⟩:B9) l:=(by unfold Cf;rw[if_neg];rintro⟨_,_,q,_⟩;simp only[]at q;omega)
 rw[hr]at e
 subst e
 exact hQ _ _ (.s rfl rfl)
 conv=>cbv
 generalize ak:Cx (⟨hver,hstr,hbas,hlin⟩:B9)=r7
 have zr7:=Ky ak
 refine .dd hP (Xt ak) ?_
 conv=>cbv
 refine .go fun a2 z8 bi a6=>?_
 conv=>cbv
 refine LoopW.lp (κ:=Int×(List (List D))×Nat×(List (List D))×Nat) Ot hP [1,2] [1,2] (fun(i7,aa,ab,ac,ad)=>[(5,.ref 3 0 ab),(6,.ref 4 0 ad),(7,I i7)]) (fun(i7,aa,ab,ac,ad)=>[(3,.row 1 false aa),(4,.row 1 false ac)])
  (fun(i7,aa,ab,ac,ad)=>∃(w3:List UInt8) (w4:List Int),w3.map cB=aa∧ab=w3.length∧w4.map cI=ac∧ad=w4.length∧0≤i7∧i7≤l.length∧w3=r7.data.toList++Dm hver hbas (l.take i7.toNat)∧w4=Gk hver hbas r7.size (l.take i7.toNat)∧∀r∈l.take i7.toNat,r.size≤60)
  (fun(i7,aa,ab,ac,ad)=>(l.length - i7).toNat) (0,z8,a2,[],0) ⟨r7.data.toList,[],a6,(by first|omega|(simp;omega)),rfl,rfl,by omega,by omega,by simp[Dm],by simp[Gk],by simp⟩ ⟨rfl,rfl,rfl,trivial⟩ rfl ?_
 rintro⟨i7,aa,ab,ac,ad⟩ J ⟨w3,w4,aq,bj,al,bk,h0,h1,hz,hw,am⟩ hJ
 have q1:=@Lp hver (l.take i7.toNat) hbas
 have q2:(l.take i7.toNat).length=i7.toNat:=by rw[List.length_take];omega
 have q4:w3.length=r7.size+(Dm hver hbas (l.take i7.toNat)).length:=by rw[hz,List.length_append,Array.length_toList];rfl
 have q5:w4.length=i7.toNat:=by rw[hw,Ps,q2]
 conv=>cbv
 refine .go hl fun v9 bw=>?_
 conv=>cbv
 refine .lss (fun h10=>?_) fun h10=>?_
 conv=>cbv
 refine .go i7.toNat hl fun a7 a8 af=>?_
 conv=>cbv
 refine .go fun bz bl=>?_
 conv=>cbv
 refine .gtr (fun h13=>?_) fun h13=>?_
 conv=>cbv
 have e:(tx [])=Cf (⟨hver,hstr,hbas,hlin⟩:B9) l:=(by unfold Cf;rw[if_neg];rintro⟨_,_,_,q⟩;have:=q a8 (af▸List.getElem_mem _);omega)
 rw[hr]at e
 subst e
 exact hQ _ _ (.s rfl rfl)
 conv=>cbv
 refine .go fun an bm=>?_
 conv=>cbv
 refine .one an al rfl fun ar ba bb au=>?_
 conv=>cbv
 refine .add fun aw bn=>?_
 conv=>cbv
 refine .go i7.toNat hl fun bc ao ag=>?_
 conv=>cbv
 have b0:ao.size≤60:=by rw[ag,←af];omega
 generalize ah:Aq hver aw ao=bd
 have zr18:=Fw ah
 refine .dd hP (Qg (by omega) ah) ?_
 conv=>cbv
 refine .str aq fun ax be bf ay=>?_
 conv=>cbv
 refine .add fun ae bo=>?_
 conv=>cbv
 have t1:ae.toNat=i7.toNat+1:=by omega
 have t2:l.take ae.toNat=l.take i7.toNat++[ao]:=by rw[t1,ag,List.take_append_getElem]
 have t4:w3++bd.data.toList=r7.data.toList++Dm hver hbas (l.take ae.toNat):=by rw[hz,t2,Oh,q2,List.append_assoc,show hbas+((i7.toNat:Nat):Int)=aw by omega,ah]
 have t5:w4++[an]=Gk hver hbas r7.size (l.take ae.toNat):=by rw[t2,Tf,←hw,show an=(r7.size:Int)+((Dm hver hbas (l.take i7.toNat)).length:Int)by omega]
 have t6:∀r∈l.take ae.toNat,r.size≤60:=by rw[t2];intro r hr';rcases List.mem_append.1 hr' with h|h;exact am r h;rw[List.mem_singleton.1 h,ag,←af];omega
 exact .go [7,6] (ae,be,ax,ba,ar) (hJ _ ⟨_,_,ay,Hm,au,Hm,by omega,by omega,t4,t5,t6⟩ mlt)
 conv=>cbv
 refine .go fun bg bp=>?_
 conv=>cbv
 generalize ai:Co (⟨hver,hstr,hbas,hlin⟩:B9) w4 bg=b2
 have zr12:=Vy ai
 refine .lnt hP (XfZ al (by omega) (fun x hx=>by rw[hw]at hx;have:=Ux (k:=(r7.size:Int)) (by omega) x hx;exact⟨by omega,by omega⟩) (by omega) ai) (.agg (.d rfl (.d rfl (.d rfl (.d rfl .nil)))) (.ref rfl (by rw[←al,List.length_map];first|omega|(simp;omega)) (.d rfl .nil))) ?_
 conv=>cbv
 refine .str aq fun bq b3 ap az=>?_
 conv=>cbv
 refine .go az (hn:=by rw[ap,List.length_append,Array.length_toList];rfl) fun bh a1=>?_
 conv=>cbv
 have t0:l.take i7.toNat=l:=List.take_of_length_le (by omega)
 have e1:Zx ⟨hver,hstr,hbas,hlin⟩ l=w3:=by unfold Zx;rw[ak,hz,t0]
 have e2:Gk hver hbas r7.size l=w4:=by rw[hw,t0]
 rw[t0]at am
 have e:bh=Cf (⟨hver,hstr,hbas,hlin⟩:B9) l:=(by unfold Cf;rw[if_pos ⟨aj,by omega,by simp only[];omega,am⟩,e1,ak,a1,←D2,V8,←ai,←e2];show _=tx w3++Co _ (Gk hver hbas r7.size l) w3.length;congr 2;omega)
 rw[hr]at e
 subst e
 exact hQ _ _ (.s rfl rfl)
end
section
open Go Go.Proofs
set_option maxRecDepth 20000
set_option maxHeartbeats 4000000
theorem X3:∀(k:Nat) {h:B9} {b:ByteArray} {n:Nat} {p:Int},(b.size - p).toNat≤k→0≤p∧p≤b.size→p+(Iw h b n p).1.length≤b.size
 |k,h,b,n,p,hk,hp=>by
  cases hm:Et h.version_ (h.base_+n) b p
  ·rcases hf:A4 h.version_ (h.base_+n) b p with⟨r,q,ok⟩
   cases ok
   ·rw[Pf hm hf]
    simpa using hp.2
   ·have h2:=H9 hf
    rw[Pi hm hf]
    cases k with
    |zero=>omega
    |succ k=>
     have ih:=X3 k (h:=h) (b:=b) (n:=n+1) (p:=q) (by omega) (by omega)
     rw[List.length_cons]
     omega
  ·rw[Pj hm]
   simpa using hp.2
theorem H6{b:ByteArray}:(Bj b).records_.length≤b.size:=by
 unfold Bj
 split
 ·rename_i h e
  have h2:=Hv e
  have:=X3 _ (h:=h) (b:=b) (n:=0) (p:=24) (Nat.le_refl _) (by omega)
  show(Iw h b 0 24).1.length≤_
  omega
 ·simp
end
section
open Go Go.Proofs
set_option maxRecDepth 20000
set_option maxHeartbeats 4000000
def Xfb:List (Nat×TyRow):=[ty3,ty9,XgT,XaS,Xn,Xi,Xe]
theorem XdR:B8 Tryz.prog Xfb:=B8.of (by kernel_rfl)
theorem Fy:Setup Tryz.prog Xfb:=⟨XdR,mixed⟩
def Su{α:Type}(p:α→Bool)(l:List α):Int:=if l.findIdx p<l.length then(l.findIdx p:Int)else -1
section
variable {α:Type} {p:α→Bool} {l:List α} {i:Int}
theorem Lu(h0:0≤i)(hi:i.toNat<l.length)(h:p l[i.toNat]=true)(hb:∀(j:Nat) (hj:j<l.length),j<i.toNat→p l[j]=false):i=Su p l:=by
 have e:l.findIdx p=i.toNat:=(List.findIdx_eq hi).2 ⟨h,fun j hji=>hb j (by omega) hji⟩
 unfold Su
 rw[e,if_pos hi]
 omega
theorem Hh(hb:∀(j:Nat) (hj:j<l.length),p l[j]=false): -1=Su p l:=by
 unfold Su
 rw[if_neg]
 intro hlt
 have:=List.findIdx_getElem (w:=hlt)
 rw[hb _ hlt]at this
 cases this
theorem XeS(e:Su p l=i): -1≤i∧i<l.length:=by
 rw[←e]
 unfold Su
 split<;>omega
theorem Rn(e:Su p l=i)(h:0≤i):∃hi:i.toNat<l.length,p l[i.toNat]=true:=by
 unfold Su at e
 split at e
 ·rename_i hlt
  have e2:i.toNat=l.findIdx p:=by omega
  refine⟨by omega,?_⟩
  have:=List.findIdx_getElem (w:=hlt)
  simpa only[e2]using this
 ·omega
theorem XdH(e:Su p l=i)(h:i<0):∀x∈l,p x=false:=by
 unfold Su at e
 split at e
 ·omega
 ·rename_i hlt
  intro x hx
  cases hp:p x
  ·rfl
  ·exact absurd (List.findIdx_lt_length_of_exists ⟨x,hx,hp⟩) hlt
end
def Cn(e:Ad)(name:ByteArray):Bool:=decide (e.name_=name)
def Ek(l:List Ad)(name:ByteArray):Int:=Su (fun e=>Cn e name) l
def Aw(l:List Ad)(name:ByteArray):Int:=Ek l name
def Fa(n:Ax)(id:Int):Bool:=decide (n.id_=id)
def E4(l:List Ax)(id:Int):Int:=Su (fun n=>Fa n id) l
def Iz(d:Aa)(id:Int):Int:=E4 d.nodes_ id
def Hq(d:Aa)(id:Int):Int:=Iz d id
def Cy(l:List Ad)(name:ByteArray):Int:=if Aw l name<0 then 0 else(l.getD (Aw l name).toNat ⟨tx [],0⟩).id_
def Eb(l:List Ad)(name:ByteArray):Bool:=decide (0≤Aw l name)
def Dc(d:Aa)(name:ByteArray):Int:=if Aw d.entries_ name<0 then -1 else Iz d (Cy d.entries_ name)
def Fl(d:Aa)(name:ByteArray):Ax×Bool:=if Dc d name<0 then(⟨0,tx [],0⟩,false)else(d.nodes_.getD (Dc d name).toNat ⟨0,tx [],0⟩,true)
def Gn(d:Aa)(name:ByteArray):ByteArray×Bool:=((Fl d name).1.text_,(Fl d name).2)
def okD(d:Aa):Prop:=d.nodes_.length≤1000000000∧(∀n∈d.nodes_,n.text_.size≤1000000000)∧d.entries_.length≤1000000000∧(∀e∈d.entries_,e.name_.size≤1000000000)∧d.old_.length≤1000000000∧d.steps_.length≤1000000000
theorem gD{α:Type}{l:List α}{k:Nat}{d:α}(h:k<l.length):l[k]=l.getD k d:=by rw[List.getD_eq_getElem?_getD,List.getElem?_eq_getElem h];rfl
theorem I1{l:List Ad}{name:ByteArray}{i:Int}(e:Aw l name=i): -1≤i∧i<l.length:=XeS e
theorem Ym{d:Aa}{id i:Int}(e:Iz d id=i): -1≤i∧i<d.nodes_.length:=XeS e
theorem H2{d:Aa}{name:ByteArray}{i:Int}(e:Dc d name=i): -1≤i∧i<d.nodes_.length:=by
 unfold Dc at e
 split at e
 ·omega
 ·exact Ym e
theorem Xdm{d:Aa}{name t:ByteArray}{ok:Bool}(hd:okD d)(e:Gn d name=(t,ok)):t.size≤1000000000:=by
 have e1:(Fl d name).1.text_=t:=congrArg Prod.fst e
 rw[←e1]
 unfold Fl
 split
 ·simp[B7]
 ·rename_i h
  have h2:=H2 (rfl:Dc d name=_)
  have h3:(Dc d name).toNat<d.nodes_.length:=by omega
  rw[←gD h3]
  exact hd.2.1 _ (List.getElem_mem h3)
theorem Qs{d:Aa}{name:ByteArray}:Fl d name=if Hq d (Cy d.entries_ name)<0∨Eb d.entries_ name=false then(⟨0,tx [],0⟩,false)else(d.nodes_.getD (Hq d (Cy d.entries_ name)).toNat ⟨0,tx [],0⟩,true):=by
 unfold Fl Dc Hq Eb
 by_cases h:Aw d.entries_ name<0
 ·rw[if_pos h,if_pos (by omega),if_pos (.inr (by simp;omega))]
 ·rw[if_neg h]
  by_cases h2:Iz d (Cy d.entries_ name)<0
  ·rw[if_pos h2,if_pos (.inl h2)]
  ·rw[if_neg h2,if_neg]
   rintro(h3|h3)
   ·exact h2 h3
   ·simp at h3;omega
variable {name oatex oa:ByteArray} {o id An Al oaid oasur:Int} {l Ah Ai:List Ad} {xl Be Bf A9 Bg:List (List D)} {Ae:List Ax} {Af:List ByteArray} {ob:Bool}
theorem XdY{enam:ByteArray}{eid:Int}{o:Bool}(hr:Cn (⟨enam,eid⟩:Ad) name=o):Fn Tryz.prog 322 [.agg [S enam,I eid],.ptr 0 0 0] [.box 9 [S name]] ⟨B o,[],[]⟩:=by
 refine Fn.goR Fy Tryz.func322 fun P hP Q hQ=>?_
 conv=>cbv
 refine .eql (fun h1=>?_) fun h1=>?_
 conv=>cbv
 have e:true=Cn (⟨enam,eid⟩:Ad) name:=(by unfold Cn;symm;rw[decide_eq_true_eq];exact h1)
 rw[hr]at e
 subst e
 exact hQ _ _ (.of [] (.inl rfl) rfl rfl rfl rfl)
 conv=>cbv
 have e:false=Cn (⟨enam,eid⟩:Ad) name:=(by unfold Cn;symm;rw[decide_eq_false_iff_not];exact h1)
 rw[hr]at e
 subst e
 exact hQ _ _ (.of [] (.inl rfl) rfl rfl rfl rfl)
theorem Ww{nid:Int}{ntex:ByteArray}{nsur:Int}{o:Bool}(hr:Fa (⟨nid,ntex,nsur⟩:Ax) id=o):Fn Tryz.prog 303 [.agg [I nid,S ntex,I nsur],.ptr 0 0 0] [.box 3 [I id]] ⟨B o,[],[]⟩:=by
 refine Fn.goR Fy Tryz.func303 fun P hP Q hQ=>?_
 conv=>cbv
 refine .eql (fun h1=>?_) fun h1=>?_
 conv=>cbv
 have e:true=Fa (⟨nid,ntex,nsur⟩:Ax) id:=(by unfold Fa;symm;rw[decide_eq_true_eq];exact h1)
 rw[hr]at e
 subst e
 exact hQ _ _ (.of [] (.inl rfl) rfl rfl rfl rfl)
 conv=>cbv
 have e:false=Fa (⟨nid,ntex,nsur⟩:Ax) id:=(by unfold Fa;symm;rw[decide_eq_false_iff_not];exact h1)
 rw[hr]at e
 subst e
 exact hQ _ _ (.of [] (.inl rfl) rfl rfl rfl rfl)
theorem Ol(hl:l.map Ac=xl)(hn:l.length<2^40)(hr:Ek l name=o):Fn Tryz.prog 301 [.d (.row 2 xl),.clo 322 [.ptr 0 0 0]] [.box 9 [S name]] ⟨I o,[],[]⟩:=by
 refine Fn.goR Fy Tryz.func301 fun P hP Q hQ=>?_
 conv=>cbv
 refine .go hl fun v1 af=>?_
 conv=>cbv
 refine LoopW.lp (κ:=Int) Fy hP [] [0,1,7] (fun i8=>[(8,I i8)]) (fun i8=>[])
  (fun i8=>0≤i8∧i8≤l.length∧∀(j:Nat) (hj:j<l.length),j<i8.toNat→Cn l[j] name=false)
  (fun i8=>(l.length - i8).toNat) (0) ⟨by omega,by omega,fun j _ h=>by simp at h⟩ ⟨rfl,trivial⟩ rfl ?_
 rintro i8 J ⟨h0,h1,hb⟩ hJ
 conv=>cbv
 refine .lss (fun h2=>?_) fun h2=>?_
 conv=>cbv
 refine .go i8.toNat hl fun ae ⟨aa,ac⟩ ad=>?_
 conv=>cbv
 generalize ab:Cn (⟨aa,ac⟩:Ad) name=r4
 refine .bx [0] [] hP (XdY ab) rfl rfl rfl rfl ?_
 cases r4
 conv=>cbv
 refine .add fun v5 ag=>?_
 conv=>cbv
 exact .go [] (v5) (hJ _ ⟨by omega,by omega,fun j hj h=>if e:j=i8.toNat then by subst e;rw[←ad];exact ab else hb j hj (by omega)⟩ mlt)
 conv=>cbv
 have e:i8=Ek l name:=(by exact Lu (p:=fun x=>Cn x name) h0 (by omega) (ad▸ab) hb)
 rw[hr]at e
 subst e
 exact hQ _ _ (.of [] (.inl rfl) rfl rfl rfl rfl)
 conv=>cbv
 have e:(-1)=Ek l name:=(by exact Hh (p:=fun x=>Cn x name) fun j hj=>hb j hj (by omega))
 rw[hr]at e
 subst e
 exact hQ _ _ (.of [] (.inl rfl) rfl rfl rfl rfl)
theorem Pv{l:List Ax}(hl:l.map A6=xl)(hn:l.length<2^40)(hr:E4 l id=o):Fn Tryz.prog 302 [.d (.row 3 xl),.clo 303 [.ptr 0 0 0]] [.box 3 [I id]] ⟨I o,[],[]⟩:=by
 refine Fn.goR Fy Tryz.func302 fun P hP Q hQ=>?_
 conv=>cbv
 refine .go hl fun v1 ag=>?_
 conv=>cbv
 refine LoopW.lp (κ:=Int) Fy hP [] [0,1,7] (fun i8=>[(8,I i8)]) (fun i8=>[])
  (fun i8=>0≤i8∧i8≤l.length∧∀(j:Nat) (hj:j<l.length),j<i8.toNat→Fa l[j] id=false)
  (fun i8=>(l.length - i8).toNat) (0) ⟨by omega,by omega,fun j _ h=>by simp at h⟩ ⟨rfl,trivial⟩ rfl ?_
 rintro i8 J ⟨h0,h1,hb⟩ hJ
 conv=>cbv
 refine .lss (fun h2=>?_) fun h2=>?_
 conv=>cbv
 refine .go i8.toNat hl fun af ⟨ad,aa,ab⟩ ae=>?_
 conv=>cbv
 generalize ac:Fa (⟨ad,aa,ab⟩:Ax) id=r4
 refine .bx [0] [] hP (Ww ac) rfl rfl rfl rfl ?_
 cases r4
 conv=>cbv
 refine .add fun v5 ah=>?_
 conv=>cbv
 exact .go [] (v5) (hJ _ ⟨by omega,by omega,fun j hj h=>if e:j=i8.toNat then by subst e;rw[←ae];exact ac else hb j hj (by omega)⟩ mlt)
 conv=>cbv
 have e:i8=E4 l id:=(by exact Lu (p:=fun x=>Fa x id) h0 (by omega) (ae▸ac) hb)
 rw[hr]at e
 subst e
 exact hQ _ _ (.of [] (.inl rfl) rfl rfl rfl rfl)
 conv=>cbv
 have e:(-1)=E4 l id:=(by exact Hh (p:=fun x=>Fa x id) fun j hj=>hb j hj (by omega))
 rw[hr]at e
 subst e
 exact hQ _ _ (.of [] (.inl rfl) rfl rfl rfl rfl)
theorem Kp(hl:l.map Ac=xl)(hn:l.length<2^40)(hr:Aw l name=o):Fn Tryz.prog 280 [.d (.row 2 xl),S name] [] ⟨I o,[],[]⟩:=by
 refine Fn.go Fy Tryz.func280 fun P hP Q hQ=>?_
 conv=>cbv
 generalize aa:Ek l name=r1
 refine .bx [0] [] hP (Ol hl (by omega) aa) rfl rfl rfl rfl ?_
 conv=>cbv
 have e:r1=Aw l name:=(by unfold Aw;exact aa.symm)
 rw[hr]at e
 subst e
 exact hQ _ _ (.i rfl rfl)
theorem Nk(Aj:Ae.map A6=Be)(Ak:Ah.map Ac=Bf)(Ao:Ai.map Ac=A9)(Am:Af.map cS=Bg)(hn:Ae.length<2^40)(hr:Iz (⟨Ae,Ah,Ai,Af,An,Al⟩:Aa) id=o):Fn Tryz.prog 249 [.agg [.d (.row 3 Be),.d (.row 2 Bf),.d (.row 2 A9),.d (.row 1 Bg),I An,I Al],I id] [] ⟨I o,[],[]⟩:=by
 refine Fn.go Fy Tryz.func249 fun P hP Q hQ=>?_
 conv=>cbv
 generalize aa:E4 Ae id=r1
 refine .bx [1] [] hP (Pv Aj (by omega) aa) rfl rfl rfl rfl ?_
 conv=>cbv
 have e:r1=Iz (⟨Ae,Ah,Ai,Af,An,Al⟩:Aa) id:=(by unfold Iz;exact aa.symm)
 rw[hr]at e
 subst e
 exact hQ _ _ (.i rfl rfl)
theorem M1(Aj:Ae.map A6=Be)(Ak:Ah.map Ac=Bf)(Ao:Ai.map Ac=A9)(Am:Af.map cS=Bg)(hd:okD ⟨Ae,Ah,Ai,Af,An,Al⟩)(hr:Dc (⟨Ae,Ah,Ai,Af,An,Al⟩:Aa) name=o):Fn Tryz.prog 217 [.agg [.d (.row 3 Be),.d (.row 2 Bf),.d (.row 2 A9),.d (.row 1 Bg),I An,I Al],S name] [] ⟨I o,[],[]⟩:=by
 refine Fn.go Fy Tryz.func217 fun P hP Q hQ=>?_
 conv=>cbv
 obtain⟨d1,d2,d3,d4,d5,d6⟩:=hd
 simp only[]at d1 d2 d3 d4 d5 d6
 generalize aa:Aw Ah name=r1
 refine .dd hP (Kp Ak (by omega) aa) ?_
 conv=>cbv
 have hb:=I1 aa
 refine .lss (fun h2=>?_) fun h2=>?_
 conv=>cbv
 have e:(-1)=Dc (⟨Ae,Ah,Ai,Af,An,Al⟩:Aa) name:=(by unfold Dc;rw[if_pos (by simp only[];omega)])
 rw[hr]at e
 subst e
 exact hQ _ _ (.i rfl rfl)
 conv=>cbv
 refine .go r1.toNat Ak fun ab ⟨ae,ac⟩ af=>?_
 conv=>cbv
 generalize ad:Iz (⟨Ae,Ah,Ai,Af,An,Al⟩:Aa) ac=r4
 refine .dd hP (Nk Aj Ak Ao Am (by omega) ad) ?_
 conv=>cbv
 have e:r4=Dc (⟨Ae,Ah,Ai,Af,An,Al⟩:Aa) name:=(by unfold Dc Cy;simp only[];rw[aa,if_neg (by omega),if_neg (by omega),←gD ab,←af];exact ad.symm)
 rw[hr]at e
 subst e
 exact hQ _ _ (.i rfl rfl)
theorem Xfc(Aj:Ae.map A6=Be)(Ak:Ah.map Ac=Bf)(Ao:Ai.map Ac=A9)(Am:Af.map cS=Bg)(hd:okD ⟨Ae,Ah,Ai,Af,An,Al⟩)(hr:Fl (⟨Ae,Ah,Ai,Af,An,Al⟩:Aa) name=(⟨oaid,oatex,oasur⟩,ob)):Fn Tryz.prog 147 [.agg [.d (.row 3 Be),.d (.row 2 Bf),.d (.row 2 A9),.d (.row 1 Bg),I An,I Al],S name] [] ⟨.tup [.agg [I oaid,S oatex,I oasur],B ob],[],[]⟩:=by
 refine Fn.go Fy Tryz.func147 fun P hP Q hQ=>?_
 conv=>cbv
 generalize aa:Dc (⟨Ae,Ah,Ai,Af,An,Al⟩:Aa) name=r1
 refine .dd hP (M1 Aj Ak Ao Am hd aa) ?_
 conv=>cbv
 have hb:=H2 aa
 simp only[]at hb
 refine .lss (fun h2=>?_) fun h2=>?_
 conv=>cbv
 have e:((⟨0,tx [],0⟩:Ax),false)=Fl (⟨Ae,Ah,Ai,Af,An,Al⟩:Aa) name:=(by unfold Fl;rw[if_pos (by rw[aa];omega)])
 rw[hr]at e
 simp only[Prod.mk.injEq,Ax.mk.injEq]at e
 obtain⟨⟨rfl,rfl,rfl⟩,rfl⟩:=e
 refine hQ _ _ ?_
 exact .many (.inl rfl) rfl rfl (.agg (.d rfl rfl (.d rfl rfl (.d rfl rfl (.nil)))) (.d rfl rfl (.nil)))
 conv=>cbv
 refine .go r1.toNat Aj fun af ⟨ad,ab,ac⟩ ae=>?_
 conv=>cbv
 have e:((⟨ad,ab,ac⟩:Ax),true)=Fl (⟨Ae,Ah,Ai,Af,An,Al⟩:Aa) name:=(by unfold Fl;rw[aa,if_neg (by omega)];simp only[];rw[←gD (show r1.toNat<Ae.length by omega)];rw[←ae])
 rw[hr]at e
 simp only[Prod.mk.injEq,Ax.mk.injEq]at e
 obtain⟨⟨rfl,rfl,rfl⟩,rfl⟩:=e
 refine hQ _ _ ?_
 exact .many (.inl rfl) rfl rfl (.agg (.d rfl rfl (.d rfl rfl (.d rfl rfl (.nil)))) (.d rfl rfl (.nil)))
theorem Xga(Aj:Ae.map A6=Be)(Ak:Ah.map Ac=Bf)(Ao:Ai.map Ac=A9)(Am:Af.map cS=Bg)(hd:okD ⟨Ae,Ah,Ai,Af,An,Al⟩)(hr:Gn (⟨Ae,Ah,Ai,Af,An,Al⟩:Aa) name=(oa,ob)):Fn Tryz.prog 261 [.agg [.d (.row 3 Be),.d (.row 2 Bf),.d (.row 2 A9),.d (.row 1 Bg),I An,I Al],S name] [] ⟨.tup [S oa,B ob],[],[]⟩:=by
 refine Fn.go Fy Tryz.func261 fun P hP Q hQ=>?_
 conv=>cbv
 rcases ab:Fl (⟨Ae,Ah,Ai,Af,An,Al⟩:Aa) name with⟨⟨ad,aa,ac⟩,ae⟩
 refine .dd hP (Xfc Aj Ak Ao Am hd ab) ?_
 conv=>cbv
 have e:(aa,ae)=Gn (⟨Ae,Ah,Ai,Af,An,Al⟩:Aa) name:=(by unfold Gn;rw[ab])
 rw[hr]at e
 simp only[Prod.mk.injEq]at e
 obtain⟨rfl,rfl⟩:=e
 refine hQ _ _ ?_
 exact .many (.inl rfl) rfl rfl (.d rfl rfl (.d rfl rfl (.nil)))
theorem Mg(hl:l.map Ac=xl)(hn:l.length<2^40)(hr:Cy l name=o):Fn Tryz.prog 213 [.d (.row 2 xl),S name] [] ⟨I o,[],[]⟩:=by
 refine Fn.go Fy Tryz.func213 fun P hP Q hQ=>?_
 conv=>cbv
 refine LoopW.lp (κ:=Int) Fy hP [] [0,1] (fun i5=>[(5,I i5)]) (fun i5=>[])
  (fun i5=>0≤i5∧i5≤l.length∧∀(j:Nat) (hj:j<l.length),j<i5.toNat→Cn l[j] name=false)
  (fun i5=>(l.length - i5).toNat) (0) ⟨by omega,by omega,fun j _ h=>by simp at h⟩ ⟨rfl,trivial⟩ rfl ?_
 rintro i5 J ⟨h0,h1,hb⟩ hJ
 conv=>cbv
 refine .go hl fun v1 ai=>?_
 conv=>cbv
 refine .lss (fun h2=>?_) fun h2=>?_
 conv=>cbv
 refine .go i5.toNat hl fun ag ⟨ad,ah⟩ aa=>?_
 conv=>cbv
 refine .eql (fun h4=>?_) fun h4=>?_
 conv=>cbv
 refine .go i5.toNat hl fun ab ⟨ae,ac⟩ af=>?_
 conv=>cbv
 have e:ac=Cy l name:=(by have e2:Aw l name=i5:=(Lu (p:=fun x=>Cn x name) (l:=l) h0 (by omega) (by rw[←aa];unfold Cn;rw[decide_eq_true_eq];exact h4) hb).symm;unfold Cy;rw[e2,if_neg (by omega),←gD ab,←af])
 rw[hr]at e
 subst e
 exact hQ _ _ (.i rfl rfl)
 conv=>cbv
 refine .add fun v5 aj=>?_
 conv=>cbv
 exact .go [] (v5) (hJ _ ⟨by omega,by omega,fun j hj h=>if e:j=i5.toNat then by subst e;rw[←aa];unfold Cn;rw[decide_eq_false_iff_not];exact h4 else hb j hj (by omega)⟩ mlt)
 conv=>cbv
 have e:0=Cy l name:=(by have e2:Aw l name= -1:=(Hh (p:=fun x=>Cn x name) fun j hj=>hb j hj (by omega)).symm;unfold Cy;rw[e2,if_pos (by omega)])
 rw[hr]at e
 subst e
 exact hQ _ _ (.i rfl rfl)
theorem Q6(Aj:Ae.map A6=Be)(Ak:Ah.map Ac=Bf)(Ao:Ai.map Ac=A9)(Am:Af.map cS=Bg)(hn:Ae.length<2^40)(hr:Hq (⟨Ae,Ah,Ai,Af,An,Al⟩:Aa) id=o):Fn Tryz.prog 212 [.agg [.d (.row 3 Be),.d (.row 2 Bf),.d (.row 2 A9),.d (.row 1 Bg),I An,I Al],I id] [] ⟨I o,[],[]⟩:=by
 refine Fn.go Fy Tryz.func212 fun P hP Q hQ=>?_
 conv=>cbv
 refine LoopW.lp (κ:=Int) Fy hP [] [1,2] (fun i5=>[(5,I i5)]) (fun i5=>[])
  (fun i5=>0≤i5∧i5≤Ae.length∧∀(j:Nat) (hj:j<Ae.length),j<i5.toNat→Fa Ae[j] id=false)
  (fun i5=>(Ae.length - i5).toNat) (0) ⟨by omega,by omega,fun j _ h=>by simp at h⟩ ⟨rfl,trivial⟩ rfl ?_
 rintro i5 J ⟨h0,h1,hb⟩ hJ
 conv=>cbv
 refine .go Aj fun v1 af=>?_
 conv=>cbv
 refine .lss (fun h2=>?_) fun h2=>?_
 conv=>cbv
 refine .go i5.toNat Aj fun ad ⟨ae,ab,ac⟩ aa=>?_
 conv=>cbv
 refine .eql (fun h4=>?_) fun h4=>?_
 conv=>cbv
 have e:i5=Hq (⟨Ae,Ah,Ai,Af,An,Al⟩:Aa) id:=(by exact Lu (p:=fun x=>Fa x id) (l:=Ae) h0 (by omega) (by rw[←aa];unfold Fa;rw[decide_eq_true_eq];exact h4) hb)
 rw[hr]at e
 subst e
 exact hQ _ _ (.i rfl rfl)
 conv=>cbv
 refine .add fun v5 ag=>?_
 conv=>cbv
 exact .go [] (v5) (hJ _ ⟨by omega,by omega,fun j hj h=>if e:j=i5.toNat then by subst e;rw[←aa];unfold Fa;rw[decide_eq_false_iff_not];exact h4 else hb j hj (by omega)⟩ mlt)
 conv=>cbv
 have e:(-1)=Hq (⟨Ae,Ah,Ai,Af,An,Al⟩:Aa) id:=(by exact Hh (p:=fun x=>Fa x id) (l:=Ae) fun j hj=>hb j hj (by omega))
 rw[hr]at e
 subst e
 exact hQ _ _ (.i rfl rfl)
theorem Nd{o:Bool}(hl:l.map Ac=xl)(hn:l.length<2^40)(hr:Eb l name=o):Fn Tryz.prog 214 [.d (.row 2 xl),S name] [] ⟨B o,[],[]⟩:=by
 refine Fn.go Fy Tryz.func214 fun P hP Q hQ=>?_
 conv=>cbv
 refine LoopW.lp (κ:=Int) Fy hP [] [0,1] (fun i5=>[(5,I i5)]) (fun i5=>[])
  (fun i5=>0≤i5∧i5≤l.length∧∀(j:Nat) (hj:j<l.length),j<i5.toNat→Cn l[j] name=false)
  (fun i5=>(l.length - i5).toNat) (0) ⟨by omega,by omega,fun j _ h=>by simp at h⟩ ⟨rfl,trivial⟩ rfl ?_
 rintro i5 J ⟨h0,h1,hb⟩ hJ
 conv=>cbv
 refine .go hl fun v1 ae=>?_
 conv=>cbv
 refine .lss (fun h2=>?_) fun h2=>?_
 conv=>cbv
 refine .go i5.toNat hl fun ac ⟨ab,ad⟩ aa=>?_
 conv=>cbv
 refine .eql (fun h4=>?_) fun h4=>?_
 conv=>cbv
 have e:true=Eb l name:=(by have e2:Aw l name=i5:=(Lu (p:=fun x=>Cn x name) (l:=l) h0 (by omega) (by rw[←aa];unfold Cn;rw[decide_eq_true_eq];exact h4) hb).symm;unfold Eb;rw[e2];symm;rw[decide_eq_true_eq];omega)
 rw[hr]at e
 subst e
 exact hQ _ _ (.b rfl rfl)
 conv=>cbv
 refine .add fun v5 af=>?_
 conv=>cbv
 exact .go [] (v5) (hJ _ ⟨by omega,by omega,fun j hj h=>if e:j=i5.toNat then by subst e;rw[←aa];unfold Cn;rw[decide_eq_false_iff_not];exact h4 else hb j hj (by omega)⟩ mlt)
 conv=>cbv
 have e:false=Eb l name:=(by have e2:Aw l name= -1:=(Hh (p:=fun x=>Cn x name) fun j hj=>hb j hj (by omega)).symm;unfold Eb;rw[e2];rfl)
 rw[hr]at e
 subst e
 exact hQ _ _ (.b rfl rfl)
theorem Xfk(Aj:Ae.map A6=Be)(Ak:Ah.map Ac=Bf)(Ao:Ai.map Ac=A9)(Am:Af.map cS=Bg)(hd:okD ⟨Ae,Ah,Ai,Af,An,Al⟩)(hr:Fl (⟨Ae,Ah,Ai,Af,An,Al⟩:Aa) name=(⟨oaid,oatex,oasur⟩,ob)):Fn Tryz.prog 135 [.agg [.d (.row 3 Be),.d (.row 2 Bf),.d (.row 2 A9),.d (.row 1 Bg),I An,I Al],S name] [] ⟨.tup [.agg [I oaid,S oatex,I oasur],B ob],[],[]⟩:=by
 refine Fn.go Fy Tryz.func135 fun P hP Q hQ=>?_
 conv=>cbv
 obtain⟨d1,d2,d3,d4,d5,d6⟩:=hd
 simp only[]at d1 d2 d3 d4 d5 d6
 generalize ab:Cy Ah name=r1
 refine .dd hP (Mg Ak (by omega) ab) ?_
 conv=>cbv
 generalize aa:Hq (⟨Ae,Ah,Ai,Af,An,Al⟩:Aa) r1=r2
 refine .dd hP (Q6 Aj Ak Ao Am (by omega) aa) ?_
 conv=>cbv
 have hb:=Ym (d:=⟨Ae,Ah,Ai,Af,An,Al⟩) (id:=r1) aa
 simp only[]at hb
 refine .lss (fun h3=>?_) fun h3=>?_
 conv=>cbv
 have e:((⟨0,tx [],0⟩:Ax),false)=Fl (⟨Ae,Ah,Ai,Af,An,Al⟩:Aa) name:=(by rw[Qs,if_pos (.inl (by simp only[];rw[ab,aa];omega))])
 rw[hr]at e
 simp only[Prod.mk.injEq,Ax.mk.injEq]at e
 obtain⟨⟨rfl,rfl,rfl⟩,rfl⟩:=e
 refine hQ _ _ ?_
 exact .many (.inl rfl) rfl rfl (.agg (.d rfl rfl (.d rfl rfl (.d rfl rfl (.nil)))) (.d rfl rfl (.nil)))
 conv=>cbv
 generalize ac:Eb Ah name=r4
 refine .dd hP (Nd Ak (by omega) ac) ?_
 cases r4
 conv=>cbv
 have e:((⟨0,tx [],0⟩:Ax),false)=Fl (⟨Ae,Ah,Ai,Af,An,Al⟩:Aa) name:=(by rw[Qs,if_pos (.inr ac)])
 rw[hr]at e
 simp only[Prod.mk.injEq,Ax.mk.injEq]at e
 obtain⟨⟨rfl,rfl,rfl⟩,rfl⟩:=e
 refine hQ _ _ ?_
 exact .many (.inl rfl) rfl rfl (.agg (.d rfl rfl (.d rfl rfl (.d rfl rfl (.nil)))) (.d rfl rfl (.nil)))
 conv=>cbv
 refine .go r2.toNat Aj fun ah ⟨af,ad,ae⟩ ag=>?_
 conv=>cbv
 have e:((⟨af,ad,ae⟩:Ax),true)=Fl (⟨Ae,Ah,Ai,Af,An,Al⟩:Aa) name:=(by rw[Qs,if_neg (by simp only[];rw[ab,aa,ac];rintro(h|h);omega;cases h)];simp only[];rw[ab,aa,←gD (show r2.toNat<Ae.length by omega),←ag])
 rw[hr]at e
 simp only[Prod.mk.injEq,Ax.mk.injEq]at e
 obtain⟨⟨rfl,rfl,rfl⟩,rfl⟩:=e
 refine hQ _ _ ?_
 exact .many (.inl rfl) rfl rfl (.agg (.d rfl rfl (.d rfl rfl (.d rfl rfl (.nil)))) (.d rfl rfl (.nil)))
theorem XgF(Aj:Ae.map A6=Be)(Ak:Ah.map Ac=Bf)(Ao:Ai.map Ac=A9)(Am:Af.map cS=Bg)(hd:okD ⟨Ae,Ah,Ai,Af,An,Al⟩)(hr:Gn (⟨Ae,Ah,Ai,Af,An,Al⟩:Aa) name=(oa,ob)):Fn Tryz.prog 186 [.agg [.d (.row 3 Be),.d (.row 2 Bf),.d (.row 2 A9),.d (.row 1 Bg),I An,I Al],S name] [] ⟨.tup [S oa,B ob],[],[]⟩:=by
 refine Fn.go Fy Tryz.func186 fun P hP Q hQ=>?_
 conv=>cbv
 rcases ab:Fl (⟨Ae,Ah,Ai,Af,An,Al⟩:Aa) name with⟨⟨ad,aa,ac⟩,ae⟩
 refine .dd hP (Xfk Aj Ak Ao Am hd ab) ?_
 conv=>cbv
 have e:(aa,ae)=Gn (⟨Ae,Ah,Ai,Af,An,Al⟩:Aa) name:=(by unfold Gn;rw[ab])
 rw[hr]at e
 simp only[Prod.mk.injEq]at e
 obtain⟨rfl,rfl⟩:=e
 refine hQ _ _ ?_
 exact .many (.inl rfl) rfl rfl (.d rfl rfl (.d rfl rfl (.nil)))
end
end Go.Proofs.YtgdmjbcllgmepaaGreatDoor.Ab
