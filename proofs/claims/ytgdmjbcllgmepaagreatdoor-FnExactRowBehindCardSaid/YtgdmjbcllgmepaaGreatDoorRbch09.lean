/- What functions of the program come to, for all arguments in the given bounds. -/
import Derived.Test.YtgdmjbcllgmepaaGreatDoorRbch01a
set_option linter.unusedVariables false
set_option linter.unusedSimpArgs false
namespace Go.Proofs.YtgdmjbcllgmepaaGreatDoor.Ab
section
open Go Go.Proofs
set_option maxRecDepth 20000
set_option maxHeartbeats 4000000
def XeF:List (Nat×TyRow):=[ty3,ty5,ty9,Xdg]
theorem Xeg:B9 Tryz.prog XeF:=B9.of (by kernel_rfl)
theorem M0:Setup Tryz.prog XeF:=⟨Xeg,mixed⟩
def D7(s p:ByteArray):Bool:=decide (s.extract 0 p.size=p)
def Gh(b:ByteArray)(p:Int)(t:ByteArray):Bool:=decide ((0≤p∧p+t.size≤b.size)∧b.extract p.toNat (p.toNat+t.size)=t)
theorem Uc{s:ByteArray}{i j:Nat}(h:i≤j)(h2:j≤s.size):(s.extract i j).size=j - i:=by
 rw[ByteArray.size_extract]
 omega
theorem Xlk{s:ByteArray}{i k:Nat}(h:i≤s.size):(s.extract i s.size).extract 0 k=s.extract i (i+k):=by
 rw[Xfx,Xfx,Xfx s i (i+k),Qm,List.drop_zero,Nat.sub_zero,List.take_take,Nat.add_sub_cancel_left]
 congr 1
 have:(s.data.toList.drop i).length=s.size - i:=by rw[List.length_drop,Iz]
 by_cases hk:k≤s.size - i
 ·rw[Nat.min_eq_left hk]
 ·rw[Nat.min_eq_right (by omega),List.take_of_length_le (by omega),List.take_of_length_le (by omega)]
theorem XaF{s p:ByteArray}(h:D7 s p=true):p.size≤s.size:=by
 have:=of_decide_eq_true h
 have h2:=congrArg ByteArray.size this
 rw[ByteArray.size_extract]at h2
 omega
theorem Uv(n:Int)(h:0≤n∧n<4294967296):(Bd n 4).size=4:=Q8 ⟨h.1,by omega,by omega,Nat.div_eq_of_lt (show n.toNat<2^ (8*4)by omega)⟩
theorem Qz{v n:Int}{r:ByteArray}(hv:v=1∨v=2)(hn:0≤n∧n≤1000000000)(hr:r.size≤60):A2 v n r≠tx []:=by
 unfold A2
 rw[if_pos ⟨hv,hn,hr⟩]
 intro h
 have:=congrArg ByteArray.size h
 rw[ByteArray.size_append,Uv _ (Wv r),Bz]at this
 simp at this
theorem Kv{v n:Int}{r:ByteArray}(h:¬((v=1∨v=2)∧0≤n∧n≤1000000000)):A2 v n r=tx []:=if_neg (fun hh=>h ⟨hh.1,hh.2.1⟩)
def H9(v n:Int)(b:ByteArray)(p x q:Int):ByteArray×Int×Bool:=
 if x≤60∧q+x≤b.size∧A2 v n (b.extract q.toNat (q+x).toNat)≠tx []∧Gh b p (A2 v n (b.extract q.toNat (q+x).toNat))=true then
  (b.extract q.toNat (q+x).toNat,p+(A2 v n (b.extract q.toNat (q+x).toNat)).size,true)else(tx [],0,false)
def Bf(v n:Int)(b:ByteArray)(p:Int):ByteArray×Int×Bool:=
 if v=2 then(if(Cd b p 4).2=true then H9 v n b p (Cd b p 4).1 (p+8)else(tx [],0,false))
 else(if(Da b p).2.2=true then H9 v n b p (Da b p).1 (Da b p).2.1 else(tx [],0,false))
theorem Kn{v n p x:Int}{b:ByteArray}{ok:Bool}(h1:v=2)(h:Cd b p 4=(x,ok)):Bf v n b p=if ok=true then H9 v n b p x (p+8)else(tx [],0,false):=by
 unfold Bf
 rw[if_pos h1,h]
theorem Ks{v n p x q:Int}{b:ByteArray}{ok:Bool}(h1:v≠2)(h:Da b p=(x,q,ok)):Bf v n b p=if ok=true then H9 v n b p x q else(tx [],0,false):=by
 unfold Bf
 rw[if_neg h1,h]
theorem Ms{b:ByteArray}{p w x:Int}(h:Cd b p w=(x,true)):(1≤w∧w≤8)∧0≤p∧p+w≤b.size∧0≤x∧x<9223372036854775808:=by
 unfold Cd at h
 split at h
 ·split at h
  ·simp only[Prod.mk.injEq,and_true]at h
   omega
  ·simp at h
 ·simp at h
theorem Xem:∀{f:Nat} {l:List UInt8} {n k:Nat},Qe f l=some (n,k)→1≤k∧k≤l.length
 |0,l,n,k,h=>by simp[Qe]at h
 |f+1,[],n,k,h=>by simp[Qe]at h
 |f+1,x::l,n,k,h=>by
  simp only[Qe]at h
  split at h
  ·simp only[Option.some.injEq,Prod.mk.injEq]at h
   simp
   omega
  ·split at h
   ·rename_i m j hm
    have:=Xem hm
    split at h
    ·cases h
    ·simp only[Option.some.injEq,Prod.mk.injEq]at h
     simp
     omega
   ·cases h
theorem Nd{b:ByteArray}{p x q:Int}(h:Da b p=(x,q,true)):0≤p∧p<q∧q≤b.size∧0≤x∧x≤1000000000:=by
 unfold Da at h
 split at h
 ·split at h
  ·rename_i n k hv
   have:=Xem hv
   rw[List.length_drop,Iz]at this
   split at h
   ·simp only[Prod.mk.injEq,and_true]at h
    omega
   ·simp at h
  ·simp at h
 ·simp at h
theorem Lp{v n p x q:Int}{b:ByteArray}(h:¬(x≤60∧q+x≤b.size)):(tx [],0,false)=H9 v n b p x q:=(if_neg (fun hh=>h ⟨hh.1,hh.2.1⟩)).symm
theorem W4{v n p x q:Int}{b t:ByteArray}(h:A2 v n (b.extract q.toNat (q+x).toNat)=t)(h2:t=tx []∨Gh b p t=false):(tx [],0,false)=H9 v n b p x q:=by
 unfold H9
 rw[h,if_neg]
 rintro⟨_,_,h3,h4⟩
 rcases h2 with h2|h2
 ·exact h3 h2
 ·rw[h2]at h4;cases h4
theorem XeN{v n p x q:Int}{b t:ByteArray}(hx:x≤60∧q+x≤b.size)(h:A2 v n (b.extract q.toNat (q+x).toNat)=t)(h2:t≠tx [])(h3:Gh b p t=true):(b.extract q.toNat (q+x).toNat,p+(t.size:Int),true)=H9 v n b p x q:=by
 unfold H9
 rw[h,if_pos ⟨hx.1,hx.2,h2,h3⟩]
def Em(v n:Int)(b:ByteArray)(p:Int):Bool:=decide (C8 v n≠tx [])&&Gh b p (C8 v n)
theorem Xkx{v n p:Int}{b:ByteArray}(h:¬((v=1∨v=2)∧0≤n∧n≤1000000000)):(tx [],0,false)=Bf v n b p:=by
 unfold Bf
 split
 ·split
  ·exact W4 (Kv h) (.inl rfl)
  ·rfl
 ·split
  ·exact W4 (Kv h) (.inl rfl)
  ·rfl
theorem Xmm{v n p:Int}{b:ByteArray}(h:¬(0≤p∧p≤b.size)):(tx [],0,false)=Bf v n b p:=by
 rcases h1:Cd b p 4 with⟨x,ok⟩
 rcases h2:Da b p with⟨y,q,ok2⟩
 by_cases hv:v=2
 ·rw[Kn hv h1]
  cases ok
  ·rfl
  ·have:=Ms h1;omega
 ·rw[Ks hv h2]
  cases ok2
  ·rfl
  ·have:=Nd h2;omega
def bAt(b:ByteArray)(i:Nat):Int:=(((b.data.toList[i]?).getD 0).toNat:Nat)
theorem Xfp{b:ByteArray}{i:Nat}(h:i<b.size):((b[i].toNat:Nat):Int)=bAt b i:=by
 unfold bAt
 rw[Xae h,List.getElem?_eq_getElem (by rw[Iz];exact h)]
 rfl
def Cm(b:ByteArray):Ca×Bool:=
 if 24≤b.size∧(Cd b 8 8).2=true∧Cf ⟨bAt b 4,bAt b 5,(Cd b 8 8).1,(Cd b 16 4).1⟩=b.extract 0 24 then(⟨bAt b 4,bAt b 5,(Cd b 8 8).1,(Cd b 16 4).1⟩,true)else(⟨0,0,0,0⟩,false)
theorem Hm{b:ByteArray}{h:Ca}(e:Cm b=(h,true)):24≤b.size∧Cf h=b.extract 0 24∧Dg h=true:=by
 unfold Cm at e
 split at e
 ·rename_i hh
  simp only[Prod.mk.injEq,and_true]at e
  rw[←e]
  refine⟨hh.1,hh.2.2,?_⟩
  by_cases hk:Dg ⟨bAt b 4,bAt b 5,(Cd b 8 8).1,(Cd b 16 4).1⟩=true
  ·exact hk
  ·have h2:=hh.2.2
   unfold Cf at h2
   rw[if_neg hk]at h2
   have:=congrArg ByteArray.size h2
   rw[Bz,Uc (by omega) (by omega)]at this
   simp at this
 ·simp at e
variable {s b oa:ByteArray} {p v n oaver oastr oabas oalin:Int} {o ob oc:Bool}
theorem Ih{p:ByteArray}(hs:s.size<2^47)(hr:D7 s p=o):Fn Tryz.prog 341 [S s,S p] [] ⟨B o,[],[]⟩:=by
 refine Fn.go M0 Tryz.func341 fun P hP Q hQ=>?_
 conv=>cbv
 refine .go fun v1 ab=>?_
 conv=>cbv
 refine .go fun v2 ac=>?_
 conv=>cbv
 refine .geq (fun h3=>?_) fun h3=>?_
 conv=>cbv
 refine .go fun v4 ad=>?_
 conv=>cbv
 refine .hi fun s5 aa=>?_
 conv=>cbv
 refine .eql (fun h6=>?_) fun h6=>?_
 conv=>cbv
 have e:true=D7 s p:=(by unfold D7;symm;rw[decide_eq_true_eq,show p.size=v4.toNat by omega,←aa];exact h6)
 rw[hr]at e
 subst e
 exact hQ _ _ (.b rfl rfl)
 conv=>cbv
 have e:false=D7 s p:=(by unfold D7;symm;rw[decide_eq_false_iff_not];intro h;refine h6 ?_;rw[aa,show v4.toNat=p.size by omega];exact h)
 rw[hr]at e
 subst e
 exact hQ _ _ (.b rfl rfl)
 conv=>cbv
 have e:false=D7 s p:=(by symm;cases hh:D7 s p;rfl;have:=XaF hh;omega)
 rw[hr]at e
 subst e
 exact hQ _ _ (.b rfl rfl)
theorem P7{p:ByteArray}(hs:s.size<2^47)(hr:D7 s p=o):Fn Tryz.prog 316 [S s,S p] [] ⟨B o,[],[]⟩:=by
 refine Fn.go M0 Tryz.func316 fun P hP Q hQ=>?_
 conv=>cbv
 generalize aa:D7 s p=r1
 refine .dd hP (Ih (by omega) aa) ?_
 cases r1
 conv=>cbv
 have e:false=D7 s p:=(by exact aa.symm)
 rw[hr]at e
 subst e
 exact hQ _ _ (.b rfl rfl)
 conv=>cbv
 have e:true=D7 s p:=(by exact aa.symm)
 rw[hr]at e
 subst e
 exact hQ _ _ (.b rfl rfl)
theorem XdH{t:ByteArray}(hs:b.size<2^47)(hr:Gh b p t=o):Fn Tryz.prog 311 [S b,I p,S t] [] ⟨B o,[],[]⟩:=by
 refine Fn.go M0 Tryz.func311 fun P hP Q hQ=>?_
 conv=>cbv
 refine .go fun v1 ad=>?_
 conv=>cbv
 generalize aa:Cc p 0 v1=r2
 refine .dd hP (Gd aa) ?_
 cases r2
 simp only[Cc,decide_eq_true_eq,decide_eq_false_iff_not]at aa
 conv=>cbv
 have e:false=Gh b p t:=(by unfold Gh;symm;rw[decide_eq_false_iff_not];intro h;omega)
 rw[hr]at e
 subst e
 exact hQ _ _ (.b rfl rfl)
 simp only[Cc,decide_eq_true_eq,decide_eq_false_iff_not]at aa
 conv=>cbv
 refine .lo fun s3 ac=>?_
 conv=>cbv
 have z3:s3.size≤b.size:=by rw[ac,ByteArray.size_extract];omega
 have key:D7 s3 t=Gh b p t:=by
  unfold D7 Gh
  rw[ac,Xlk (by omega)]
  simp only[decide_eq_decide]
  constructor
  ·intro h;refine⟨?_,h⟩;have h2:=congrArg ByteArray.size h;rw[ByteArray.size_extract]at h2;omega
  ·intro h;exact h.2
 generalize ab:D7 s3 t=r4
 refine .dd hP (P7 (by omega) ab) ?_
 cases r4
 conv=>cbv
 have e:false=Gh b p t:=(by rw[←key];exact ab.symm)
 rw[hr]at e
 subst e
 exact hQ _ _ (.b rfl rfl)
 conv=>cbv
 have e:true=Gh b p t:=(by rw[←key];exact ab.symm)
 rw[hr]at e
 subst e
 exact hQ _ _ (.b rfl rfl)
theorem Xjr(hs:b.size<2^47)(hp: -140737488355328≤p∧p<140737488355328)(hr:Em v n b p=o):Fn Tryz.prog 263 [I v,I n,S b,I p] [] ⟨B o,[],[]⟩:=by
 refine Fn.go M0 Tryz.func263 fun P hP Q hQ=>?_
 conv=>cbv
 generalize aa:C8 v n=r1
 have zr1:=Mh aa
 refine .dd hP (Xbo aa) ?_
 conv=>cbv
 refine .neq (fun h2=>?_) fun h2=>?_
 conv=>cbv
 generalize ab:Gh b p r1=r3
 refine .dd hP (XdH (by omega) ab) ?_
 cases r3
 conv=>cbv
 have e:false=Em v n b p:=(by unfold Em;rw[aa];simp[show r1≠tx []from h2,ab])
 rw[hr]at e
 subst e
 exact hQ _ _ (.b rfl rfl)
 conv=>cbv
 have e:true=Em v n b p:=(by unfold Em;rw[aa];simp[show r1≠tx []from h2,ab])
 rw[hr]at e
 subst e
 exact hQ _ _ (.b rfl rfl)
 conv=>cbv
 have e:false=Em v n b p:=(by unfold Em;rw[aa];simp[show r1=tx []from h2])
 rw[hr]at e
 subst e
 exact hQ _ _ (.b rfl rfl)
theorem Xi3(hs:b.size<2^47)(hp: -140737488355328≤p∧p<140737488355328)(hr:Em v n b p=o):Fn Tryz.prog 257 [I v,I n,S b,I p] [] ⟨B o,[],[]⟩:=by
 refine Fn.go M0 Tryz.func257 fun P hP Q hQ=>?_
 conv=>cbv
 generalize aa:C8 v n=r1
 have zr1:=Mh aa
 refine .dd hP (Xbf aa) ?_
 conv=>cbv
 refine .neq (fun h2=>?_) fun h2=>?_
 conv=>cbv
 refine .go fun v3 ad=>?_
 conv=>cbv
 refine .go fun v4 ae=>?_
 conv=>cbv
 refine .sub fun v5 af=>?_
 conv=>cbv
 generalize ab:Bh p 0 v5=r6
 refine .dd hP (Do ab) ?_
 cases r6
 simp only[Bh,decide_eq_true_eq,decide_eq_false_iff_not]at ab
 conv=>cbv
 have e:false=Em v n b p:=(by unfold Em Gh;rw[aa];symm;simp;omega)
 rw[hr]at e
 subst e
 exact hQ _ _ (.b rfl rfl)
 simp only[Bh,decide_eq_true_eq,decide_eq_false_iff_not]at ab
 conv=>cbv
 refine .go fun v7 ag=>?_
 conv=>cbv
 refine .add fun v8 ah=>?_
 conv=>cbv
 refine .lohi fun s9 ac=>?_
 conv=>cbv
 refine .eql (fun h10=>?_) fun h10=>?_
 conv=>cbv
 have e:true=Em v n b p:=(by unfold Em Gh;rw[aa,ac,show v8.toNat=p.toNat+r1.size by omega]at*;symm;simp[h10,show r1≠tx []from h2];omega)
 rw[hr]at e
 subst e
 exact hQ _ _ (.b rfl rfl)
 conv=>cbv
 have e:false=Em v n b p:=(by unfold Em Gh;rw[aa];rw[ac,show v8.toNat=p.toNat+r1.size by omega]at h10;symm;simp[h10])
 rw[hr]at e
 subst e
 exact hQ _ _ (.b rfl rfl)
 conv=>cbv
 have e:false=Em v n b p:=(by unfold Em;rw[aa];simp[show r1=tx []from h2])
 rw[hr]at e
 subst e
 exact hQ _ _ (.b rfl rfl)
theorem Xq(hs:b.size<2^47)(hr:Cm b=(⟨oaver,oastr,oabas,oalin⟩,ob)):Fn Tryz.prog 262 [S b] [] ⟨.tup [.agg [I oaver,I oastr,I oabas,I oalin],B ob],[],[]⟩:=by
 refine Fn.go M0 Tryz.func262 fun P hP Q hQ=>?_
 conv=>cbv
 refine .go fun v1 al=>?_
 conv=>cbv
 refine .lss (fun h2=>?_) fun h2=>?_
 conv=>cbv
 have e:((⟨0,0,0,0⟩:Ca),false)=Cm b:=(by unfold Cm;rw[if_neg (by omega)])
 rw[hr]at e
 simp only[Prod.mk.injEq,Ca.mk.injEq]at e
 obtain⟨⟨rfl,rfl,rfl,rfl⟩,rfl⟩:=e
 refine hQ _ _ ?_
 exact .many (.inl rfl) rfl rfl (.agg (.d rfl rfl (.d rfl rfl (.d rfl rfl (.d rfl rfl (.nil))))) (.d rfl rfl (.nil)))
 conv=>cbv
 rcases aa:Cd b 8 8 with⟨ae,ag⟩
 refine .dd hP (U7 (by omega) aa) ?_
 conv=>cbv
 rcases ab:Cd b 16 4 with⟨af,am⟩
 refine .dd hP (U7 (by omega) ab) ?_
 conv=>cbv
 refine .go 4 fun hjv5 v5 ah bv5=>?_
 conv=>cbv
 refine .id fun v6 ai=>?_
 conv=>cbv
 refine .go 5 fun hjv7 v7 aj bv7=>?_
 conv=>cbv
 refine .id fun v8 ak=>?_
 conv=>cbv
 cases ag
 conv=>cbv
 have e:((⟨0,0,0,0⟩:Ca),false)=Cm b:=(by unfold Cm;rw[aa,ab,if_neg];simp)
 rw[hr]at e
 simp only[Prod.mk.injEq,Ca.mk.injEq]at e
 obtain⟨⟨rfl,rfl,rfl,rfl⟩,rfl⟩:=e
 refine hQ _ _ ?_
 exact .many (.inl rfl) rfl rfl (.agg (.d rfl rfl (.d rfl rfl (.d rfl rfl (.d rfl rfl (.nil))))) (.d rfl rfl (.nil)))
 conv=>cbv
 have e4:v6=bAt b 4:=by rw[ai,ah,Xfp]
 have e5:v8=bAt b 5:=by rw[ak,aj,Xfp]
 generalize ac:Cf (⟨v6,v8,ae,af⟩:Ca)=r9
 have zr9:=Km ac
 refine .dd hP (Yl ac) ?_
 conv=>cbv
 refine .hi fun an ad=>?_
 conv=>cbv
 refine .neq (fun h11=>?_) fun h11=>?_
 conv=>cbv
 have e:((⟨0,0,0,0⟩:Ca),false)=Cm b:=(by unfold Cm;rw[aa,ab,if_neg];rintro⟨_,_,h⟩;refine h11 ?_;rw[←ac,ad,e4,e5];exact h)
 rw[hr]at e
 simp only[Prod.mk.injEq,Ca.mk.injEq]at e
 obtain⟨⟨rfl,rfl,rfl,rfl⟩,rfl⟩:=e
 refine hQ _ _ ?_
 exact .many (.inl rfl) rfl rfl (.agg (.d rfl rfl (.d rfl rfl (.d rfl rfl (.d rfl rfl (.nil))))) (.d rfl rfl (.nil)))
 conv=>cbv
 have e:((⟨v6,v8,ae,af⟩:Ca),true)=Cm b:=(by unfold Cm;rw[aa,ab,←e4,←e5,if_pos];refine⟨by omega,rfl,?_⟩;rw[ac,h11,ad];rfl)
 rw[hr]at e
 simp only[Prod.mk.injEq,Ca.mk.injEq]at e
 obtain⟨⟨rfl,rfl,rfl,rfl⟩,rfl⟩:=e
 refine hQ _ _ ?_
 exact .many (.inl rfl) rfl rfl (.agg (.d rfl rfl (.d rfl rfl (.d rfl rfl (.d rfl rfl (.nil))))) (.d rfl rfl (.nil)))
theorem Xi(hs:b.size<2^47)(hr:Cm b=(⟨oaver,oastr,oabas,oalin⟩,ob)):Fn Tryz.prog 100 [S b] [] ⟨.tup [.agg [I oaver,I oastr,I oabas,I oalin],B ob],[],[]⟩:=by
 refine Fn.go M0 Tryz.func100 fun P hP Q hQ=>?_
 conv=>cbv
 refine .go fun v1 al=>?_
 conv=>cbv
 refine .lss (fun h2=>?_) fun h2=>?_
 conv=>cbv
 have e:((⟨0,0,0,0⟩:Ca),false)=Cm b:=(by unfold Cm;rw[if_neg (by omega)])
 rw[hr]at e
 simp only[Prod.mk.injEq,Ca.mk.injEq]at e
 obtain⟨⟨rfl,rfl,rfl,rfl⟩,rfl⟩:=e
 refine hQ _ _ ?_
 exact .many (.inl rfl) rfl rfl (.agg (.d rfl rfl (.d rfl rfl (.d rfl rfl (.d rfl rfl (.nil))))) (.d rfl rfl (.nil)))
 conv=>cbv
 rcases aa:Cd b 8 8 with⟨ae,ag⟩
 refine .dd hP (U4 (by omega) aa) ?_
 conv=>cbv
 rcases ab:Cd b 16 4 with⟨af,am⟩
 refine .dd hP (U4 (by omega) ab) ?_
 conv=>cbv
 refine .go 4 fun hjv5 v5 ah bv5=>?_
 conv=>cbv
 refine .id fun v6 ai=>?_
 conv=>cbv
 refine .go 5 fun hjv7 v7 aj bv7=>?_
 conv=>cbv
 refine .id fun v8 ak=>?_
 conv=>cbv
 cases ag
 conv=>cbv
 have e:((⟨0,0,0,0⟩:Ca),false)=Cm b:=(by unfold Cm;rw[aa,ab,if_neg];simp)
 rw[hr]at e
 simp only[Prod.mk.injEq,Ca.mk.injEq]at e
 obtain⟨⟨rfl,rfl,rfl,rfl⟩,rfl⟩:=e
 refine hQ _ _ ?_
 exact .many (.inl rfl) rfl rfl (.agg (.d rfl rfl (.d rfl rfl (.d rfl rfl (.d rfl rfl (.nil))))) (.d rfl rfl (.nil)))
 conv=>cbv
 have e4:v6=bAt b 4:=by rw[ai,ah,Xfp]
 have e5:v8=bAt b 5:=by rw[ak,aj,Xfp]
 generalize ac:Cf (⟨v6,v8,ae,af⟩:Ca)=r9
 have zr9:=Km ac
 refine .dd hP (Xg ac) ?_
 conv=>cbv
 refine .hi fun an ad=>?_
 conv=>cbv
 refine .neq (fun h11=>?_) fun h11=>?_
 conv=>cbv
 have e:((⟨0,0,0,0⟩:Ca),false)=Cm b:=(by unfold Cm;rw[aa,ab,if_neg];rintro⟨_,_,h⟩;refine h11 ?_;rw[←ac,ad,e4,e5];exact h)
 rw[hr]at e
 simp only[Prod.mk.injEq,Ca.mk.injEq]at e
 obtain⟨⟨rfl,rfl,rfl,rfl⟩,rfl⟩:=e
 refine hQ _ _ ?_
 exact .many (.inl rfl) rfl rfl (.agg (.d rfl rfl (.d rfl rfl (.d rfl rfl (.d rfl rfl (.nil))))) (.d rfl rfl (.nil)))
 conv=>cbv
 have e:((⟨v6,v8,ae,af⟩:Ca),true)=Cm b:=(by unfold Cm;rw[aa,ab,←e4,←e5,if_pos];refine⟨by omega,rfl,?_⟩;rw[ac,h11,ad];rfl)
 rw[hr]at e
 simp only[Prod.mk.injEq,Ca.mk.injEq]at e
 obtain⟨⟨rfl,rfl,rfl,rfl⟩,rfl⟩:=e
 refine hQ _ _ ?_
 exact .many (.inl rfl) rfl rfl (.agg (.d rfl rfl (.d rfl rfl (.d rfl rfl (.d rfl rfl (.nil))))) (.d rfl rfl (.nil)))
theorem Xdw{ob:Int}(hs:b.size<2^47)(hp: -140737488355328≤p∧p<140737488355328)(hr:Bf v n b p=(oa,ob,oc)):Fn Tryz.prog 264 [I v,I n,S b,I p] [] ⟨.tup [S oa,I ob,B oc],[],[]⟩:=by
 refine Fn.go M0 Tryz.func264 fun P hP Q hQ=>?_
 conv=>cbv
 refine .eql (fun h1=>?_) fun h1=>?_
 conv=>cbv
 rcases aa:Cd b p 4 with⟨al,ag⟩
 refine .dd hP (U7 (by omega) aa) ?_
 conv=>cbv
 refine .add fun v3 au=>?_
 conv=>cbv
 cases ag
 conv=>cbv
 have e:((tx []),0,false)=Bf v n b p:=(by rw[Kn h1 aa];rfl)
 rw[hr]at e
 simp only[Prod.mk.injEq]at e
 obtain⟨rfl,rfl,rfl⟩:=e
 refine hQ _ _ ?_
 exact .many (.inl rfl) rfl rfl (.d rfl rfl (.d rfl rfl (.d rfl rfl (.nil))))
 conv=>cbv
 have zz:=Ms aa
 refine .gtr (fun h4=>?_) fun h4=>?_
 conv=>cbv
 have e:((tx []),0,false)=Bf v n b p:=(by rw[Kn h1 aa];rw[if_pos rfl];exact Lp (by omega))
 rw[hr]at e
 simp only[Prod.mk.injEq]at e
 obtain⟨rfl,rfl,rfl⟩:=e
 refine hQ _ _ ?_
 exact .many (.inl rfl) rfl rfl (.d rfl rfl (.d rfl rfl (.d rfl rfl (.nil))))
 conv=>cbv
 refine .go fun v5 a8=>?_
 conv=>cbv
 refine .gtr (fun h6=>?_) fun h6=>?_
 conv=>cbv
 have e:((tx []),0,false)=Bf v n b p:=(by rw[Kn h1 aa];rw[if_pos rfl];exact Lp (by omega))
 rw[hr]at e
 simp only[Prod.mk.injEq]at e
 obtain⟨rfl,rfl,rfl⟩:=e
 refine hQ _ _ ?_
 exact .many (.inl rfl) rfl rfl (.d rfl rfl (.d rfl rfl (.d rfl rfl (.nil))))
 conv=>cbv
 refine .go fun v7 aw=>?_
 conv=>cbv
 refine .sub fun v8 ba=>?_
 conv=>cbv
 refine .gtr (fun h9=>?_) fun h9=>?_
 conv=>cbv
 have e:((tx []),0,false)=Bf v n b p:=(by rw[Kn h1 aa];rw[if_pos rfl];exact Lp (by omega))
 rw[hr]at e
 simp only[Prod.mk.injEq]at e
 obtain⟨rfl,rfl,rfl⟩:=e
 refine hQ _ _ ?_
 exact .many (.inl rfl) rfl rfl (.d rfl rfl (.d rfl rfl (.d rfl rfl (.nil))))
 conv=>cbv
 refine .add fun bb ao=>?_
 conv=>cbv
 refine .lohi fun ah aj=>?_
 conv=>cbv
 have bc:ah.size≤b.size:=by rw[aj,ByteArray.size_extract];omega
 have am:ah=b.extract (p+8).toNat (p+8+al).toNat:=by rw[aj,ao,au]
 generalize ab:A2 v n ah=ax
 have zr12:=Fv ab
 refine .dd hP (Qs (by omega) ab) ?_
 conv=>cbv
 refine .eql (fun h13=>?_) fun h13=>?_
 conv=>cbv
 have e:((tx []),0,false)=Bf v n b p:=(by rw[Kn h1 aa];rw[if_pos rfl];rw[am]at ab;exact W4 ab (.inl h13))
 rw[hr]at e
 simp only[Prod.mk.injEq]at e
 obtain⟨rfl,rfl,rfl⟩:=e
 refine hQ _ _ ?_
 exact .many (.inl rfl) rfl rfl (.d rfl rfl (.d rfl rfl (.d rfl rfl (.nil))))
 conv=>cbv
 generalize ad:Gh b p ax=ay
 refine .dd hP (XdH (by omega) ad) ?_
 cases ay
 conv=>cbv
 have e:((tx []),0,false)=Bf v n b p:=(by rw[Kn h1 aa];rw[if_pos rfl];rw[am]at ab;exact W4 ab (.inr ad))
 rw[hr]at e
 simp only[Prod.mk.injEq]at e
 obtain⟨rfl,rfl,rfl⟩:=e
 refine hQ _ _ ?_
 exact .many (.inl rfl) rfl rfl (.d rfl rfl (.d rfl rfl (.d rfl rfl (.nil))))
 conv=>cbv
 refine .go fun ap ae=>?_
 conv=>cbv
 refine .add fun az aq=>?_
 conv=>cbv
 have e:(ah,az,true)=Bf v n b p:=(by rw[Kn h1 aa];rw[if_pos rfl];rw[am]at ab⊢;rw[aq,ae];exact XeN (by omega) ab h13 ad)
 rw[hr]at e
 simp only[Prod.mk.injEq]at e
 obtain⟨rfl,rfl,rfl⟩:=e
 refine hQ _ _ ?_
 exact .many (.inl rfl) rfl rfl (.d rfl rfl (.d rfl rfl (.d rfl rfl (.nil))))
 conv=>cbv
 rcases aa:Da b p with⟨al,ag,a1⟩
 refine .dd hP (Xie (by omega) aa) ?_
 conv=>cbv
 cases a1
 conv=>cbv
 have e:((tx []),0,false)=Bf v n b p:=(by rw[Ks h1 aa];rfl)
 rw[hr]at e
 simp only[Prod.mk.injEq]at e
 obtain⟨rfl,rfl,rfl⟩:=e
 refine hQ _ _ ?_
 exact .many (.inl rfl) rfl rfl (.d rfl rfl (.d rfl rfl (.d rfl rfl (.nil))))
 conv=>cbv
 have zz:=Nd aa
 refine .gtr (fun h3=>?_) fun h3=>?_
 conv=>cbv
 have e:((tx []),0,false)=Bf v n b p:=(by rw[Ks h1 aa];rw[if_pos rfl];exact Lp (by omega))
 rw[hr]at e
 simp only[Prod.mk.injEq]at e
 obtain⟨rfl,rfl,rfl⟩:=e
 refine hQ _ _ ?_
 exact .many (.inl rfl) rfl rfl (.d rfl rfl (.d rfl rfl (.d rfl rfl (.nil))))
 conv=>cbv
 refine .go fun v4 bd=>?_
 conv=>cbv
 refine .gtr (fun h5=>?_) fun h5=>?_
 conv=>cbv
 have e:((tx []),0,false)=Bf v n b p:=(by rw[Ks h1 aa];rw[if_pos rfl];exact Lp (by omega))
 rw[hr]at e
 simp only[Prod.mk.injEq]at e
 obtain⟨rfl,rfl,rfl⟩:=e
 refine hQ _ _ ?_
 exact .many (.inl rfl) rfl rfl (.d rfl rfl (.d rfl rfl (.d rfl rfl (.nil))))
 conv=>cbv
 refine .go fun v6 be=>?_
 conv=>cbv
 refine .sub fun v7 aw=>?_
 conv=>cbv
 refine .gtr (fun h8=>?_) fun h8=>?_
 conv=>cbv
 have e:((tx []),0,false)=Bf v n b p:=(by rw[Ks h1 aa];rw[if_pos rfl];exact Lp (by omega))
 rw[hr]at e
 simp only[Prod.mk.injEq]at e
 obtain⟨rfl,rfl,rfl⟩:=e
 refine hQ _ _ ?_
 exact .many (.inl rfl) rfl rfl (.d rfl rfl (.d rfl rfl (.d rfl rfl (.nil))))
 conv=>cbv
 refine .add fun v9 a2=>?_
 conv=>cbv
 refine .lohi fun ai ak=>?_
 conv=>cbv
 have bf:ai.size≤b.size:=by rw[ak,ByteArray.size_extract];omega
 have an:ai=b.extract ag.toNat (ag+al).toNat:=by rw[ak,a2]
 generalize ac:A2 v n ai=a6
 have zr11:=Fv ac
 refine .dd hP (Qs (by omega) ac) ?_
 conv=>cbv
 refine .eql (fun h12=>?_) fun h12=>?_
 conv=>cbv
 have e:((tx []),0,false)=Bf v n b p:=(by rw[Ks h1 aa];rw[if_pos rfl];rw[an]at ac;exact W4 ac (.inl h12))
 rw[hr]at e
 simp only[Prod.mk.injEq]at e
 obtain⟨rfl,rfl,rfl⟩:=e
 refine hQ _ _ ?_
 exact .many (.inl rfl) rfl rfl (.d rfl rfl (.d rfl rfl (.d rfl rfl (.nil))))
 conv=>cbv
 generalize af:Gh b p a6=a7
 refine .dd hP (XdH (by omega) af) ?_
 cases a7
 conv=>cbv
 have e:((tx []),0,false)=Bf v n b p:=(by rw[Ks h1 aa];rw[if_pos rfl];rw[an]at ac;exact W4 ac (.inr af))
 rw[hr]at e
 simp only[Prod.mk.injEq]at e
 obtain⟨rfl,rfl,rfl⟩:=e
 refine hQ _ _ ?_
 exact .many (.inl rfl) rfl rfl (.d rfl rfl (.d rfl rfl (.d rfl rfl (.nil))))
 conv=>cbv
 refine .go fun bg ar=>?_
 conv=>cbv
 refine .add fun ap ae=>?_
 conv=>cbv
 have e:(ai,ap,true)=Bf v n b p:=(by rw[Ks h1 aa];rw[if_pos rfl];rw[an]at ac⊢;rw[ae,ar];exact XeN (by omega) ac h12 af)
 rw[hr]at e
 simp only[Prod.mk.injEq]at e
 obtain⟨rfl,rfl,rfl⟩:=e
 refine hQ _ _ ?_
 exact .many (.inl rfl) rfl rfl (.d rfl rfl (.d rfl rfl (.d rfl rfl (.nil))))
theorem Xc3{b t:ByteArray}{p:Int}(hp:0≤p)(h:(b.size:Int) - p<t.size):Gh b p t=false:=by
 unfold Gh
 rw[decide_eq_false_iff_not]
 omega
theorem R4{b t:ByteArray}{p q:Int}(hp:0≤p)(h:(t.size:Int)≤b.size - p)(hq:q=p+t.size):Gh b p t=true↔b.extract p.toNat q.toNat=t:=by
 unfold Gh
 rw[decide_eq_true_eq,show q.toNat=p.toNat+t.size by omega]
 exact⟨fun hh=>hh.2,fun hh=>⟨by omega,hh⟩⟩
theorem Xdi{ob:Int}(hs:b.size<2^47)(hp: -140737488355328≤p∧p<140737488355328)(hr:Bf v n b p=(oa,ob,oc)):Fn Tryz.prog 258 [I v,I n,S b,I p] [] ⟨.tup [S oa,I ob,B oc],[],[]⟩:=by
 refine Fn.go M0 Tryz.func258 fun P hP Q hQ=>?_
 conv=>cbv
 generalize al:Bh v 1 2=r1
 refine .dd hP (Do al) ?_
 cases r1
 simp only[Bh,decide_eq_true_eq,decide_eq_false_iff_not]at al
 conv=>cbv
 have e:((tx []),0,false)=Bf v n b p:=(by exact Xkx (by omega))
 rw[hr]at e
 simp only[Prod.mk.injEq]at e
 obtain⟨rfl,rfl,rfl⟩:=e
 refine hQ _ _ ?_
 exact .many (.inl rfl) rfl rfl (.d rfl rfl (.d rfl rfl (.d rfl rfl (.nil))))
 simp only[Bh,decide_eq_true_eq,decide_eq_false_iff_not]at al
 conv=>cbv
 generalize am:Bh n 0 1000000000=r2
 refine .dd hP (Do am) ?_
 cases r2
 simp only[Bh,decide_eq_true_eq,decide_eq_false_iff_not]at am
 conv=>cbv
 have e:((tx []),0,false)=Bf v n b p:=(by exact Xkx (by omega))
 rw[hr]at e
 simp only[Prod.mk.injEq]at e
 obtain⟨rfl,rfl,rfl⟩:=e
 refine hQ _ _ ?_
 exact .many (.inl rfl) rfl rfl (.d rfl rfl (.d rfl rfl (.d rfl rfl (.nil))))
 simp only[Bh,decide_eq_true_eq,decide_eq_false_iff_not]at am
 conv=>cbv
 refine .go fun v3 bp=>?_
 conv=>cbv
 generalize an:Bh p 0 v3=r4
 refine .dd hP (Do an) ?_
 cases r4
 simp only[Bh,decide_eq_true_eq,decide_eq_false_iff_not]at an
 conv=>cbv
 have e:((tx []),0,false)=Bf v n b p:=(by exact Xmm (by omega))
 rw[hr]at e
 simp only[Prod.mk.injEq]at e
 obtain⟨rfl,rfl,rfl⟩:=e
 refine hQ _ _ ?_
 exact .many (.inl rfl) rfl rfl (.d rfl rfl (.d rfl rfl (.d rfl rfl (.nil))))
 simp only[Bh,decide_eq_true_eq,decide_eq_false_iff_not]at an
 conv=>cbv
 rcases ac:Da b p with⟨a8,aq,ba⟩
 refine .dd hP (Xhb (by omega) ac) ?_
 conv=>cbv
 refine .eql (fun h6=>?_) fun h6=>?_
 conv=>cbv
 rcases ad:Cd b p 4 with⟨bb,bc⟩
 refine .dd hP (U4 (by omega) ad) ?_
 conv=>cbv
 refine .add fun v8 ar=>?_
 conv=>cbv
 cases bc
 conv=>cbv
 have e:((tx []),0,false)=Bf v n b p:=(by rw[Kn h6 ad];rfl)
 rw[hr]at e
 simp only[Prod.mk.injEq]at e
 obtain⟨rfl,rfl,rfl⟩:=e
 refine hQ _ _ ?_
 exact .many (.inl rfl) rfl rfl (.d rfl rfl (.d rfl rfl (.d rfl rfl (.nil))))
 conv=>cbv
 have zz:=Ms ad
 refine .gtr (fun h9=>?_) fun h9=>?_
 conv=>cbv
 have e:((tx []),0,false)=Bf v n b p:=(by rw[Kn h6 ad];rw[if_pos rfl];exact Lp (by omega))
 rw[hr]at e
 simp only[Prod.mk.injEq]at e
 obtain⟨rfl,rfl,rfl⟩:=e
 refine hQ _ _ ?_
 exact .many (.inl rfl) rfl rfl (.d rfl rfl (.d rfl rfl (.d rfl rfl (.nil))))
 conv=>cbv
 refine .go fun bq bi=>?_
 conv=>cbv
 refine .sub fun bd ai=>?_
 conv=>cbv
 refine .gtr (fun h12=>?_) fun h12=>?_
 conv=>cbv
 have e:((tx []),0,false)=Bf v n b p:=(by rw[Kn h6 ad];rw[if_pos rfl];exact Lp (by omega))
 rw[hr]at e
 simp only[Prod.mk.injEq]at e
 obtain⟨rfl,rfl,rfl⟩:=e
 refine hQ _ _ ?_
 exact .many (.inl rfl) rfl rfl (.d rfl rfl (.d rfl rfl (.d rfl rfl (.nil))))
 conv=>cbv
 refine .add fun bt au=>?_
 conv=>cbv
 refine .lohi fun ae ag=>?_
 conv=>cbv
 have bu:ae.size≤b.size:=by rw[ag,ByteArray.size_extract];omega
 have y14:ae.size≤60:=by rw[ag,ByteArray.size_extract];omega
 have ao:ae=b.extract (p+8).toNat (p+8+bb).toNat:=by rw[ag,au,ar]
 have ne:=Qz (v:=v) (n:=n) (r:=ae) (by omega) (by omega) y14
 generalize aa:A2 v n ae=bv
 have zr15:=Fv aa
 refine .dd hP (Qq (by omega) aa) ?_
 conv=>cbv
 refine .go fun be aw=>?_
 conv=>cbv
 refine .go fun bw bj=>?_
 conv=>cbv
 refine .sub fun bf ax=>?_
 conv=>cbv
 refine .gtr (fun h19=>?_) fun h19=>?_
 conv=>cbv
 have e:((tx []),0,false)=Bf v n b p:=(by rw[Kn h6 ad];rw[if_pos rfl];rw[ao]at aa;exact W4 aa (.inr (Xc3 (by omega) (by omega))))
 rw[hr]at e
 simp only[Prod.mk.injEq]at e
 obtain⟨rfl,rfl,rfl⟩:=e
 refine hQ _ _ ?_
 exact .many (.inl rfl) rfl rfl (.d rfl rfl (.d rfl rfl (.d rfl rfl (.nil))))
 conv=>cbv
 refine .go fun bz bk=>?_
 conv=>cbv
 refine .add fun ay bl=>?_
 conv=>cbv
 refine .lohi fun b0 aj=>?_
 conv=>cbv
 refine .neq (fun h23=>?_) fun h23=>?_
 conv=>cbv
 have e:((tx []),0,false)=Bf v n b p:=(by rw[Kn h6 ad];rw[if_pos rfl];rw[ao]at aa;refine W4 aa (.inr ?_);rw[←Bool.not_eq_true,R4 (q:=ay) (by omega) (by omega) (by omega),←aj];exact h23)
 rw[hr]at e
 simp only[Prod.mk.injEq]at e
 obtain⟨rfl,rfl,rfl⟩:=e
 refine hQ _ _ ?_
 exact .many (.inl rfl) rfl rfl (.d rfl rfl (.d rfl rfl (.d rfl rfl (.nil))))
 conv=>cbv
 refine .go fun b2 az=>?_
 conv=>cbv
 refine .add fun bg a1=>?_
 conv=>cbv
 have e:(ae,bg,true)=Bf v n b p:=(by rw[Kn h6 ad];rw[if_pos rfl];rw[aa]at ne;rw[ao]at aa⊢;rw[a1,az];exact XeN (by omega) aa ne ((R4 (q:=ay) (by omega) (by omega) (by omega)).2 (aj▸h23)))
 rw[hr]at e
 simp only[Prod.mk.injEq]at e
 obtain⟨rfl,rfl,rfl⟩:=e
 refine hQ _ _ ?_
 exact .many (.inl rfl) rfl rfl (.d rfl rfl (.d rfl rfl (.d rfl rfl (.nil))))
 conv=>cbv
 cases ba
 conv=>cbv
 have e:((tx []),0,false)=Bf v n b p:=(by rw[Ks (by omega) ac];rfl)
 rw[hr]at e
 simp only[Prod.mk.injEq]at e
 obtain⟨rfl,rfl,rfl⟩:=e
 refine hQ _ _ ?_
 exact .many (.inl rfl) rfl rfl (.d rfl rfl (.d rfl rfl (.d rfl rfl (.nil))))
 conv=>cbv
 have zz:=Nd ac
 refine .gtr (fun h7=>?_) fun h7=>?_
 conv=>cbv
 have e:((tx []),0,false)=Bf v n b p:=(by rw[Ks (by omega) ac];rw[if_pos rfl];exact Lp (by omega))
 rw[hr]at e
 simp only[Prod.mk.injEq]at e
 obtain⟨rfl,rfl,rfl⟩:=e
 refine hQ _ _ ?_
 exact .many (.inl rfl) rfl rfl (.d rfl rfl (.d rfl rfl (.d rfl rfl (.nil))))
 conv=>cbv
 refine .go fun v8 ar=>?_
 conv=>cbv
 refine .sub fun v9 b3=>?_
 conv=>cbv
 refine .gtr (fun h10=>?_) fun h10=>?_
 conv=>cbv
 have e:((tx []),0,false)=Bf v n b p:=(by rw[Ks (by omega) ac];rw[if_pos rfl];exact Lp (by omega))
 rw[hr]at e
 simp only[Prod.mk.injEq]at e
 obtain⟨rfl,rfl,rfl⟩:=e
 refine hQ _ _ ?_
 exact .many (.inl rfl) rfl rfl (.d rfl rfl (.d rfl rfl (.d rfl rfl (.nil))))
 conv=>cbv
 refine .add fun bd ai=>?_
 conv=>cbv
 refine .lohi fun af ah=>?_
 conv=>cbv
 have b4:af.size≤b.size:=by rw[ah,ByteArray.size_extract];omega
 have y12:af.size≤60:=by rw[ah,ByteArray.size_extract];omega
 have ap:af=b.extract aq.toNat (aq+a8).toNat:=by rw[ah,ai]
 have ne:=Qz (v:=v) (n:=n) (r:=af) (by omega) (by omega) y12
 generalize ab:A2 v n af=b5
 have zr13:=Fv ab
 refine .dd hP (Qq (by omega) ab) ?_
 conv=>cbv
 refine .go fun b6 bm=>?_
 conv=>cbv
 refine .go fun b7 bn=>?_
 conv=>cbv
 refine .sub fun be aw=>?_
 conv=>cbv
 refine .gtr (fun h17=>?_) fun h17=>?_
 conv=>cbv
 have e:((tx []),0,false)=Bf v n b p:=(by rw[Ks (by omega) ac];rw[if_pos rfl];rw[ap]at ab;exact W4 ab (.inr (Xc3 (by omega) (by omega))))
 rw[hr]at e
 simp only[Prod.mk.injEq]at e
 obtain⟨rfl,rfl,rfl⟩:=e
 refine hQ _ _ ?_
 exact .many (.inl rfl) rfl rfl (.d rfl rfl (.d rfl rfl (.d rfl rfl (.nil))))
 conv=>cbv
 refine .go fun bf ax=>?_
 conv=>cbv
 refine .add fun a2 bo=>?_
 conv=>cbv
 refine .lohi fun b8 ak=>?_
 conv=>cbv
 refine .neq (fun h21=>?_) fun h21=>?_
 conv=>cbv
 have e:((tx []),0,false)=Bf v n b p:=(by rw[Ks (by omega) ac];rw[if_pos rfl];rw[ap]at ab;refine W4 ab (.inr ?_);rw[←Bool.not_eq_true,R4 (q:=a2) (by omega) (by omega) (by omega),←ak];exact h21)
 rw[hr]at e
 simp only[Prod.mk.injEq]at e
 obtain⟨rfl,rfl,rfl⟩:=e
 refine hQ _ _ ?_
 exact .many (.inl rfl) rfl rfl (.d rfl rfl (.d rfl rfl (.d rfl rfl (.nil))))
 conv=>cbv
 refine .go fun b9 a6=>?_
 conv=>cbv
 refine .add fun bh a7=>?_
 conv=>cbv
 have e:(af,bh,true)=Bf v n b p:=(by rw[Ks (by omega) ac];rw[if_pos rfl];rw[ab]at ne;rw[ap]at ab⊢;rw[a7,a6];exact XeN (by omega) ab ne ((R4 (q:=a2) (by omega) (by omega) (by omega)).2 (ak▸h21)))
 rw[hr]at e
 simp only[Prod.mk.injEq]at e
 obtain⟨rfl,rfl,rfl⟩:=e
 refine hQ _ _ ?_
 exact .many (.inl rfl) rfl rfl (.d rfl rfl (.d rfl rfl (.d rfl rfl (.nil))))
end
section
open Go Go.Proofs
set_option maxRecDepth 20000
set_option maxHeartbeats 4000000
def Xfy:List (Nat×TyRow):=[ty3,ty4,ty9,Xcn,XgK,Xdg,XkQ]
theorem Xc9:B9 Tryz.prog Xfy:=B9.of (by kernel_rfl)
theorem XaD:Setup Tryz.prog Xfy:=⟨Xc9,mixed⟩
def Ir(h:Ca)(b:ByteArray)(n:Nat)(p:Int):List ByteArray×List Int×Int×Bool:=
 if Em h.version_ (h.base_+n) b p=true then([],[],p,true)
 else match Bf h.version_ (h.base_+n) b p with
  |(r,q,true)=>if p<q∧q≤b.size then(r::(Ir h b (n+1) q).1,p::(Ir h b (n+1) q).2.1,(Ir h b (n+1) q).2.2)else([],[],p,false)
  |_=>([],[],p,false)
termination_by (b.size - p).toNat
decreasing_by all_goals omega
def Bs(b:ByteArray):Qf:=match Cm b with
 |(h,true)=>⟨true,h,(Ir h b 0 24).1,(Ir h b 0 24).2.1,(Ir h b 0 24).2.2.1,(Ir h b 0 24).2.2.2⟩
 |_=>⟨false,⟨0,0,0,0⟩,[],[],0,false⟩
theorem W7{v n:Int}{r t:ByteArray}(e:A2 v n r=t)(h:t≠tx []):5≤t.size:=by
 unfold A2 at e
 split at e
 ·rename_i hh
  have h4:=Uv _ (Wv r)
  have h1:1≤(if v=2 then Ny n r.size else C1 r.size).size:=by
   split
   ·unfold Ny
    rw[ByteArray.size_append,Uv _ (by omega)]
    omega
   ·unfold C1
    rw[if_pos (by omega),Bz]
    exact List.length_pos_iff.2 (Xde _)
  rw[←e,ByteArray.size_append,ByteArray.size_append]
  omega
 ·exact absurd e.symm h
theorem H0{v n p q:Int}{b r:ByteArray}(h:Bf v n b p=(r,q,true)):0≤p∧p+5≤q∧q≤b.size∧r.size≤60∧(v=1∨v=2)∧0≤n∧n≤1000000000∧q=p+(A2 v n r).size∧Gh b p (A2 v n r)=true:=by
 have key:∀{x s:Int},0≤s→0≤x→H9 v n b p x s=(r,q,true)→0≤p∧p+5≤q∧q≤b.size∧r.size≤60∧(v=1∨v=2)∧0≤n∧n≤1000000000∧q=p+(A2 v n r).size∧Gh b p (A2 v n r)=true:=by
  intro x s hs hx e
  unfold H9 at e
  split at e
  ·rename_i hh
   obtain⟨h1,h2,h3,h4⟩:=hh
   simp only[Prod.mk.injEq,and_true]at e
   obtain⟨rfl,rfl⟩:=e
   have h5:=W7 rfl h3
   have h6:=of_decide_eq_true h4
   have h7:(b.extract s.toNat (s+x).toNat).size=x.toNat:=by rw[Uc (by omega) (by omega)];omega
   have h8:(v=1∨v=2)∧0≤n∧n≤1000000000:=by
    by_cases hh:(v=1∨v=2)∧0≤n∧n≤1000000000
    ·exact hh
    ·exact absurd (Kv hh) h3
   exact⟨h6.1.1,by omega,by omega,by omega,h8.1,h8.2.1,h8.2.2,rfl,h4⟩
  ·simp at e
 rcases h1:Cd b p 4 with⟨x,ok⟩
 rcases h2:Da b p with⟨y,s,ok2⟩
 by_cases hv:v=2
 ·rw[Kn hv h1]at h
  cases ok
  ·simp at h
  ·have:=Ms h1
   exact key (by omega) (by omega) h
 ·rw[Ks hv h2]at h
  cases ok2
  ·simp at h
  ·have:=Nd h2
   exact key (by omega) (by omega) h
theorem Pf{h:Ca}{b:ByteArray}{n:Nat}{p:Int}(hm:Em h.version_ (h.base_+n) b p=true):Ir h b n p=([],[],p,true):=by rw[Ir,if_pos hm]
theorem Pl{h:Ca}{b:ByteArray}{n:Nat}{p:Int}{r:ByteArray}{q:Int}(hm:Em h.version_ (h.base_+n) b p=false)(hf:Bf h.version_ (h.base_+n) b p=(r,q,false)):Ir h b n p=([],[],p,false):=by rw[Ir,if_neg (by rw[hm];simp),hf]
theorem Pc{h:Ca}{b:ByteArray}{n:Nat}{p:Int}{r:ByteArray}{q:Int}(hm:Em h.version_ (h.base_+n) b p=false)(hf:Bf h.version_ (h.base_+n) b p=(r,q,true)):Ir h b n p=(r::(Ir h b (n+1) q).1,p::(Ir h b (n+1) q).2.1,(Ir h b (n+1) q).2.2):=by
 have:=H0 hf
 rw[Ir,if_neg (by rw[hm];simp),hf]
 simp only[]
 rw[if_pos (by omega)]
variable {b:ByteArray} {ook omar:Bool} {oheaver oheastr oheabas ohealin oend:Int} {orec:List ByteArray} {xorec xooff:List (List D)} {ooff:List Int}
theorem Xm(hs:b.size<2^47)(hr:Bs b=⟨ook,⟨oheaver,oheastr,oheabas,ohealin⟩,orec,ooff,oend,omar⟩)(horec:orec.map cS=xorec)(hooff:ooff.map cI=xooff):Fn Tryz.prog 199 [S b] [] ⟨.agg [B ook,I oheaver,I oheastr,I oheabas,I ohealin,.d (.row 1 xorec),.d (.row 1 xooff),I oend,B omar],[],[]⟩:=by
 refine Fn.go XaD Tryz.func199 fun P hP Q hQ=>?_
 conv=>cbv
 rcases ak:Cm b with⟨⟨aa,ac,ab,ad⟩,ap⟩
 refine .dd hP (Xq (by omega) ak) ?_
 conv=>cbv
 cases ap
 conv=>cbv
 have e:(⟨false,⟨0,0,0,0⟩,[],[],0,false⟩:Qf)=Bs b:=(by unfold Bs;rw[ak])
 rw[hr]at e
 simp only[Ca.mk.injEq,Qf.mk.injEq]at e
 obtain⟨rfl,⟨rfl,rfl,rfl,rfl⟩,rfl,rfl,rfl,rfl⟩:=e
 exact hQ _ _ (.one (.inl rfl) rfl (.agg (.d rfl rfl (.d rfl rfl (.d rfl rfl (.d rfl rfl (.d rfl rfl (.ref rfl rfl (by rw[←horec];rfl) (.ref rfl rfl (by rw[←hooff];rfl) (.d rfl rfl (.d rfl rfl (.nil)))))))))) .nil))
 conv=>cbv
 refine LoopW.lp (κ:=Int×(List (List D))×Nat×(List (List D))×Nat) XaD hP [4,5] [0,2,3,5] (fun(ae,al,am,af,ag)=>[]) (fun(ae,al,am,af,ag)=>[(8,.box 115 [B true,I aa,I ac,I ab,I ad,.ref 9 0 am,.ref 10 0 ag,I ae,B false]),(9,.row 1 false al),(10,.row 1 false af)])
  (fun(ae,al,am,af,ag)=>∃(w9:List ByteArray) (ai:List Int),w9.map cS=al∧am=w9.length∧ai.map cI=af∧ag=ai.length∧(24≤ae∧ae≤b.size∧w9.length=ai.length∧5*(w9.length:Int)+24≤ae)∧Ir ⟨aa,ac,ab,ad⟩ b 0 24=(w9++(Ir ⟨aa,ac,ab,ad⟩ b w9.length ae).1,ai++(Ir ⟨aa,ac,ab,ad⟩ b w9.length ae).2.1,(Ir ⟨aa,ac,ab,ad⟩ b w9.length ae).2.2))
  (fun(ae,al,am,af,ag)=>(b.size - ae).toNat) (24,[],0,[],0) ⟨[],[],rfl,rfl,rfl,rfl,by have:=Hm ak;simp;omega,rfl⟩ trivial rfl ?_
 rintro⟨ae,al,am,af,ag⟩ J ⟨w9,ai,ao,a2,ah,aq,hb,hS⟩ hJ
 have hd:=If (Hm ak).2.2
 conv=>cbv
 refine .go fun v2 a8=>?_
 conv=>cbv
 refine .add fun v3 ba=>?_
 conv=>cbv
 have e3:v3=ab+(w9.length:Int):=by omega
 generalize aj:Em aa v3 b ae=r4
 refine .dd hP (Xjr (by omega) (by omega) aj) ?_
 cases r4
 conv=>cbv
 rcases an:Bf aa v3 b ae with⟨ar,au,aw⟩
 refine .dd hP (Xdw (by omega) (by omega) an) ?_
 conv=>cbv
 cases aw
 conv=>cbv
 have e:(⟨true,⟨aa,ac,ab,ad⟩,w9,ai,ae,false⟩:Qf)=Bs b:=(by rw[e3]at aj an;unfold Bs;rw[ak];simp only[];rw[hS,Pl (h:=⟨aa,ac,ab,ad⟩) aj an];simp)
 rw[hr]at e
 simp only[Ca.mk.injEq,Qf.mk.injEq]at e
 obtain⟨rfl,⟨rfl,rfl,rfl,rfl⟩,rfl,rfl,rfl,rfl⟩:=e
 exact hQ _ _ (.one (.inl rfl) rfl (.agg (.d rfl rfl (.d rfl rfl (.d rfl rfl (.d rfl rfl (.d rfl rfl (.ref rfl (by rw[←ao,List.length_map];first|omega|(simp;omega)) (by rw[←ao,←horec]) (.ref rfl (by rw[←ah,List.length_map];first|omega|(simp;omega)) (by rw[←ah,←hooff]) (.d rfl rfl (.d rfl rfl (.nil)))))))))) .nil))
 conv=>cbv
 have hf:=H0 an
 refine .one ar ao rfl fun ax z6 a6 ay=>?_
 conv=>cbv
 refine .one ae ah rfl fun az z7 a7 a1=>?_
 conv=>cbv
 exact .go [12,14] (au,z6,ax,z7,az) (hJ _ ⟨_,_,ay,Hg,a1,Hg,by simp;omega,by rw[e3]at aj an;rw[hS,Pc (h:=⟨aa,ac,ab,ad⟩) aj an];simp[List.append_assoc]⟩ mlt)
 conv=>cbv
 have e:(⟨true,⟨aa,ac,ab,ad⟩,w9,ai,ae,true⟩:Qf)=Bs b:=(by rw[e3]at aj;unfold Bs;rw[ak];simp only[];rw[hS,Pf (h:=⟨aa,ac,ab,ad⟩) aj];simp)
 rw[hr]at e
 simp only[Ca.mk.injEq,Qf.mk.injEq]at e
 obtain⟨rfl,⟨rfl,rfl,rfl,rfl⟩,rfl,rfl,rfl,rfl⟩:=e
 exact hQ _ _ (.one (.inl rfl) rfl (.agg (.d rfl rfl (.d rfl rfl (.d rfl rfl (.d rfl rfl (.d rfl rfl (.ref rfl (by rw[←ao,List.length_map];first|omega|(simp;omega)) (by rw[←ao,←horec]) (.ref rfl (by rw[←ah,List.length_map];first|omega|(simp;omega)) (by rw[←ah,←hooff]) (.d rfl rfl (.d rfl rfl (.nil)))))))))) .nil))
theorem Sk(hs:b.size<2^47)(hr:Bs b=⟨ook,⟨oheaver,oheastr,oheabas,ohealin⟩,orec,ooff,oend,omar⟩)(horec:orec.map cS=xorec)(hooff:ooff.map cI=xooff):Fn Tryz.prog 190 [S b] [] ⟨.agg [B ook,I oheaver,I oheastr,I oheabas,I ohealin,.d (.row 1 xorec),.d (.row 1 xooff),I oend,B omar],[],[]⟩:=by
 refine Fn.go XaD Tryz.func190 fun P hP Q hQ=>?_
 conv=>cbv
 rcases ak:Cm b with⟨⟨aa,ac,ab,ad⟩,ap⟩
 refine .dd hP (Xi (by omega) ak) ?_
 conv=>cbv
 cases ap
 conv=>cbv
 have e:(⟨false,⟨0,0,0,0⟩,[],[],0,false⟩:Qf)=Bs b:=(by unfold Bs;rw[ak])
 rw[hr]at e
 simp only[Ca.mk.injEq,Qf.mk.injEq]at e
 obtain⟨rfl,⟨rfl,rfl,rfl,rfl⟩,rfl,rfl,rfl,rfl⟩:=e
 exact hQ _ _ (.one (.inl rfl) rfl (.agg (.d rfl rfl (.d rfl rfl (.d rfl rfl (.d rfl rfl (.d rfl rfl (.ref rfl rfl (by rw[←horec];rfl) (.ref rfl rfl (by rw[←hooff];rfl) (.d rfl rfl (.d rfl rfl (.nil)))))))))) .nil))
 conv=>cbv
 refine LoopW.lp (κ:=Int×(List (List D))×Nat×(List (List D))×Nat) XaD hP [4,5] [0,2,3,5] (fun(ae,al,am,af,ag)=>[]) (fun(ae,al,am,af,ag)=>[(8,.box 115 [B true,I aa,I ac,I ab,I ad,.ref 9 0 am,.ref 10 0 ag,I ae,B false]),(9,.row 1 false al),(10,.row 1 false af)])
  (fun(ae,al,am,af,ag)=>∃(w9:List ByteArray) (ai:List Int),w9.map cS=al∧am=w9.length∧ai.map cI=af∧ag=ai.length∧(24≤ae∧ae≤b.size∧w9.length=ai.length∧5*(w9.length:Int)+24≤ae)∧Ir ⟨aa,ac,ab,ad⟩ b 0 24=(w9++(Ir ⟨aa,ac,ab,ad⟩ b w9.length ae).1,ai++(Ir ⟨aa,ac,ab,ad⟩ b w9.length ae).2.1,(Ir ⟨aa,ac,ab,ad⟩ b w9.length ae).2.2))
  (fun(ae,al,am,af,ag)=>(b.size - ae).toNat) (24,[],0,[],0) ⟨[],[],rfl,rfl,rfl,rfl,by have:=Hm ak;simp;omega,rfl⟩ trivial rfl ?_
 rintro⟨ae,al,am,af,ag⟩ J ⟨w9,ai,ao,a2,ah,aq,hb,hS⟩ hJ
 have hd:=If (Hm ak).2.2
 conv=>cbv
 refine .go fun v2 a8=>?_
 conv=>cbv
 refine .add fun v3 ba=>?_
 conv=>cbv
 have e3:v3=ab+(w9.length:Int):=by omega
 generalize aj:Em aa v3 b ae=r4
 refine .dd hP (Xi3 (by omega) (by omega) aj) ?_
 cases r4
 conv=>cbv
 rcases an:Bf aa v3 b ae with⟨ar,au,aw⟩
 refine .dd hP (Xdi (by omega) (by omega) an) ?_
 conv=>cbv
 cases aw
 conv=>cbv
 have e:(⟨true,⟨aa,ac,ab,ad⟩,w9,ai,ae,false⟩:Qf)=Bs b:=(by rw[e3]at aj an;unfold Bs;rw[ak];simp only[];rw[hS,Pl (h:=⟨aa,ac,ab,ad⟩) aj an];simp)
 rw[hr]at e
 simp only[Ca.mk.injEq,Qf.mk.injEq]at e
 obtain⟨rfl,⟨rfl,rfl,rfl,rfl⟩,rfl,rfl,rfl,rfl⟩:=e
 exact hQ _ _ (.one (.inl rfl) rfl (.agg (.d rfl rfl (.d rfl rfl (.d rfl rfl (.d rfl rfl (.d rfl rfl (.ref rfl (by rw[←ao,List.length_map];first|omega|(simp;omega)) (by rw[←ao,←horec]) (.ref rfl (by rw[←ah,List.length_map];first|omega|(simp;omega)) (by rw[←ah,←hooff]) (.d rfl rfl (.d rfl rfl (.nil)))))))))) .nil))
 conv=>cbv
 have hf:=H0 an
 refine .one ar ao rfl fun ax z6 a6 ay=>?_
 conv=>cbv
 refine .one ae ah rfl fun az z7 a7 a1=>?_
 conv=>cbv
 exact .go [12,14] (au,z6,ax,z7,az) (hJ _ ⟨_,_,ay,Hg,a1,Hg,by simp;omega,by rw[e3]at aj an;rw[hS,Pc (h:=⟨aa,ac,ab,ad⟩) aj an];simp[List.append_assoc]⟩ mlt)
 conv=>cbv
 have e:(⟨true,⟨aa,ac,ab,ad⟩,w9,ai,ae,true⟩:Qf)=Bs b:=(by rw[e3]at aj;unfold Bs;rw[ak];simp only[];rw[hS,Pf (h:=⟨aa,ac,ab,ad⟩) aj];simp)
 rw[hr]at e
 simp only[Ca.mk.injEq,Qf.mk.injEq]at e
 obtain⟨rfl,⟨rfl,rfl,rfl,rfl⟩,rfl,rfl,rfl,rfl⟩:=e
 exact hQ _ _ (.one (.inl rfl) rfl (.agg (.d rfl rfl (.d rfl rfl (.d rfl rfl (.d rfl rfl (.d rfl rfl (.ref rfl (by rw[←ao,List.length_map];first|omega|(simp;omega)) (by rw[←ao,←horec]) (.ref rfl (by rw[←ah,List.length_map];first|omega|(simp;omega)) (by rw[←ah,←hooff]) (.d rfl rfl (.d rfl rfl (.nil)))))))))) .nil))
end
section
open Go Go.Proofs
set_option maxRecDepth 20000
set_option maxHeartbeats 4000000
def XeC:List (Nat×TyRow):=[ty3,ty9,XgK,Xmd,XkO,Xmy]
theorem XdQ:B9 Tryz.prog XeC:=B9.of (by kernel_rfl)
theorem Jd:Setup Tryz.prog XeC:=⟨XdQ,mixed⟩
def XgE(s:Nat)(offs:List Int)(n:Nat):List Hv:=((List.range n).filter (fun i=>i% s=0)).map (fun(i:Nat)=>⟨(i:Int),offs.getD i 0⟩)
def Dj(stride:Int)(offs:List Int):List Hv:=if stride<1 then[]else XgE stride.toNat offs offs.length
theorem Q4{s n:Nat}{offs:List Int}:XgE s offs (n+1)=XgE s offs n++(if n% s=0 then[⟨(n:Int),offs.getD n 0⟩]else[]):=by
 unfold XgE
 rw[List.range_succ,List.filter_append,List.map_append]
 congr 1
 by_cases h:n% s=0<;>simp[h]
theorem Xaa{s n:Nat}{offs:List Int}:(XgE s offs n).length≤n:=by
 unfold XgE
 rw[List.length_map]
 exact Nat.le_trans (List.length_filter_le _ _) (by simp)
theorem Y7{s k:Nat}{offs:List Int}(hk:k% s=0):∀(d:Nat),d<s→XgE s offs (k+1+d)=XgE s offs k++[⟨(k:Int),offs.getD k 0⟩]
 |0,_=>by rw[Nat.add_zero,Q4,if_pos hk]
 |d+1,h=>by
  rw[←Nat.add_assoc,Q4,Y7 hk d (by omega),if_neg,List.append_nil]
  have:k+1+d=k+(d+1):=by omega
  rw[this,Nat.add_mod,hk,Nat.zero_add,Nat.mod_mod,Nat.mod_eq_of_lt h]
  omega
theorem Xdc{l:List Int}{k:Nat}(h:k<l.length):l[k]=l.getD k 0:=by rw[List.getD_eq_getElem?_getD,List.getElem?_eq_getElem h];rfl
def G9(a b:Int):ByteArray:=if b≤a∧a - b≤1000000000 then C1 (a - b)else tx []
theorem Ud{a b:Int}{o:ByteArray}(h:G9 a b=o):o.size≤5:=by
 rw[←h]
 unfold G9
 split
 ·exact Ij _
 ·simp[Bz]
def H2(a b:Int):Int:=if b≤a∧a - b<9223372036854775808 then a - b else -1
theorem Xy(a b:Int):C1 (H2 a b)=G9 a b:=by
 unfold H2 G9
 by_cases h:b≤a∧a - b≤1000000000
 ·rw[if_pos h,if_pos (by omega)]
 ·rw[if_neg h]
  unfold C1
  split
  ·rw[if_neg (by omega)]
  ·rfl
def Ji:Int×Int→List Hv→Option ByteArray
 |_,[]=>some (tx [])
 |q,p::l=>if G9 p.count_ q.1=tx []∨G9 p.at_ q.2=tx []then none else(Ji (p.count_,p.at_) l).map fun t=>(G9 p.count_ q.1++G9 p.at_ q.2)++t
def Cl(l:List Hv):ByteArray:=match Ji (0,0) l with
 |some t=>C1 l.length++t
 |none=>tx []
theorem Uz:∀{l:List Hv} {q:Int×Int} {t:ByteArray},Ji q l=some t→t.size≤10*l.length
 |[],q,t,h=>by cases h;simp[Bz]
 |p::l,q,t,h=>by
  simp only[Ji]at h
  split at h
  ·cases h
  ·obtain⟨u,hu,rfl⟩:=Option.map_eq_some_iff.1 h
   have:=Uz hu
   have h1:=Ud (rfl:G9 p.count_ q.1=_)
   have h2:=Ud (rfl:G9 p.at_ q.2=_)
   rw[ByteArray.size_append,ByteArray.size_append,List.length_cons]
   omega
theorem P4(l:List Hv):(Cl l).size≤5+10*l.length:=by
 unfold Cl
 split
 ·rename_i t h
  have h1:=Uz h
  have h2:=Ij l.length
  rw[ByteArray.size_append]
  omega
 ·simp[Bz]
theorem Q5{l:List Hv}{o:ByteArray}(h:Cl l=o):o.size≤5+10*l.length:=by rw[←h];exact P4 l
theorem XiD(s:ByteArray):tx []++s=s:=by rw[←Wd s,Dw];rfl
theorem Y9(s:ByteArray):s++tx []=s:=by rw[←Wd s,Dw,List.append_nil]
theorem Xdv{n w:Int}(h:Bd n w≠tx []):(Bd n w).size=w.toNat:=by
 by_cases hh:0≤n∧1≤w∧w≤8∧n.toNat/2^ (8*w.toNat)=0
 ·exact Q8 hh
 ·exact absurd (if_neg hh) h
def wfPl(l:List Hv):Prop:=∀p∈l,wfI p.count_∧wfI p.at_
def Jp(acc:ByteArray):List Int→Option ByteArray
 |[]=>some acc
 |x::l=>if Bd x 4=tx []then none else Jp (acc++Bd x 4) l
def B5(a b c d:Int):ByteArray:=match Jp (tx []) [a,b,c,d]with
 |some t=>t++tx [73,68,88,33]
 |none=>tx []
theorem Wm:∀{l:List Int} {acc t:ByteArray},Jp acc l=some t→t.size≤acc.size+8*l.length
 |[],acc,t,h=>by cases h;simp
 |x::l,acc,t,h=>by
  simp only[Jp]at h
  split at h
  ·cases h
  ·have:=Wm h
   have h1:=@Fj x 4
   rw[ByteArray.size_append]at this
   rw[List.length_cons]
   omega
theorem Hc{a b c d:Int}{o:ByteArray}(h:B5 a b c d=o):o.size≤36:=by
 rw[←h]
 unfold B5
 split
 ·rename_i t ht
  have:=Wm ht
  simp only[Bz,List.length_cons,List.length_nil]at this
  rw[ByteArray.size_append,Bz]
  simp only[List.length_cons,List.length_nil]
  omega
 ·simp[Bz]
theorem XbN:∀{l:List Int} {acc t:ByteArray},Jp acc l=some t→t.size=acc.size+4*l.length
 |[],acc,t,h=>by cases h;simp
 |x::l,acc,t,h=>by
  simp only[Jp]at h
  split at h
  ·cases h
  ·rename_i hx
   have:=XbN h
   have h1:=Xdv hx
   rw[ByteArray.size_append,h1]at this
   rw[List.length_cons,this]
   simp
   omega
theorem Oi{a b c d:Int}(h:B5 a b c d≠tx []):(B5 a b c d).size=20:=by
 unfold B5 at h⊢
 split
 ·rename_i t ht
  have:=XbN ht
  simp only[Bz,List.length_cons,List.length_nil]at this
  rw[ByteArray.size_append,Bz,this]
  rfl
 ·rename_i ht
  rw[ht]at h
  exact absurd rfl h
def Cq(h:Ca)(offs:List Int)(fin:Int):ByteArray:=
 if Dg h=true∧C8 h.version_ (h.base_+offs.length)≠tx []∧Cl (Dj h.stride_ offs)≠tx []∧B5 fin offs.length h.stride_ 0≠tx []then
  (C8 h.version_ (h.base_+offs.length)++Cl (Dj h.stride_ offs))++B5 fin offs.length h.stride_ (F8 ((C8 h.version_ (h.base_+offs.length)++Cl (Dj h.stride_ offs))++(B5 fin offs.length h.stride_ 0).extract 0 12))else tx []
theorem M2{s:Int}{offs:List Int}:(Dj s offs).length≤offs.length:=by
 unfold Dj
 split
 ·simp
 ·exact Xaa
theorem Tp{s:Int}{offs:List Int}(h:∀x∈offs,wfI x)(hl:offs.length<2^40):wfPl (Dj s offs):=by
 unfold Dj
 split
 ·intro p hp;simp at hp
 ·intro p hp
  unfold XgE at hp
  obtain⟨i,hi,rfl⟩:=List.mem_map.1 hp
  have aa:=List.mem_range.1 (List.mem_filter.1 hi).1
  refine⟨⟨by show -9223372036854775808≤(i:Int);omega,by show(i:Int)<9223372036854775808;omega⟩,?_⟩
  show wfI (offs.getD i 0)
  rw[←Xdc aa]
  exact h _ (List.getElem_mem aa)
theorem Tu(h:Ca)(offs:List Int)(fin:Int):(Cq h offs fin).size≤57+10*offs.length:=by
 unfold Cq
 split
 ·rw[ByteArray.size_append,ByteArray.size_append]
  have h1:=Mh (rfl:C8 h.version_ (h.base_+offs.length)=_)
  have h2:=P4 (Dj h.stride_ offs)
  have h3:=@M2 h.stride_ offs
  have h4:=Hc (rfl:B5 fin offs.length h.stride_ (F8 ((C8 h.version_ (h.base_+offs.length)++Cl (Dj h.stride_ offs))++(B5 fin offs.length h.stride_ 0).extract 0 12))=_)
  omega
 ·simp[Bz]
variable {stride mark count sum a b:Int} {offs:List Int} {xoffs xo:List (List D)} {o:ByteArray}
theorem Xgl{o:List Hv}(hoffs:offs.map cI=xoffs)(hl:offs.length<2^40)(hr:Dj stride offs=o)(ho:o.map Tj=xo):Fn Tryz.prog 287 [I stride,.d (.row 1 xoffs)] [] ⟨.d (.row 2 xo),[],[]⟩:=by
 refine Fn.go Jd Tryz.func287 fun P hP Q hQ=>?_
 conv=>cbv
 refine LoopW.lp (κ:=Int×(List (List D))×Nat) Jd hP [1] [0,1] (fun(i6,aa,ab)=>[(5,.ref 2 0 ab),(6,I i6)]) (fun(i6,aa,ab)=>[(2,.row 2 false aa)])
  (fun(i6,aa,ab)=>∃(w2:List Hv),w2.map Tj=aa∧ab=w2.length∧∃k:Nat,i6=(k:Int)∧k≤offs.length∧(1≤stride∨k=0)∧w2=XgE stride.toNat offs k)
  (fun(i6,aa,ab)=>(offs.length - i6).toNat) (0,[],0) ⟨[],rfl,rfl,0,rfl,by omega,by omega,by simp[XgE]⟩ ⟨rfl,rfl,trivial⟩ rfl ?_
 rintro⟨i6,aa,ab⟩ J ⟨w2,ac,ah,k,hi,hk,hs,hw⟩ hJ
 have hwl:w2.length≤k:=by rw[hw];exact Xaa
 conv=>cbv
 refine .go hoffs fun v1 ak=>?_
 conv=>cbv
 refine .lss (fun h2=>?_) fun h2=>?_
 conv=>cbv
 refine .geq (fun h3=>?_) fun h3=>?_
 conv=>cbv
 refine .rem fun v4 ad=>?_
 conv=>cbv
 refine .eql (fun h5=>?_) fun h5=>?_
 conv=>cbv
 refine .go i6.toNat hoffs fun ai e6 ae=>?_
 conv=>cbv
 have em0:((k% stride.toNat:Nat):Int)=0:=by rw[Int.natCast_emod,Int.toNat_of_nonneg (by omega),←hi,←ad];exact h5
 have em:k% stride.toNat=0:=by omega
 have e1:(⟨i6,e6⟩:Hv)=⟨(k:Int),offs.getD k 0⟩:=by rw[ae,Xdc];simp only[hi,Int.toNat_natCast]
 refine .one (⟨i6,e6⟩:Hv) ac rfl fun af z7 aj ag=>?_
 conv=>cbv
 refine .add fun v8 al=>?_
 conv=>cbv
 exact .go [4] (v8,z7,af) (hJ _ ⟨_,ag,Hg,k+1,by omega,by omega,by omega,by rw[Q4,if_pos em,hw,e1]⟩ mlt)
 conv=>cbv
 have em:¬k% stride.toNat=0:=by intro e;refine h5 ?_;rw[ad,hi,show stride=((stride.toNat:Nat):Int)by omega,←Int.natCast_emod,e];rfl
 refine .add fun v6 am=>?_
 conv=>cbv
 exact .go [2] (v6,aa,ab) (hJ _ ⟨_,ac,Hg,k+1,by omega,by omega,by omega,by rw[Q4,if_neg em,hw];simp⟩ mlt)
 conv=>cbv
 have e:w2=Dj stride offs:=(by rw[hw,show k=0 by omega];unfold Dj;rw[if_pos (by omega)];rfl)
 rw[hr]at e
 subst e
 exact hQ _ _ (.r rfl rfl (by rw[←ac,List.length_map];first|omega|(simp;omega)) (by rw[←ac,←ho]))
 conv=>cbv
 have e:w2=Dj stride offs:=(by rw[hw];unfold Dj;split;rw[show k=0 by omega];rfl;rw[show k=offs.length by omega])
 rw[hr]at e
 subst e
 exact hQ _ _ (.r rfl rfl (by rw[←ac,List.length_map];first|omega|(simp;omega)) (by rw[←ac,←ho]))
theorem Xgs{o:List Hv}(hoffs:offs.map cI=xoffs)(hl:offs.length<2^40)(hr:Dj stride offs=o)(ho:o.map Tj=xo):Fn Tryz.prog 292 [I stride,.d (.row 1 xoffs)] [] ⟨.d (.row 2 xo),[],[]⟩:=by
 refine Fn.go Jd Tryz.func292 fun P hP Q hQ=>?_
 conv=>cbv
 refine .lss (fun h1=>?_) fun h1=>?_
 conv=>cbv
 have e:[]=Dj stride offs:=(by unfold Dj;rw[if_pos (by omega)])
 rw[hr]at e
 subst e
 exact hQ _ _ (.r rfl rfl rfl (by rw[←ho];rfl))
 conv=>cbv
 refine LoopW.lp (κ:=Int×(List (List D))×Nat) Jd hP [1] [0,1] (fun(i6,aa,ab)=>[(5,.ref 2 0 ab),(6,I i6)]) (fun(i6,aa,ab)=>[(2,.row 2 false aa)])
  (fun(i6,aa,ab)=>∃(w2:List Hv),w2.map Tj=aa∧ab=w2.length∧∃k:Nat,i6=(k:Int)∧k≤offs.length∧k% stride.toNat=0∧w2=XgE stride.toNat offs k)
  (fun(i6,aa,ab)=>(offs.length - i6).toNat) (0,[],0) ⟨[],rfl,rfl,0,rfl,by omega,by simp,by simp[XgE]⟩ ⟨rfl,rfl,trivial⟩ rfl ?_
 rintro⟨i6,aa,ab⟩ J ⟨w2,ac,ag,k,hi,hk,hs,hw⟩ hJ
 have hwl:w2.length≤k:=by rw[hw];exact Xaa
 conv=>cbv
 refine .go hoffs fun v2 aj=>?_
 conv=>cbv
 refine .lss (fun h3=>?_) fun h3=>?_
 conv=>cbv
 refine .go i6.toNat hoffs fun ah e4 ae=>?_
 conv=>cbv
 have e1:(⟨i6,e4⟩:Hv)=⟨(k:Int),offs.getD k 0⟩:=by rw[ae,Xdc];simp only[hi,Int.toNat_natCast]
 refine .one (⟨i6,e4⟩:Hv) ac rfl fun af z5 ai ad=>?_
 conv=>cbv
 refine .go hoffs fun v6 ak=>?_
 conv=>cbv
 refine .sub fun v7 al=>?_
 conv=>cbv
 refine .gtr (fun h8=>?_) fun h8=>?_
 conv=>cbv
 have e:(w2++[(⟨i6,e4⟩:Hv)])=Dj stride offs:=(by unfold Dj;rw[if_neg (by omega),show offs.length=k+1+(offs.length - 1 - k)by omega,Y7 hs _ (by omega),hw,e1])
 rw[hr]at e
 subst e
 exact hQ _ _ (.r rfl rfl (by rw[←ad,List.length_map];first|omega|(simp;omega)) (by rw[←ad,←ho]))
 conv=>cbv
 refine .add fun v9 am=>?_
 conv=>cbv
 exact .go [4] (v9,z5,af) (hJ _ ⟨_,ad,Hg,k+stride.toNat,by omega,by omega,by rw[Nat.add_mod_right];exact hs,by rw[show k+stride.toNat=k+1+(stride.toNat - 1)by omega,Y7 hs _ (by omega),hw,e1]⟩ mlt)
 conv=>cbv
 have e:w2=Dj stride offs:=(by unfold Dj;rw[if_neg (by omega),hw,show k=offs.length by omega])
 rw[hr]at e
 subst e
 exact hQ _ _ (.r rfl rfl (by rw[←ac,List.length_map];first|omega|(simp;omega)) (by rw[←ac,←ho]))
theorem Ro(k1:mark<9223372036854775808)(k2:count<9223372036854775808)(k3:stride<9223372036854775808)(k4:sum<9223372036854775808)(hr:B5 mark count stride sum=o):Fn Tryz.prog 293 [I mark,I count,I stride,I sum] [] ⟨S o,[],[]⟩:=by
 refine Fn.go Jd Tryz.func293 fun P hP Q hQ=>?_
 conv=>cbv
 refine .go fun v1 ah=>?_
 conv=>cbv
 refine LoopW.lp (κ:=ByteArray×Int) Jd hP [] [17,18] (fun(s9,aa)=>[(9,S s9),(19,I aa)]) (fun(s9,aa)=>[])
  (fun(s9,aa)=>∃k:Nat,aa=(k:Int)∧k≤4∧s9.size≤8*k∧Jp (tx []) [mark,count,stride,sum]=Jp s9 ([mark,count,stride,sum].drop k))
  (fun(s9,aa)=>(4 - aa).toNat) (tx [],0) ⟨0,rfl,by omega,by simp[Bz],rfl⟩ ⟨rfl,rfl,trivial⟩ rfl ?_
 rintro⟨s9,aa⟩ J ⟨k,hi,hk,hz,hf⟩ hJ
 conv=>cbv
 refine .lss (fun h2=>?_) fun h2=>?_
 conv=>cbv
 refine .go aa.toNat fun p3 ai af=>?_
 conv=>cbv
 refine .go (l:=[mark,count,stride,sum]) (c:=cI) rfl fun ag e4 ac=>?_
 conv=>cbv
 have eE:[mark,count,stride,sum][k]'(by simp;omega)=e4:=by rw[ac];congr 1;omega
 have hE:e4<9223372036854775808:=by
  rw[←eE]
  have aj:k<4:=by omega
  rcases k with _|_|_|_|k
  ·exact k1
  ·exact k2
  ·exact k3
  ·exact k4
  ·omega
 generalize ab:Bd e4 4=r5
 have zr5:=Cj ab
 refine .dd hP (Fu (by omega) ab) ?_
 conv=>cbv
 refine .eql (fun h6=>?_) fun h6=>?_
 conv=>cbv
 have e:(tx [])=B5 mark count stride sum:=(by unfold B5;rw[hf,List.drop_eq_getElem_cons (by simp;omega)];simp only[Jp];rw[eE,if_pos (by rw[ab];exact h6)])
 rw[hr]at e
 subst e
 exact hQ _ _ (.s rfl rfl)
 conv=>cbv
 refine .go fun s7 ad ak=>?_
 conv=>cbv
 refine .add fun v8 al=>?_
 conv=>cbv
 exact .go [] (s7,v8) (hJ _ ⟨k+1,by omega,by omega,by omega,by rw[hf,List.drop_eq_getElem_cons (by simp;omega)];simp only[Jp];rw[eE,if_neg];rw[ad];rw[ab];exact fun e=>h6 (ab.symm.trans e)⟩ mlt)
 conv=>cbv
 refine .litR 4 fun s3 ae am=>?_
 conv=>cbv
 have e:s3=B5 mark count stride sum:=(by unfold B5;rw[hf,List.drop_of_length_le (by simp;omega)];simp only[Jp];exact ae)
 rw[hr]at e
 subst e
 exact hQ _ _ (.s rfl rfl)
theorem Rw(k1:mark<9223372036854775808)(k2:count<9223372036854775808)(k3:stride<9223372036854775808)(k4:sum<9223372036854775808)(hr:B5 mark count stride sum=o):Fn Tryz.prog 288 [I mark,I count,I stride,I sum] [] ⟨S o,[],[]⟩:=by
 refine Fn.go Jd Tryz.func288 fun P hP Q hQ=>?_
 conv=>cbv
 refine LoopW.lp (κ:=ByteArray×Int) Jd hP [] [10] (fun(s9,aa)=>[(9,S s9),(11,I aa)]) (fun(s9,aa)=>[])
  (fun(s9,aa)=>∃k:Nat,aa=(k:Int)∧k≤4∧s9.size≤8*k∧Jp (tx []) [mark,count,stride,sum]=Jp s9 ([mark,count,stride,sum].drop k))
  (fun(s9,aa)=>(4 - aa).toNat) (tx [],0) ⟨0,rfl,by omega,by simp[Bz],rfl⟩ ⟨rfl,rfl,trivial⟩ rfl ?_
 rintro⟨s9,aa⟩ J ⟨k,hi,hk,hz,hf⟩ hJ
 conv=>cbv
 refine .lss (fun h1=>?_) fun h1=>?_
 conv=>cbv
 refine .go aa.toNat fun p2 ah af=>?_
 conv=>cbv
 refine .go (l:=[mark,count,stride,sum]) (c:=cI) rfl fun ag e3 ac=>?_
 conv=>cbv
 have eE:[mark,count,stride,sum][k]'(by simp;omega)=e3:=by rw[ac];congr 1;omega
 have hE:e3<9223372036854775808:=by
  rw[←eE]
  have ai:k<4:=by omega
  rcases k with _|_|_|_|k
  ·exact k1
  ·exact k2
  ·exact k3
  ·exact k4
  ·omega
 generalize ab:Bd e3 4=r4
 have zr4:=Cj ab
 refine .dd hP (Fc (by omega) ab) ?_
 conv=>cbv
 refine .eql (fun h5=>?_) fun h5=>?_
 conv=>cbv
 have e:(tx [])=B5 mark count stride sum:=(by unfold B5;rw[hf,List.drop_eq_getElem_cons (by simp;omega)];simp only[Jp];rw[eE,if_pos (by rw[ab];exact h5)])
 rw[hr]at e
 subst e
 exact hQ _ _ (.s rfl rfl)
 conv=>cbv
 refine .go fun s6 ad aj=>?_
 conv=>cbv
 refine .add fun v7 ak=>?_
 conv=>cbv
 exact .go [] (s6,v7) (hJ _ ⟨k+1,by omega,by omega,by omega,by rw[hf,List.drop_eq_getElem_cons (by simp;omega)];simp only[Jp];rw[eE,if_neg];rw[ad];rw[ab];exact fun e=>h5 (ab.symm.trans e)⟩ mlt)
 conv=>cbv
 refine .litR 4 fun s2 ae al=>?_
 conv=>cbv
 have e:s2=B5 mark count stride sum:=(by unfold B5;rw[hf,List.drop_of_length_le (by simp;omega)];simp only[Jp];exact ae)
 rw[hr]at e
 subst e
 exact hQ _ _ (.s rfl rfl)
theorem Xbn{o:Int}(ha:wfI a)(hb:wfI b)(hr:H2 a b=o):Fn Tryz.prog 325 [I a,I b] [] ⟨I o,[],[]⟩:=by
 refine Fn.go Jd Tryz.func325 fun P hP Q hQ=>?_
 conv=>cbv
 refine .subW fun v1 aa=>?_
 conv=>cbv
 refine .lss (fun h2=>?_) fun h2=>?_
 conv=>cbv
 have e:(-1)=H2 a b:=(by unfold H2;rw[L8]at aa;obtain⟨ab,ac⟩:=ha;obtain⟨ad,hb2⟩:=hb;rw[if_neg (by omega)])
 rw[hr]at e
 subst e
 exact hQ _ _ (.i rfl rfl)
 conv=>cbv
 refine .lss (fun h3=>?_) fun h3=>?_
 conv=>cbv
 have e:(-1)=H2 a b:=(by unfold H2;rw[L8]at aa;obtain⟨ab,ac⟩:=ha;obtain⟨ad,hb2⟩:=hb;rw[if_neg (by omega)])
 rw[hr]at e
 subst e
 exact hQ _ _ (.i rfl rfl)
 conv=>cbv
 have e:v1=H2 a b:=(by unfold H2;rw[L8]at aa;obtain⟨ab,ac⟩:=ha;obtain⟨ad,hb2⟩:=hb;rw[if_pos (by omega)];omega)
 rw[hr]at e
 subst e
 exact hQ _ _ (.i rfl rfl)
theorem Xhx(ha:wfI a)(hb:wfI b)(hr:G9 a b=o):Fn Tryz.prog 327 [I a,I b] [] ⟨S o,[],[]⟩:=by
 refine Fn.go Jd Tryz.func327 fun P hP Q hQ=>?_
 conv=>cbv
 refine .lss (fun h1=>?_) fun h1=>?_
 conv=>cbv
 have e:(tx [])=G9 a b:=(by unfold G9;rw[if_neg (by omega)])
 rw[hr]at e
 subst e
 exact hQ _ _ (.s rfl rfl)
 conv=>cbv
 refine .go fun v2 ab=>?_
 conv=>cbv
 refine .go fun v3 ac=>?_
 conv=>cbv
 refine .subW fun v4 ad=>?_
 conv=>cbv
 have e4:v4=a - b:=by rw[ad,ab,ac,Gs,Gs,Gs];obtain⟨af,ag⟩:=ha;obtain⟨ah,hb2⟩:=hb;omega
 refine .gtr (fun h5=>?_) fun h5=>?_
 conv=>cbv
 have e:(tx [])=G9 a b:=(by unfold G9;rw[if_neg (by omega)])
 rw[hr]at e
 subst e
 exact hQ _ _ (.s rfl rfl)
 conv=>cbv
 refine .sub fun v6 ae=>?_
 conv=>cbv
 generalize aa:C1 v6=r7
 have zr7:=Ht aa
 refine .dd hP (V6 aa) ?_
 conv=>cbv
 have e:r7=G9 a b:=(by unfold G9;rw[if_pos (by omega),←aa,ae])
 rw[hr]at e
 subst e
 exact hQ _ _ (.s rfl rfl)
theorem XcE{l:List Hv}{xl:List (List D)}(hl:l.map Tj=xl)(hn:l.length<2^40)(hw:wfPl l)(hr:Cl l=o):Fn Tryz.prog 286 [.d (.row 2 xl)] [] ⟨S o,[],[]⟩:=by
 refine Fn.go Jd Tryz.func286 fun P hP Q hQ=>?_
 conv=>cbv
 refine .go hl fun v1 ao=>?_
 conv=>cbv
 generalize ae:C1 v1=r2
 have zr2:=Ht ae
 refine .dd hP (N1 ae) ?_
 conv=>cbv
 refine LoopW.lp (κ:=ByteArray×Int×Int×Int) Jd hP [] [0,4] (fun(s3,i5,ab,ac)=>[(3,S s3),(5,I i5)]) (fun(s3,i5,ab,ac)=>[(0,.box 253 [I ab,I ac])])
  (fun(s3,i5,ab,ac)=>∃(k:Nat) (pr:ByteArray),i5=(k:Int)∧k≤l.length∧s3=C1 l.length++pr∧pr.size≤10*k∧wfI ab∧wfI ac∧Ji (0,0) l=(Ji (ab,ac) (l.drop k)).map fun t=>pr++t)
  (fun(s3,i5,ab,ac)=>(l.length - i5).toNat) (r2,0,0,0) ⟨0,tx [],rfl,by omega,by rw[←ae,ao,Y9],by simp[Bz],by constructor<;>omega,by constructor<;>omega,by simp[XiD]⟩ ⟨rfl,rfl,trivial⟩ rfl ?_
 rintro⟨s3,i5,ab,ac⟩ J ⟨k,pr,hi,hk,hs,hz,hwa,hwb,hp⟩ hJ
 have ay:s3.size≤5+10*k:=by rw[hs,ByteArray.size_append];have:=Ij l.length;omega
 conv=>cbv
 refine .go hl fun v3 az=>?_
 conv=>cbv
 refine .lss (fun h4=>?_) fun h4=>?_
 conv=>cbv
 refine .go i5.toNat hl fun ar ⟨aa,ad⟩ ah=>?_
 conv=>cbv
 have hkl:k<l.length:=by omega
 have hd:l.drop k=⟨aa,ad⟩::l.drop (k+1):=by rw[List.drop_eq_getElem_cons hkl,ah];congr 2;omega
 obtain⟨ai,aj⟩:=hw ⟨aa,ad⟩ (by rw[ah];exact List.getElem_mem _)
 simp only[]at ai aj
 generalize ak:H2 aa ab=r6
 refine .dd hP (Xbn (by assumption) (by assumption) ak) ?_
 conv=>cbv
 generalize af:C1 r6=r7
 have zr7:=Ht af
 refine .dd hP (N1 af) ?_
 conv=>cbv
 generalize al:H2 ad ac=r8
 refine .dd hP (Xbn (by assumption) (by assumption) al) ?_
 conv=>cbv
 generalize ag:C1 r8=r9
 have zr9:=Ht ag
 refine .dd hP (N1 ag) ?_
 conv=>cbv
 have ea:G9 aa ab=r7:=by rw[←af,←ak,Xy]
 have eb:G9 ad ac=r9:=by rw[←ag,←al,Xy]
 refine .eql (fun h10=>?_) fun h10=>?_
 conv=>cbv
 have e:(tx [])=Cl l:=(by unfold Cl;rw[hp,hd];simp only[Ji];rw[ea,eb,if_pos (.inl h10)];rfl)
 rw[hr]at e
 subst e
 exact hQ _ _ (.s rfl rfl)
 conv=>cbv
 refine .eql (fun h11=>?_) fun h11=>?_
 conv=>cbv
 have e:(tx [])=Cl l:=(by unfold Cl;rw[hp,hd];simp only[Ji];rw[ea,eb,if_pos (.inr h11)];rfl)
 rw[hr]at e
 subst e
 exact hQ _ _ (.s rfl rfl)
 conv=>cbv
 refine .go fun a1 am au=>?_
 conv=>cbv
 refine .go fun ap an aw=>?_
 conv=>cbv
 refine .add fun aq ax=>?_
 conv=>cbv
 exact .go [] (ap,aq,aa,ad) (hJ _ ⟨k+1,pr++(r7++r9),by omega,by omega,by rw[an,am,hs];simp only[ByteArray.append_assoc],by rw[ByteArray.size_append,ByteArray.size_append];omega,ai,aj,by rw[hp,hd];simp only[Ji];rw[ea,eb,if_neg (by intro h;rcases h with h|h;exact h10 h;exact h11 h),Option.map_map];congr 1;funext t;simp only[Function.comp,ByteArray.append_assoc]⟩ mlt)
 conv=>cbv
 have e:s3=Cl l:=(by unfold Cl;rw[hp,List.drop_of_length_le (by omega),hs];simp[Ji,Y9])
 rw[hr]at e
 subst e
 exact hQ _ _ (.s rfl rfl)
end
section
open Go Go.Proofs
set_option maxRecDepth 20000
set_option maxHeartbeats 4000000
def XcU:List (Nat×TyRow):=[ty3,ty9,XkC,XkO,Xmy]
theorem XbM:B9 Tryz.prog XcU:=B9.of (by kernel_rfl)
theorem XfE:Setup Tryz.prog XcU:=⟨XbM,mixed⟩
theorem Xcy{l:List Hv}{xl:List (List D)}{o:ByteArray}(hl:l.map Tj=xl)(hn:l.length≤1000000000)(hw:wfPl l)(hr:Cl l=o):Fn Tryz.prog 291 [.d (.row 2 xl)] [] ⟨S o,[],[]⟩:=by
 refine Fn.go XfE Tryz.func291 fun P hP Q hQ=>?_
 conv=>cbv
 refine .go hl fun v1 az=>?_
 conv=>cbv
 generalize al:C1 v1=r2
 have zr2:=Ht al
 refine .dd hP (V6 al) ?_
 conv=>cbv
 obtain⟨nb3,hnb3⟩:∃m,([]:List UInt8).length+r2.size=m:=⟨_,rfl⟩
 obtain⟨b3,am⟩:∃m,[]++r2.data.toList=m:=⟨_,rfl⟩
 obtain⟨kb3,aq⟩:∃m,(r2.size:Int)=m:=⟨_,rfl⟩
 have lb3:nb3=b3.length:=by rw[←am,List.length_append,Array.length_toList];exact hnb3.symm
 refine .bx [2,0] [0] hP (Xes rfl (by first|omega|(simp;omega)) hnb3 am aq) rfl rfl rfl rfl ?_
 conv=>cbv
 refine .go hl fun v4 a8=>?_
 conv=>cbv
 refine LoopW.lp (κ:=Int×Int×Int×(List UInt8)×Nat) XfE hP [3] [3,4,15,16] (fun(ac,ad,ae,aa,ag)=>[(17,I ac)]) (fun(ac,ad,ae,aa,ag)=>[(2,.box 219 [.ptr 2 0 0,.ref 5 0 ag]),(4,.box 253 [I ad,I ae]),(5,.buf 5 false aa)])
  (fun(ac,ad,ae,aa,ag)=>ag=aa.length∧∃(k:Nat) (pr:ByteArray),ac=(k:Int)∧k≤l.length∧aa=(C1 l.length++pr).data.toList∧pr.size≤10*k∧wfI ad∧wfI ae∧Ji (0,0) l=(Ji (ad,ae) (l.drop k)).map fun t=>pr++t)
  (fun(ac,ad,ae,aa,ag)=>(l.length - ac).toNat) (0,0,0,b3,nb3) ⟨lb3,0,tx [],rfl,by omega,by rw[←am,Y9,←az,al];rfl,by simp[Bz],by constructor<;>omega,by constructor<;>omega,by simp[XiD]⟩ ⟨rfl,trivial⟩ rfl ?_
 rintro⟨ac,ad,ae,aa,ag⟩ J ⟨ak,k,pr,hi,hk,hs,hz,hwa,hwb,hp⟩ hJ
 have z1:1≤(C1 l.length).size:=by unfold C1;rw[if_pos (by omega),Bz];exact List.length_pos_iff.2 (Xde _)
 have zv:=Ij l.length
 have zl:aa.length=(C1 l.length).size+pr.size:=by rw[hs,Array.length_toList];exact ByteArray.size_append
 conv=>cbv
 refine .lss (fun h5=>?_) fun h5=>?_
 conv=>cbv
 refine .go ac.toNat hl fun a2 ⟨ab,af⟩ ar=>?_
 conv=>cbv
 have hkl:k<l.length:=by omega
 have hd:l.drop k=⟨ab,af⟩::l.drop (k+1):=by rw[List.drop_eq_getElem_cons hkl,ar];congr 2;omega
 obtain⟨au,aw⟩:=hw ⟨ab,af⟩ (by rw[ar];exact List.getElem_mem _)
 simp only[]at au aw
 generalize ah:G9 ab ad=r7
 have zr7:=Ud ah
 refine .dd hP (Xhx (by assumption) (by assumption) ah) ?_
 conv=>cbv
 generalize ai:G9 af ae=r8
 have zr8:=Ud ai
 refine .dd hP (Xhx (by assumption) (by assumption) ai) ?_
 conv=>cbv
 refine .eql (fun h9=>?_) fun h9=>?_
 conv=>cbv
 have e:(tx [])=Cl l:=(by unfold Cl;rw[hp,hd];simp only[Ji];rw[ah,ai,if_pos (.inl h9)];rfl)
 rw[hr]at e
 subst e
 exact hQ _ _ (.s rfl rfl)
 conv=>cbv
 refine .eql (fun h10=>?_) fun h10=>?_
 conv=>cbv
 have e:(tx [])=Cl l:=(by unfold Cl;rw[hp,hd];simp only[Ji];rw[ah,ai,if_pos (.inr h10)];rfl)
 rw[hr]at e
 subst e
 exact hQ _ _ (.s rfl rfl)
 conv=>cbv
 refine .go fun an ax a6=>?_
 conv=>cbv
 obtain⟨nb12,hnb12⟩:∃m,(aa:List UInt8).length+an.size=m:=⟨_,rfl⟩
 obtain⟨ay,aj⟩:∃m,aa++an.data.toList=m:=⟨_,rfl⟩
 obtain⟨kb12,ao⟩:∃m,(an.size:Int)=m:=⟨_,rfl⟩
 have lb12:nb12=ay.length:=by rw[←aj,List.length_append,Array.length_toList];exact hnb12.symm
 refine .bx [2,5] [5] hP (Xe3 ak (by first|omega|(simp;omega)) hnb12 aj ao) rfl rfl rfl rfl ?_
 conv=>cbv
 refine .add fun a1 a7=>?_
 conv=>cbv
 exact .go [7] (a1,ab,af,ay,nb12) (hJ _ ⟨Hg,k+1,pr++(r7++r8),by omega,by omega,by rw[←aj,hs,ax];simp[ByteArray.data_append,List.append_assoc],by rw[ByteArray.size_append,ByteArray.size_append];omega,au,aw,by rw[hp,hd];simp only[Ji];rw[ah,ai,if_neg (by intro h;rcases h with h|h;exact h9 h;exact h10 h),Option.map_map];congr 1;funext t;simp only[Function.comp,ByteArray.append_assoc]⟩ mlt)
 conv=>cbv
 obtain⟨b6,ap⟩:∃m,tx aa=m:=⟨_,rfl⟩
 have zb6:b6.size=aa.length:=by rw[←ap,Bz]
 refine .bx [2,5] [5] hP (XeI (x:=.ptr 0 0 0) ak (by intro e;rw[e]at zl;simp at zl;omega) (by first|omega|(simp;omega)) ap) rfl rfl rfl rfl ?_
 conv=>cbv
 have e:b6=Cl l:=(by unfold Cl;rw[hp,List.drop_of_length_le (by omega)];simp only[Ji,Option.map_some,Y9];rw[←ap,hs,Wd])
 rw[hr]at e
 subst e
 exact hQ _ _ (.s rfl rfl)
end
section
open Go Go.Proofs
set_option maxRecDepth 20000
set_option maxHeartbeats 4000000
def XaV:List (Nat×TyRow):=[ty3,ty9,XgK,Xdg,XkO]
theorem Xcp:B9 Tryz.prog XaV:=B9.of (by kernel_rfl)
theorem XeJ:Setup Tryz.prog XaV:=⟨Xcp,mixed⟩
theorem Wb{h:Ca}{offs:List Int}{fin:Int}{o:ByteArray}(e:Cq h offs fin=o):o.size≤57+10*offs.length:=by rw[←e];exact Tu _ _ _
variable {hver hstr hbas hlin fin:Int} {offs:List Int} {xoffs:List (List D)} {o:ByteArray}
theorem Xgj(hoffs:offs.map cI=xoffs)(hl:offs.length≤1000000000)(hwo:∀x∈offs,wfI x)(hf:fin<9223372036854775808)(hr:Cq (⟨hver,hstr,hbas,hlin⟩:Ca) offs fin=o):Fn Tryz.prog 234 [.agg [I hver,I hstr,I hbas,I hlin],.d (.row 1 xoffs),I fin] [] ⟨S o,[],[]⟩:=by
 refine Fn.go XeJ Tryz.func234 fun P hP Q hQ=>?_
 conv=>cbv
 generalize ag:Dg (⟨hver,hstr,hbas,hlin⟩:Ca)=r1
 refine .dd hP (Z0 ag) ?_
 cases r1
 conv=>cbv
 have e:(tx [])=Cq (⟨hver,hstr,hbas,hlin⟩:Ca) offs fin:=(by unfold Cq;rw[if_neg];rintro⟨q1,q2,q3,q4⟩;simp only[]at q1 q2 q3 q4;rw[ag]at q1;cases q1)
 rw[hr]at e
 subst e
 exact hQ _ _ (.s rfl rfl)
 conv=>cbv
 have hh:=If ag
 refine .go hoffs fun v2 aj=>?_
 conv=>cbv
 refine .add fun v3 ak=>?_
 conv=>cbv
 generalize ac:C8 hver v3=r4
 have zr4:=Mh ac
 refine .dd hP (Xbo ac) ?_
 conv=>cbv
 generalize ab:Dj hstr offs=l5
 generalize al:l5.map Tj=a7
 refine .dd hP (Xgs hoffs (by omega) ab al) ?_
 conv=>cbv
 have zl5:l5.length≤offs.length:=ab▸M2
 generalize ad:Cl l5=r6
 have zr6:=Q5 ad
 refine .dd hP (Xcy al (by omega) (ab▸Tp hwo (by omega)) ad) ?_
 conv=>cbv
 refine .go hoffs fun v7 am=>?_
 conv=>cbv
 generalize aa:B5 fin v7 hstr 0=r8
 have zr8:=Hc aa
 refine .dd hP (Ro (by omega) (by omega) (by omega) (by omega) aa) ?_
 conv=>cbv
 refine .eql (fun h9=>?_) fun h9=>?_
 conv=>cbv
 have e:(tx [])=Cq (⟨hver,hstr,hbas,hlin⟩:Ca) offs fin:=(by unfold Cq;rw[if_neg];rintro⟨q1,q2,q3,q4⟩;simp only[]at q1 q2 q3 q4;rw[←aj,←ak,ac]at q2;exact q2 h9)
 rw[hr]at e
 subst e
 exact hQ _ _ (.s rfl rfl)
 conv=>cbv
 refine .eql (fun h10=>?_) fun h10=>?_
 conv=>cbv
 have e:(tx [])=Cq (⟨hver,hstr,hbas,hlin⟩:Ca) offs fin:=(by unfold Cq;rw[if_neg];rintro⟨q1,q2,q3,q4⟩;simp only[]at q1 q2 q3 q4;rw[ab,ad]at q3;exact q3 h10)
 rw[hr]at e
 subst e
 exact hQ _ _ (.s rfl rfl)
 conv=>cbv
 refine .eql (fun h11=>?_) fun h11=>?_
 conv=>cbv
 have e:(tx [])=Cq (⟨hver,hstr,hbas,hlin⟩:Ca) offs fin:=(by unfold Cq;rw[if_neg];rintro⟨q1,q2,q3,q4⟩;simp only[]at q1 q2 q3 q4;rw[←am,aa]at q4;exact q4 h11)
 rw[hr]at e
 subst e
 exact hQ _ _ (.s rfl rfl)
 conv=>cbv
 refine .go fun a8 ah ay=>?_
 conv=>cbv
 have z8:r8.size=20:=by rw[←aa];exact Oi (by rw[aa];exact h11)
 refine .hi fun ar ai=>?_
 conv=>cbv
 have ba:ar.size=12:=by rw[ai,Uc (by omega) (by omega)];rfl
 refine .go fun au an az=>?_
 conv=>cbv
 generalize ae:F8 au=aw
 have zr15:=Iy ae
 refine .dd hP (Vb (by omega) ae) ?_
 conv=>cbv
 refine .go fun bb ao a1=>?_
 conv=>cbv
 refine .go hoffs fun ap a2=>?_
 conv=>cbv
 generalize af:B5 fin ap hstr aw=bc
 have zr18:=Hc af
 refine .dd hP (Ro (by omega) (by omega) (by omega) (by omega) af) ?_
 conv=>cbv
 refine .go fun ax aq a6=>?_
 conv=>cbv
 have e:ax=Cq (⟨hver,hstr,hbas,hlin⟩:Ca) offs fin:=(by have q:Cq ⟨hver,hstr,hbas,hlin⟩ offs fin=_:=if_pos ⟨ag,by simp only[];rw[←aj,←ak,ac];exact h9,by simp only[];rw[ab,ad];exact h10,by simp only[];rw[←am,aa];exact h11⟩;rw[q];simp only[];rw[←aj,←ak,ac,ab,ad,show(v2:Int)=v7 by omega,aa,←ah,aq,ao,←ah,←af,←ae,an,ai,show ap=v7 by omega];rfl)
 rw[hr]at e
 subst e
 exact hQ _ _ (.s rfl rfl)
theorem Xgq(hoffs:offs.map cI=xoffs)(hl:offs.length≤1000000000)(hwo:∀x∈offs,wfI x)(hf:fin<9223372036854775808)(hr:Cq (⟨hver,hstr,hbas,hlin⟩:Ca) offs fin=o):Fn Tryz.prog 223 [.agg [I hver,I hstr,I hbas,I hlin],.d (.row 1 xoffs),I fin] [] ⟨S o,[],[]⟩:=by
 refine Fn.go XeJ Tryz.func223 fun P hP Q hQ=>?_
 conv=>cbv
 generalize ag:Dg (⟨hver,hstr,hbas,hlin⟩:Ca)=r1
 refine .dd hP (Zn ag) ?_
 cases r1
 conv=>cbv
 have e:(tx [])=Cq (⟨hver,hstr,hbas,hlin⟩:Ca) offs fin:=(by unfold Cq;rw[if_neg];rintro⟨q1,q2,q3,q4⟩;simp only[]at q1 q2 q3 q4;rw[ag]at q1;cases q1)
 rw[hr]at e
 subst e
 exact hQ _ _ (.s rfl rfl)
 conv=>cbv
 have hh:=If ag
 refine .go hoffs fun v2 aj=>?_
 conv=>cbv
 refine .add fun v3 ak=>?_
 conv=>cbv
 generalize ac:C8 hver v3=r4
 have zr4:=Mh ac
 refine .dd hP (Xbf ac) ?_
 conv=>cbv
 generalize ab:Dj hstr offs=l5
 generalize al:l5.map Tj=a7
 refine .dd hP (Xgl hoffs (by omega) ab al) ?_
 conv=>cbv
 have zl5:l5.length≤offs.length:=ab▸M2
 generalize ad:Cl l5=r6
 have zr6:=Q5 ad
 refine .dd hP (XcE al (by omega) (ab▸Tp hwo (by omega)) ad) ?_
 conv=>cbv
 refine .go hoffs fun v7 am=>?_
 conv=>cbv
 generalize aa:B5 fin v7 hstr 0=r8
 have zr8:=Hc aa
 refine .dd hP (Rw (by omega) (by omega) (by omega) (by omega) aa) ?_
 conv=>cbv
 refine .eql (fun h9=>?_) fun h9=>?_
 conv=>cbv
 have e:(tx [])=Cq (⟨hver,hstr,hbas,hlin⟩:Ca) offs fin:=(by unfold Cq;rw[if_neg];rintro⟨q1,q2,q3,q4⟩;simp only[]at q1 q2 q3 q4;rw[←aj,←ak,ac]at q2;exact q2 h9)
 rw[hr]at e
 subst e
 exact hQ _ _ (.s rfl rfl)
 conv=>cbv
 refine .eql (fun h10=>?_) fun h10=>?_
 conv=>cbv
 have e:(tx [])=Cq (⟨hver,hstr,hbas,hlin⟩:Ca) offs fin:=(by unfold Cq;rw[if_neg];rintro⟨q1,q2,q3,q4⟩;simp only[]at q1 q2 q3 q4;rw[ab,ad]at q3;exact q3 h10)
 rw[hr]at e
 subst e
 exact hQ _ _ (.s rfl rfl)
 conv=>cbv
 refine .eql (fun h11=>?_) fun h11=>?_
 conv=>cbv
 have e:(tx [])=Cq (⟨hver,hstr,hbas,hlin⟩:Ca) offs fin:=(by unfold Cq;rw[if_neg];rintro⟨q1,q2,q3,q4⟩;simp only[]at q1 q2 q3 q4;rw[←am,aa]at q4;exact q4 h11)
 rw[hr]at e
 subst e
 exact hQ _ _ (.s rfl rfl)
 conv=>cbv
 refine .go fun a8 ah ay=>?_
 conv=>cbv
 have z8:r8.size=20:=by rw[←aa];exact Oi (by rw[aa];exact h11)
 refine .hi fun ar ai=>?_
 conv=>cbv
 have ba:ar.size=12:=by rw[ai,Uc (by omega) (by omega)];rfl
 refine .go fun au an az=>?_
 conv=>cbv
 generalize ae:F8 au=aw
 have zr15:=Iy ae
 refine .dd hP (Vx (by omega) ae) ?_
 conv=>cbv
 refine .go fun bb ao a1=>?_
 conv=>cbv
 refine .go hoffs fun ap a2=>?_
 conv=>cbv
 generalize af:B5 fin ap hstr aw=bc
 have zr18:=Hc af
 refine .dd hP (Rw (by omega) (by omega) (by omega) (by omega) af) ?_
 conv=>cbv
 refine .go fun ax aq a6=>?_
 conv=>cbv
 have e:ax=Cq (⟨hver,hstr,hbas,hlin⟩:Ca) offs fin:=(by have q:Cq ⟨hver,hstr,hbas,hlin⟩ offs fin=_:=if_pos ⟨ag,by simp only[];rw[←aj,←ak,ac];exact h9,by simp only[];rw[ab,ad];exact h10,by simp only[];rw[←am,aa];exact h11⟩;rw[q];simp only[];rw[←aj,←ak,ac,ab,ad,show(v2:Int)=v7 by omega,aa,←ah,aq,ao,←ah,←af,←ae,an,ai,show ap=v7 by omega];rfl)
 rw[hr]at e
 subst e
 exact hQ _ _ (.s rfl rfl)
end
section
open Go Go.Proofs
set_option maxRecDepth 20000
set_option maxHeartbeats 4000000
def Xfd:List (Nat×TyRow):=[ty3,ty9,Xcn,XgK,Xdg,XgG,XkC]
theorem XdN:B9 Tryz.prog Xfd:=B9.of (by kernel_rfl)
theorem Nw:Setup Tryz.prog Xfd:=⟨XdN,mixed⟩
def Dn(v:Int):Int→List ByteArray→List UInt8
 |_,[]=>[]
 |p,r::l=>(A2 v p r).data.toList++Dn v (p+1) l
def Gl(v:Int):Int→Int→List ByteArray→List Int
 |_,_,[]=>[]
 |p,k,r::l=>k::Gl v (p+1) (k+(A2 v p r).size) l
def Xam(h:Ca)(l:List ByteArray):List UInt8:=(Cf h).data.toList++Dn h.version_ h.base_ l
def Ch(h:Ca)(l:List ByteArray):ByteArray:=
 if Dg h=true∧l.length≤1000∧h.base_+l.length≤1000000000∧∀r∈l,r.size≤60 then
  tx (Xam h l)++Cq h (Gl h.version_ h.base_ (Cf h).size l) (Xam h l).length
 else tx []
theorem Ok{v:Int}:∀{l:List ByteArray} {p:Int} {r:ByteArray},Dn v p (l++[r])=Dn v p l++(A2 v (p+l.length) r).data.toList
 |[],p,r=>by simp[Dn]
 |x::l,p,r=>by
  rw[List.cons_append,Dn,Dn,Ok,List.append_assoc,List.length_cons,show p+1+(l.length:Int)=p+((l.length+1:Nat):Int)by omega]
theorem S3{v:Int}:∀{l:List ByteArray} {p k:Int} {r:ByteArray},Gl v p k (l++[r])=Gl v p k l++[k+(Dn v p l).length]
 |[],p,k,r=>by simp[Dn,Gl]
 |x::l,p,k,r=>by
  have e:(A2 v p x).data.toList.length=(A2 v p x).size:=Array.length_toList
  rw[List.cons_append,Gl,Gl,S3,Dn,List.cons_append,List.length_append,e,show k+((A2 v p x).size:Int)+((Dn v (p+1) l).length:Int)=k+(((A2 v p x).size+(Dn v (p+1) l).length:Nat):Int)by omega]
theorem Oy{v:Int}:∀{l:List ByteArray} {p k:Int},(Gl v p k l).length=l.length
 |[],_,_=>rfl
 |x::l,p,k=>by rw[Gl,List.length_cons,List.length_cons,Oy]
theorem K2{v:Int}:∀{l:List ByteArray} {p:Int},(Dn v p l).length≤84*l.length
 |[],_=>by simp[Dn]
 |x::l,p=>by
  have:=@K2 v l (p+1)
  have h:=Fv (rfl:A2 v p x=_)
  have e:(A2 v p x).data.size=(A2 v p x).size:=rfl
  rw[Dn,List.length_append,Array.length_toList,List.length_cons]
  omega
theorem Vk{v:Int}:∀{l:List ByteArray} {p k:Int},0≤k→∀x∈Gl v p k l,0≤x∧x≤k+84*l.length
 |[],_,_,_,x,hx=>by simp[Gl]at hx
 |y::l,p,k,hk,x,hx=>by
  rw[Gl,List.mem_cons]at hx
  have h:=Fv (rfl:A2 v p y=_)
  rcases hx with rfl|hx
  ·rw[List.length_cons];omega
  ·have:=@Vk v l (p+1) (k+(A2 v p y).size) (by omega) x hx
   rw[List.length_cons];omega
theorem Gq{h:Ca}{l:List ByteArray}{o:ByteArray}(e:Ch h l=o):o.size≤200000:=by
 rw[←e]
 unfold Ch
 split
 ·rename_i hc
  have h1:=Tu h (Gl h.version_ h.base_ (Cf h).size l) (Xam h l).length
  have h2:=Km (rfl:Cf h=_)
  have h3:=@K2 h.version_ l h.base_
  rw[ByteArray.size_append,Bz]
  rw[Oy]at h1
  have e:(Cf h).data.size=(Cf h).size:=rfl
  have h4:(Xam h l).length=(Cf h).size+(Dn h.version_ h.base_ l).length:=by unfold Xam;rw[List.length_append,Array.length_toList];rfl
  omega
 ·simp[Bz]
def Df(s:ByteArray):Bool:=decide (60<s.size)
def Ci(l:List ByteArray):Int:=if l.findIdx Df<l.length then(l.findIdx Df:Int)else -1
def Cn(l:List ByteArray):Bool:=l.any Df
theorem Xl1{l:List ByteArray}{i:Int}(h0:0≤i)(hi:i.toNat<l.length)(h:Df l[i.toNat]=true)(hb:∀(j:Nat) (hj:j<l.length),j<i.toNat→Df l[j]=false):i=Ci l:=by
 have e:l.findIdx Df=i.toNat:=(List.findIdx_eq hi).2 ⟨h,fun j hji=>hb j (by omega) hji⟩
 unfold Ci
 rw[e,if_pos hi]
 omega
theorem Xkc{l:List ByteArray}(hb:∀(j:Nat) (hj:j<l.length),Df l[j]=false): -1=Ci l:=by
 unfold Ci
 rw[if_neg]
 intro hlt
 have:=List.findIdx_getElem (w:=hlt)
 rw[hb _ hlt]at this
 cases this
theorem XiM{l:List ByteArray}:Cn l=decide (0≤Ci l):=by
 unfold Cn Ci
 by_cases h:l.findIdx Df<l.length
 ·rw[if_pos h]
  have:=List.findIdx_getElem (w:=h)
  rw[List.any_eq_true.2 ⟨_,List.getElem_mem h,this⟩]
  simp
 ·rw[if_neg h]
  have:l.any Df=false:=by
   rw[List.any_eq_false]
   intro x hx hp
   exact h (List.findIdx_lt_length_of_exists ⟨x,hx,hp⟩)
  rw[this]
  rfl
theorem Xcv{l:List ByteArray}(h:Cn l=false):∀r∈l,r.size≤60:=by
 intro r hr
 have:=List.any_eq_false.1 h r hr
 simp[Df]at this
 exact this
theorem XiQ{l:List ByteArray}(h:Cn l=true):¬∀r∈l,r.size≤60:=by
 intro hh
 obtain⟨r,hr,h'⟩:=List.any_eq_true.1 h
 have:=hh r hr
 simp[Df]at h'
 omega
variable {o:Bool} {l:List ByteArray} {xl:List (List D)} {hver hstr hbas hlin:Int}
theorem XbJ{s:ByteArray}(hr:Df s=o):Fn Tryz.prog 270 [S s] [] ⟨B o,[],[]⟩:=by
 refine Fn.go Nw Tryz.func270 fun P hP Q hQ=>?_
 conv=>cbv
 refine .go fun v1 aa=>?_
 conv=>cbv
 refine .gtr (fun h2=>?_) fun h2=>?_
 conv=>cbv
 have e:true=Df s:=(by unfold Df;rw[eq_comm,decide_eq_true_iff];omega)
 rw[hr]at e
 subst e
 exact hQ _ _ (.b rfl rfl)
 conv=>cbv
 have e:false=Df s:=(by unfold Df;rw[eq_comm,decide_eq_false_iff_not];omega)
 rw[hr]at e
 subst e
 exact hQ _ _ (.b rfl rfl)
theorem Nq{o:Int}(hl:l.map cS=xl)(hn:l.length<2^40)(hr:Ci l=o):Fn Tryz.prog 318 [.d (.row 1 xl),.clo 270 []] [] ⟨I o,[],[]⟩:=by
 refine Fn.go Nw Tryz.func318 fun P hP Q hQ=>?_
 conv=>cbv
 refine .go hl fun v1 ad=>?_
 conv=>cbv
 refine LoopW.lp (κ:=Int) Nw hP [] [0,1,7] (fun i8=>[(8,I i8)]) (fun i8=>[])
  (fun i8=>0≤i8∧i8≤l.length∧∀(j:Nat) (hj:j<l.length),j<i8.toNat→Df l[j]=false)
  (fun i8=>(l.length - i8).toNat) (0) ⟨by omega,by omega,fun j _ h=>by simp at h⟩ ⟨rfl,trivial⟩ rfl ?_
 rintro i8 J ⟨h0,h1,hb⟩ hJ
 conv=>cbv
 refine .lss (fun h2=>?_) fun h2=>?_
 conv=>cbv
 refine .go i8.toNat hl fun ac e3 ab=>?_
 conv=>cbv
 generalize aa:Df e3=r4
 refine .dd hP (XbJ aa) ?_
 cases r4
 conv=>cbv
 refine .add fun v5 ae=>?_
 conv=>cbv
 exact .go [] (v5) (hJ _ ⟨by omega,by omega,fun j hj h=>if e:j=i8.toNat then by subst e;rw[←ab];exact aa else hb j hj (by omega)⟩ mlt)
 conv=>cbv
 have e:i8=Ci l:=(by exact Xl1 h0 (by omega) (ab▸aa) hb)
 rw[hr]at e
 subst e
 exact hQ _ _ (.i rfl rfl)
 conv=>cbv
 have e:(-1)=Ci l:=(by exact Xkc fun j hj=>hb j hj (by omega))
 rw[hr]at e
 subst e
 exact hQ _ _ (.i rfl rfl)
theorem Lo(hl:l.map cS=xl)(hn:l.length<2^40)(hr:Cn l=o):Fn Tryz.prog 269 [.d (.row 1 xl),.clo 270 []] [] ⟨B o,[],[]⟩:=by
 refine Fn.go Nw Tryz.func269 fun P hP Q hQ=>?_
 conv=>cbv
 generalize aa:Ci l=r1
 refine .dd hP (Nq hl hn aa) ?_
 conv=>cbv
 refine .geq (fun h2=>?_) fun h2=>?_
 conv=>cbv
 have e:true=Cn l:=(by rw[XiM,aa,eq_comm,decide_eq_true_iff];omega)
 rw[hr]at e
 subst e
 exact hQ _ _ (.b rfl rfl)
 conv=>cbv
 have e:false=Cn l:=(by rw[XiM,aa,eq_comm,decide_eq_false_iff_not];omega)
 rw[hr]at e
 subst e
 exact hQ _ _ (.b rfl rfl)
theorem Xag{h:Ca}(hk:Dg h=true):0<(Cf h).size:=by
 unfold Cf
 rw[if_pos hk,ByteArray.size_append]
 have:0<(XdR h).size:=by
  unfold XdR
  simp only[ByteArray.size_append,Bz,List.length_cons]
  omega
 omega
theorem Pa{o:ByteArray}(hl:l.map cS=xl)(hn:l.length<2^40)(hr:Ch (⟨hver,hstr,hbas,hlin⟩:Ca) l=o):Fn Tryz.prog 204 [.agg [I hver,I hstr,I hbas,I hlin],.d (.row 1 xl)] [] ⟨S o,[],[]⟩:=by
 refine Fn.go Nw Tryz.func204 fun P hP Q hQ=>?_
 conv=>cbv
 generalize ag:Dg (⟨hver,hstr,hbas,hlin⟩:Ca)=r1
 refine .dd hP (Z0 ag) ?_
 cases r1
 conv=>cbv
 have e:(tx [])=Ch (⟨hver,hstr,hbas,hlin⟩:Ca) l:=(by unfold Ch;rw[if_neg];rintro⟨q,_⟩;rw[ag]at q;cases q)
 rw[hr]at e
 subst e
 exact hQ _ _ (.s rfl rfl)
 conv=>cbv
 refine .go hl fun v2 bk=>?_
 conv=>cbv
 refine .gtr (fun h3=>?_) fun h3=>?_
 conv=>cbv
 have e:(tx [])=Ch (⟨hver,hstr,hbas,hlin⟩:Ca) l:=(by unfold Ch;rw[if_neg];rintro⟨_,q,_⟩;omega)
 rw[hr]at e
 subst e
 exact hQ _ _ (.s rfl rfl)
 conv=>cbv
 refine .go hl fun v4 bl=>?_
 conv=>cbv
 have hh:=If ag
 refine .add fun v5 bm=>?_
 conv=>cbv
 generalize aq:Bq v5=r6
 refine .dd hP (Fq aq) ?_
 cases r6
 simp only[Bq,decide_eq_true_eq,decide_eq_false_iff_not]at aq
 conv=>cbv
 have e:(tx [])=Ch (⟨hver,hstr,hbas,hlin⟩:Ca) l:=(by unfold Ch;rw[if_neg];rintro⟨_,_,q,_⟩;simp only[]at q;omega)
 rw[hr]at e
 subst e
 exact hQ _ _ (.s rfl rfl)
 simp only[Bq,decide_eq_true_eq,decide_eq_false_iff_not]at aq
 conv=>cbv
 generalize an:Cn l=r7
 refine .dd hP (Lo hl (by omega) an) ?_
 cases r7
 conv=>cbv
 generalize ah:Cf (⟨hver,hstr,hbas,hlin⟩:Ca)=r8
 have zr8:=Km ah
 refine .dd hP (Yl ah) ?_
 conv=>cbv
 have zp:=Xag ag;rw[ah]at zp
 obtain⟨nb9,hnb9⟩:∃m,([]:List UInt8).length+r8.size=m:=⟨_,rfl⟩
 obtain⟨b9,ar⟩:∃m,[]++r8.data.toList=m:=⟨_,rfl⟩
 obtain⟨kb9,a1⟩:∃m,(r8.size:Int)=m:=⟨_,rfl⟩
 have lb9:nb9=b9.length:=by rw[←ar,List.length_append,Array.length_toList];exact hnb9.symm
 refine .bx [3,1] [1] hP (Xes rfl (by first|omega|(simp;omega)) hnb9 ar a1) rfl rfl rfl rfl ?_
 conv=>cbv
 refine .go hl fun bn bf=>?_
 conv=>cbv
 refine LoopW.lp (κ:=Int×(List UInt8)×Nat×(List (List D))×Nat) Nw hP [4,5] [2,5,35,36] (fun(aa,ab,ac,ae,af)=>[(6,.ref 7 0 af),(37,I aa)]) (fun(aa,ab,ac,ae,af)=>[(3,.box 219 [.ptr 3 0 0,.ref 6 0 ac]),(6,.buf 5 false ab),(7,.row 1 false ae)])
  (fun(aa,ab,ac,ae,af)=>∃(w7:List Int),ac=ab.length∧w7.map cI=ae∧af=w7.length∧0≤aa∧aa≤l.length∧ab=r8.data.toList++Dn hver hbas (l.take aa.toNat)∧w7=Gl hver hbas r8.size (l.take aa.toNat))
  (fun(aa,ab,ac,ae,af)=>(l.length - aa).toNat) (0,b9,nb9,[],0) ⟨[],lb9,rfl,rfl,by omega,by omega,by rw[←ar];simp[Dn],by simp[Gl]⟩ ⟨rfl,rfl,trivial⟩ rfl ?_
 rintro⟨aa,ab,ac,ae,af⟩ J ⟨w7,ao,au,bg,h0,h1,hz,hw⟩ hJ
 have q1:=@K2 hver (l.take aa.toNat) hbas
 have q2:(l.take aa.toNat).length=aa.toNat:=by rw[List.length_take];omega
 have q4:ab.length=r8.size+(Dn hver hbas (l.take aa.toNat)).length:=by rw[hz,List.length_append,Array.length_toList];rfl
 have q5:w7.length=aa.toNat:=by rw[hw,Oy,q2]
 conv=>cbv
 refine .lss (fun h11=>?_) fun h11=>?_
 conv=>cbv
 refine .go aa.toNat hl fun ba aw ap=>?_
 conv=>cbv
 obtain⟨kb13,ad⟩:∃m,((ac:Nat):Int)=m:=⟨_,rfl⟩
 refine .bx [3,6] [6] hP (Xmp (bs:=ab) ad) rfl rfl rfl rfl ?_
 conv=>cbv
 refine .one kb13 au rfl fun a2 bb bc a6=>?_
 conv=>cbv
 have ze:=Xcv an aw (ap▸List.getElem_mem _)
 refine .add fun a7 bh=>?_
 conv=>cbv
 generalize ai:A2 hver a7 aw=ax
 have zr16:=Fv ai
 refine .dd hP (Qs (by omega) ai) ?_
 conv=>cbv
 obtain⟨nb17,hnb17⟩:∃m,(ab:List UInt8).length+ax.size=m:=⟨_,rfl⟩
 obtain⟨ay,aj⟩:∃m,ab++ax.data.toList=m:=⟨_,rfl⟩
 obtain⟨kb17,az⟩:∃m,(ax.size:Int)=m:=⟨_,rfl⟩
 have lb17:nb17=ay.length:=by rw[←aj,List.length_append,Array.length_toList];exact hnb17.symm
 refine .bx [3,6] [6] hP (Xe3 ao (by first|omega|(simp;omega)) hnb17 aj az) rfl rfl rfl rfl ?_
 conv=>cbv
 refine .add fun ak bi=>?_
 conv=>cbv
 have t1:ak.toNat=aa.toNat+1:=by omega
 have t2:l.take ak.toNat=l.take aa.toNat++[aw]:=by rw[t1,ap,List.take_append_getElem]
 have t4:ay=r8.data.toList++Dn hver hbas (l.take ak.toNat):=by rw[←aj,hz,t2,Ok,q2,List.append_assoc,show hbas+((aa.toNat:Nat):Int)=a7 by omega,ai]
 have t5:w7++[kb13]=Gl hver hbas r8.size (l.take ak.toNat):=by rw[t2,S3,←hw,show kb13=(r8.size:Int)+((Dn hver hbas (l.take aa.toNat)).length:Int)by omega]
 exact .go [10,9] (ak,ay,nb17,bb,a2) (hJ _ ⟨_,Hg,a6,Hg,by omega,by omega,t4,t5⟩ mlt)
 conv=>cbv
 obtain⟨bd,al⟩:∃m,tx ab=m:=⟨_,rfl⟩
 have zb12:bd.size=ab.length:=by rw[←al,Bz]
 refine .bx [3,6] [6] hP (XeI (x:=.ptr 0 0 0) ao (by intro e;rw[e]at q4;simp at q4;omega) (by first|omega|(simp;omega)) al) rfl rfl rfl rfl ?_
 conv=>cbv
 obtain⟨kb13,ad⟩:∃m,((ac:Nat):Int)=m:=⟨_,rfl⟩
 refine .bx [3,6] [6] hP (Xmp (bs:=ab) ad) rfl rfl rfl rfl ?_
 conv=>cbv
 generalize am:Cq (⟨hver,hstr,hbas,hlin⟩:Ca) w7 kb13=bo
 have zr14:=Wb am
 refine .lnt hP (Xgj au (by omega) (fun x hx=>by rw[hw]at hx;have:=Vk (k:=(r8.size:Int)) (by omega) x hx;exact⟨by omega,by omega⟩) (by omega) am) (.agg (.d rfl (.d rfl (.d rfl (.d rfl .nil)))) (.ref rfl (by rw[←au,List.length_map];first|omega|(simp;omega)) (.d rfl .nil))) ?_
 conv=>cbv
 refine .go fun be a8 bj=>?_
 conv=>cbv
 have t0:l.take aa.toNat=l:=List.take_of_length_le (by omega)
 have e1:Xam ⟨hver,hstr,hbas,hlin⟩ l=ab:=by unfold Xam;rw[ah,hz,t0]
 have e2:Gl hver hbas r8.size l=w7:=by rw[hw,t0]
 have e:be=Ch (⟨hver,hstr,hbas,hlin⟩:Ca) l:=(by unfold Ch;rw[if_pos ⟨ag,by omega,by simp only[];omega,Xcv an⟩,e1,ah,a8,←al,←am,←e2];show _=tx ab++Cq _ (Gl hver hbas r8.size l) ab.length;congr 2;omega)
 rw[hr]at e
 subst e
 exact hQ _ _ (.s rfl rfl)
 conv=>cbv
 have e:(tx [])=Ch (⟨hver,hstr,hbas,hlin⟩:Ca) l:=(by unfold Ch;rw[if_neg];rintro⟨_,_,_,q⟩;exact XiQ an q)
 rw[hr]at e
 subst e
 exact hQ _ _ (.s rfl rfl)
theorem Y1{o:ByteArray}(hl:l.map cS=xl)(hn:l.length<2^40)(hr:Ch (⟨hver,hstr,hbas,hlin⟩:Ca) l=o):Fn Tryz.prog 191 [.agg [I hver,I hstr,I hbas,I hlin],.d (.row 1 xl)] [] ⟨S o,[],[]⟩:=by
 refine Fn.go Nw Tryz.func191 fun P hP Q hQ=>?_
 conv=>cbv
 generalize aj:Dg (⟨hver,hstr,hbas,hlin⟩:Ca)=r1
 refine .dd hP (Zn aj) ?_
 cases r1
 conv=>cbv
 have e:(tx [])=Ch (⟨hver,hstr,hbas,hlin⟩:Ca) l:=(by unfold Ch;rw[if_neg];rintro⟨q,_⟩;rw[aj]at q;cases q)
 rw[hr]at e
 subst e
 exact hQ _ _ (.s rfl rfl)
 conv=>cbv
 refine .go hl fun v2 bt=>?_
 conv=>cbv
 refine .gtr (fun h3=>?_) fun h3=>?_
 conv=>cbv
 have e:(tx [])=Ch (⟨hver,hstr,hbas,hlin⟩:Ca) l:=(by unfold Ch;rw[if_neg];rintro⟨_,q,_⟩;omega)
 rw[hr]at e
 subst e
 exact hQ _ _ (.s rfl rfl)
 conv=>cbv
 refine .go hl fun v4 bu=>?_
 conv=>cbv
 have hh:=If aj
 refine .add fun v5 bv=>?_
 conv=>cbv
 refine .gtr (fun h6=>?_) fun h6=>?_
 conv=>cbv
 have e:(tx [])=Ch (⟨hver,hstr,hbas,hlin⟩:Ca) l:=(by unfold Ch;rw[if_neg];rintro⟨_,_,q,_⟩;simp only[]at q;omega)
 rw[hr]at e
 subst e
 exact hQ _ _ (.s rfl rfl)
 conv=>cbv
 generalize ak:Cf (⟨hver,hstr,hbas,hlin⟩:Ca)=r7
 have zr7:=Km ak
 refine .dd hP (Xg ak) ?_
 conv=>cbv
 refine .go fun a2 z8 bi a6=>?_
 conv=>cbv
 refine LoopW.lp (κ:=Int×(List (List D))×Nat×(List (List D))×Nat) Nw hP [1,2] [1,2] (fun(i7,aa,ab,ac,ad)=>[(5,.ref 3 0 ab),(6,.ref 4 0 ad),(7,I i7)]) (fun(i7,aa,ab,ac,ad)=>[(3,.row 1 false aa),(4,.row 1 false ac)])
  (fun(i7,aa,ab,ac,ad)=>∃(w3:List UInt8) (w4:List Int),w3.map cB=aa∧ab=w3.length∧w4.map cI=ac∧ad=w4.length∧0≤i7∧i7≤l.length∧w3=r7.data.toList++Dn hver hbas (l.take i7.toNat)∧w4=Gl hver hbas r7.size (l.take i7.toNat)∧∀r∈l.take i7.toNat,r.size≤60)
  (fun(i7,aa,ab,ac,ad)=>(l.length - i7).toNat) (0,z8,a2,[],0) ⟨r7.data.toList,[],a6,(by first|omega|(simp;omega)),rfl,rfl,by omega,by omega,by simp[Dn],by simp[Gl],by simp⟩ ⟨rfl,rfl,rfl,trivial⟩ rfl ?_
 rintro⟨i7,aa,ab,ac,ad⟩ J ⟨w3,w4,aq,bj,al,bk,h0,h1,hz,hw,am⟩ hJ
 have q1:=@K2 hver (l.take i7.toNat) hbas
 have q2:(l.take i7.toNat).length=i7.toNat:=by rw[List.length_take];omega
 have q4:w3.length=r7.size+(Dn hver hbas (l.take i7.toNat)).length:=by rw[hz,List.length_append,Array.length_toList];rfl
 have q5:w4.length=i7.toNat:=by rw[hw,Oy,q2]
 conv=>cbv
 refine .go hl fun v9 bw=>?_
 conv=>cbv
 refine .lss (fun h10=>?_) fun h10=>?_
 conv=>cbv
 refine .go i7.toNat hl fun a7 a8 af=>?_
 conv=>cbv
 refine .go fun bz bl=>?_
 conv=>cbv
 refine .gtr (fun h13=>?_) fun h13=>?_
 conv=>cbv
 have e:(tx [])=Ch (⟨hver,hstr,hbas,hlin⟩:Ca) l:=(by unfold Ch;rw[if_neg];rintro⟨_,_,_,q⟩;have:=q a8 (af▸List.getElem_mem _);omega)
 rw[hr]at e
 subst e
 exact hQ _ _ (.s rfl rfl)
 conv=>cbv
 refine .go fun an bm=>?_
 conv=>cbv
 refine .one an al rfl fun ar ba bb au=>?_
 conv=>cbv
 refine .add fun aw bn=>?_
 conv=>cbv
 refine .go i7.toNat hl fun bc ao ag=>?_
 conv=>cbv
 have b0:ao.size≤60:=by rw[ag,←af];omega
 generalize ah:A2 hver aw ao=bd
 have zr18:=Fv ah
 refine .dd hP (Qq (by omega) ah) ?_
 conv=>cbv
 refine .str aq fun ax be bf ay=>?_
 conv=>cbv
 refine .add fun ae bo=>?_
 conv=>cbv
 have t1:ae.toNat=i7.toNat+1:=by omega
 have t2:l.take ae.toNat=l.take i7.toNat++[ao]:=by rw[t1,ag,List.take_append_getElem]
 have t4:w3++bd.data.toList=r7.data.toList++Dn hver hbas (l.take ae.toNat):=by rw[hz,t2,Ok,q2,List.append_assoc,show hbas+((i7.toNat:Nat):Int)=aw by omega,ah]
 have t5:w4++[an]=Gl hver hbas r7.size (l.take ae.toNat):=by rw[t2,S3,←hw,show an=(r7.size:Int)+((Dn hver hbas (l.take i7.toNat)).length:Int)by omega]
 have t6:∀r∈l.take ae.toNat,r.size≤60:=by rw[t2];intro r hr';rcases List.mem_append.1 hr' with h|h;exact am r h;rw[List.mem_singleton.1 h,ag,←af];omega
 exact .go [7,6] (ae,be,ax,ba,ar) (hJ _ ⟨_,_,ay,Hg,au,Hg,by omega,by omega,t4,t5,t6⟩ mlt)
 conv=>cbv
 refine .go fun bg bp=>?_
 conv=>cbv
 generalize ai:Cq (⟨hver,hstr,hbas,hlin⟩:Ca) w4 bg=b2
 have zr12:=Wb ai
 refine .lnt hP (Xgq al (by omega) (fun x hx=>by rw[hw]at hx;have:=Vk (k:=(r7.size:Int)) (by omega) x hx;exact⟨by omega,by omega⟩) (by omega) ai) (.agg (.d rfl (.d rfl (.d rfl (.d rfl .nil)))) (.ref rfl (by rw[←al,List.length_map];first|omega|(simp;omega)) (.d rfl .nil))) ?_
 conv=>cbv
 refine .str aq fun bq b3 ap az=>?_
 conv=>cbv
 refine .go az (hn:=by rw[ap,List.length_append,Array.length_toList];rfl) fun bh a1=>?_
 conv=>cbv
 have t0:l.take i7.toNat=l:=List.take_of_length_le (by omega)
 have e1:Xam ⟨hver,hstr,hbas,hlin⟩ l=w3:=by unfold Xam;rw[ak,hz,t0]
 have e2:Gl hver hbas r7.size l=w4:=by rw[hw,t0]
 rw[t0]at am
 have e:bh=Ch (⟨hver,hstr,hbas,hlin⟩:Ca) l:=(by unfold Ch;rw[if_pos ⟨aj,by omega,by simp only[];omega,am⟩,e1,ak,a1,←Dw,Wd,←ai,←e2];show _=tx w3++Cq _ (Gl hver hbas r7.size l) w3.length;congr 2;omega)
 rw[hr]at e
 subst e
 exact hQ _ _ (.s rfl rfl)
end
section
open Go Go.Proofs
set_option maxRecDepth 20000
set_option maxHeartbeats 4000000
theorem Xf:∀(k:Nat) {h:Ca} {b:ByteArray} {n:Nat} {p:Int},(b.size - p).toNat≤k→0≤p∧p≤b.size→p+(Ir h b n p).1.length≤b.size
 |k,h,b,n,p,hk,hp=>by
  cases hm:Em h.version_ (h.base_+n) b p
  ·rcases hf:Bf h.version_ (h.base_+n) b p with⟨r,q,ok⟩
   cases ok
   ·rw[Pl hm hf]
    simpa using hp.2
   ·have h2:=H0 hf
    rw[Pc hm hf]
    cases k with
    |zero=>omega
    |succ k=>
     have ih:=Xf k (h:=h) (b:=b) (n:=n+1) (p:=q) (by omega) (by omega)
     rw[List.length_cons]
     omega
  ·rw[Pf hm]
   simpa using hp.2
theorem Io{b:ByteArray}:(Bs b).records_.length≤b.size:=by
 unfold Bs
 split
 ·rename_i h e
  have h2:=Hm e
  have:=Xf _ (h:=h) (b:=b) (n:=0) (p:=24) (Nat.le_refl _) (by omega)
  show(Ir h b 0 24).1.length≤_
  omega
 ·simp
end
section
open Go Go.Proofs
set_option maxRecDepth 20000
set_option maxHeartbeats 4000000
def Xff:List (Nat×TyRow):=[ty3,ty9,XhE,XaP,Zr,Zd,Xai]
theorem XdM:B9 Tryz.prog Xff:=B9.of (by kernel_rfl)
theorem F4:Setup Tryz.prog Xff:=⟨XdM,mixed⟩
def Vd{α:Type}(p:α→Bool)(l:List α):Int:=if l.findIdx p<l.length then(l.findIdx p:Int)else -1
section
variable {α:Type} {p:α→Bool} {l:List α} {i:Int}
theorem Mu(h0:0≤i)(hi:i.toNat<l.length)(h:p l[i.toNat]=true)(hb:∀(j:Nat) (hj:j<l.length),j<i.toNat→p l[j]=false):i=Vd p l:=by
 have e:l.findIdx p=i.toNat:=(List.findIdx_eq hi).2 ⟨h,fun j hji=>hb j (by omega) hji⟩
 unfold Vd
 rw[e,if_pos hi]
 omega
theorem Ib(hb:∀(j:Nat) (hj:j<l.length),p l[j]=false): -1=Vd p l:=by
 unfold Vd
 rw[if_neg]
 intro hlt
 have:=List.findIdx_getElem (w:=hlt)
 rw[hb _ hlt]at this
 cases this
theorem XeX(e:Vd p l=i): -1≤i∧i<l.length:=by
 rw[←e]
 unfold Vd
 split<;>omega
theorem Um(e:Vd p l=i)(h:0≤i):∃hi:i.toNat<l.length,p l[i.toNat]=true:=by
 unfold Vd at e
 split at e
 ·rename_i hlt
  have e2:i.toNat=l.findIdx p:=by omega
  refine⟨by omega,?_⟩
  have:=List.findIdx_getElem (w:=hlt)
  simpa only[e2]using this
 ·omega
theorem XdC(e:Vd p l=i)(h:i<0):∀x∈l,p x=false:=by
 unfold Vd at e
 split at e
 ·omega
 ·rename_i hlt
  intro x hx
  cases hp:p x
  ·rfl
  ·exact absurd (List.findIdx_lt_length_of_exists ⟨x,hx,hp⟩) hlt
end
def Co(e:Ad)(name:ByteArray):Bool:=decide (e.name_=name)
def Ef(l:List Ad)(name:ByteArray):Int:=Vd (fun e=>Co e name) l
def Bc(l:List Ad)(name:ByteArray):Int:=Ef l name
def Ew(n:Bk)(id:Int):Bool:=decide (n.id_=id)
def E5(l:List Bk)(id:Int):Int:=Vd (fun n=>Ew n id) l
def Iu(d:Aa)(id:Int):Int:=E5 d.nodes_ id
def Hj(d:Aa)(id:Int):Int:=Iu d id
def Cz(l:List Ad)(name:ByteArray):Int:=if Bc l name<0 then 0 else(l.getD (Bc l name).toNat ⟨tx [],0⟩).id_
def Ea(l:List Ad)(name:ByteArray):Bool:=decide (0≤Bc l name)
def Db(d:Aa)(name:ByteArray):Int:=if Bc d.entries_ name<0 then -1 else Iu d (Cz d.entries_ name)
def Fl(d:Aa)(name:ByteArray):Bk×Bool:=if Db d name<0 then(⟨0,tx [],0⟩,false)else(d.nodes_.getD (Db d name).toNat ⟨0,tx [],0⟩,true)
def Gr(d:Aa)(name:ByteArray):ByteArray×Bool:=((Fl d name).1.text_,(Fl d name).2)
def okD(d:Aa):Prop:=d.nodes_.length≤1000000000∧(∀n∈d.nodes_,n.text_.size≤1000000000)∧d.entries_.length≤1000000000∧(∀e∈d.entries_,e.name_.size≤1000000000)∧d.old_.length≤1000000000∧d.steps_.length≤1000000000
theorem gD{α:Type}{l:List α}{k:Nat}{d:α}(h:k<l.length):l[k]=l.getD k d:=by rw[List.getD_eq_getElem?_getD,List.getElem?_eq_getElem h];rfl
theorem Ik{l:List Ad}{name:ByteArray}{i:Int}(e:Bc l name=i): -1≤i∧i<l.length:=XeX e
theorem Yx{d:Aa}{id i:Int}(e:Iu d id=i): -1≤i∧i<d.nodes_.length:=XeX e
theorem Hs{d:Aa}{name:ByteArray}{i:Int}(e:Db d name=i): -1≤i∧i<d.nodes_.length:=by
 unfold Db at e
 split at e
 ·omega
 ·exact Yx e
theorem Xd1{d:Aa}{name t:ByteArray}{ok:Bool}(hd:okD d)(e:Gr d name=(t,ok)):t.size≤1000000000:=by
 have e1:(Fl d name).1.text_=t:=congrArg Prod.fst e
 rw[←e1]
 unfold Fl
 split
 ·simp[Bz]
 ·rename_i h
  have h2:=Hs (rfl:Db d name=_)
  have h3:(Db d name).toNat<d.nodes_.length:=by omega
  rw[←gD h3]
  exact hd.2.1 _ (List.getElem_mem h3)
theorem P8{d:Aa}{name:ByteArray}:Fl d name=if Hj d (Cz d.entries_ name)<0∨Ea d.entries_ name=false then(⟨0,tx [],0⟩,false)else(d.nodes_.getD (Hj d (Cz d.entries_ name)).toNat ⟨0,tx [],0⟩,true):=by
 unfold Fl Db Hj Ea
 by_cases h:Bc d.entries_ name<0
 ·rw[if_pos h,if_pos (by omega),if_pos (.inr (by simp;omega))]
 ·rw[if_neg h]
  by_cases h2:Iu d (Cz d.entries_ name)<0
  ·rw[if_pos h2,if_pos (.inl h2)]
  ·rw[if_neg h2,if_neg]
   rintro(h3|h3)
   ·exact h2 h3
   ·simp at h3;omega
variable {name oatex oa:ByteArray} {o id Ao An oaid oasur:Int} {l Ag Ah:List Ad} {xl Bo Bl Bj Bn:List (List D)} {Ae:List Bk} {Af:List ByteArray} {ob:Bool}
theorem XdT{enam:ByteArray}{eid:Int}{o:Bool}(hr:Co (⟨enam,eid⟩:Ad) name=o):Fn Tryz.prog 322 [.agg [S enam,I eid],.ptr 0 0 0] [.box 9 [S name]] ⟨B o,[],[]⟩:=by
 refine Fn.goR F4 Tryz.func322 fun P hP Q hQ=>?_
 conv=>cbv
 refine .eql (fun h1=>?_) fun h1=>?_
 conv=>cbv
 have e:true=Co (⟨enam,eid⟩:Ad) name:=(by unfold Co;symm;rw[decide_eq_true_eq];exact h1)
 rw[hr]at e
 subst e
 exact hQ _ _ (.of [] (.inl rfl) rfl rfl rfl rfl)
 conv=>cbv
 have e:false=Co (⟨enam,eid⟩:Ad) name:=(by unfold Co;symm;rw[decide_eq_false_iff_not];exact h1)
 rw[hr]at e
 subst e
 exact hQ _ _ (.of [] (.inl rfl) rfl rfl rfl rfl)
theorem U9{nid:Int}{ntex:ByteArray}{nsur:Int}{o:Bool}(hr:Ew (⟨nid,ntex,nsur⟩:Bk) id=o):Fn Tryz.prog 303 [.agg [I nid,S ntex,I nsur],.ptr 0 0 0] [.box 3 [I id]] ⟨B o,[],[]⟩:=by
 refine Fn.goR F4 Tryz.func303 fun P hP Q hQ=>?_
 conv=>cbv
 refine .eql (fun h1=>?_) fun h1=>?_
 conv=>cbv
 have e:true=Ew (⟨nid,ntex,nsur⟩:Bk) id:=(by unfold Ew;symm;rw[decide_eq_true_eq];exact h1)
 rw[hr]at e
 subst e
 exact hQ _ _ (.of [] (.inl rfl) rfl rfl rfl rfl)
 conv=>cbv
 have e:false=Ew (⟨nid,ntex,nsur⟩:Bk) id:=(by unfold Ew;symm;rw[decide_eq_false_iff_not];exact h1)
 rw[hr]at e
 subst e
 exact hQ _ _ (.of [] (.inl rfl) rfl rfl rfl rfl)
theorem Oh(hl:l.map Ac=xl)(hn:l.length<2^40)(hr:Ef l name=o):Fn Tryz.prog 301 [.d (.row 2 xl),.clo 322 [.ptr 0 0 0]] [.box 9 [S name]] ⟨I o,[],[]⟩:=by
 refine Fn.goR F4 Tryz.func301 fun P hP Q hQ=>?_
 conv=>cbv
 refine .go hl fun v1 af=>?_
 conv=>cbv
 refine LoopW.lp (κ:=Int) F4 hP [] [0,1,7] (fun i8=>[(8,I i8)]) (fun i8=>[])
  (fun i8=>0≤i8∧i8≤l.length∧∀(j:Nat) (hj:j<l.length),j<i8.toNat→Co l[j] name=false)
  (fun i8=>(l.length - i8).toNat) (0) ⟨by omega,by omega,fun j _ h=>by simp at h⟩ ⟨rfl,trivial⟩ rfl ?_
 rintro i8 J ⟨h0,h1,hb⟩ hJ
 conv=>cbv
 refine .lss (fun h2=>?_) fun h2=>?_
 conv=>cbv
 refine .go i8.toNat hl fun ae ⟨aa,ac⟩ ad=>?_
 conv=>cbv
 generalize ab:Co (⟨aa,ac⟩:Ad) name=r4
 refine .bx [0] [] hP (XdT ab) rfl rfl rfl rfl ?_
 cases r4
 conv=>cbv
 refine .add fun v5 ag=>?_
 conv=>cbv
 exact .go [] (v5) (hJ _ ⟨by omega,by omega,fun j hj h=>if e:j=i8.toNat then by subst e;rw[←ad];exact ab else hb j hj (by omega)⟩ mlt)
 conv=>cbv
 have e:i8=Ef l name:=(by exact Mu (p:=fun x=>Co x name) h0 (by omega) (ad▸ab) hb)
 rw[hr]at e
 subst e
 exact hQ _ _ (.of [] (.inl rfl) rfl rfl rfl rfl)
 conv=>cbv
 have e:(-1)=Ef l name:=(by exact Ib (p:=fun x=>Co x name) fun j hj=>hb j hj (by omega))
 rw[hr]at e
 subst e
 exact hQ _ _ (.of [] (.inl rfl) rfl rfl rfl rfl)
theorem Pr{l:List Bk}(hl:l.map Bg=xl)(hn:l.length<2^40)(hr:E5 l id=o):Fn Tryz.prog 302 [.d (.row 3 xl),.clo 303 [.ptr 0 0 0]] [.box 3 [I id]] ⟨I o,[],[]⟩:=by
 refine Fn.goR F4 Tryz.func302 fun P hP Q hQ=>?_
 conv=>cbv
 refine .go hl fun v1 ag=>?_
 conv=>cbv
 refine LoopW.lp (κ:=Int) F4 hP [] [0,1,7] (fun i8=>[(8,I i8)]) (fun i8=>[])
  (fun i8=>0≤i8∧i8≤l.length∧∀(j:Nat) (hj:j<l.length),j<i8.toNat→Ew l[j] id=false)
  (fun i8=>(l.length - i8).toNat) (0) ⟨by omega,by omega,fun j _ h=>by simp at h⟩ ⟨rfl,trivial⟩ rfl ?_
 rintro i8 J ⟨h0,h1,hb⟩ hJ
 conv=>cbv
 refine .lss (fun h2=>?_) fun h2=>?_
 conv=>cbv
 refine .go i8.toNat hl fun af ⟨ad,aa,ab⟩ ae=>?_
 conv=>cbv
 generalize ac:Ew (⟨ad,aa,ab⟩:Bk) id=r4
 refine .bx [0] [] hP (U9 ac) rfl rfl rfl rfl ?_
 cases r4
 conv=>cbv
 refine .add fun v5 ah=>?_
 conv=>cbv
 exact .go [] (v5) (hJ _ ⟨by omega,by omega,fun j hj h=>if e:j=i8.toNat then by subst e;rw[←ae];exact ac else hb j hj (by omega)⟩ mlt)
 conv=>cbv
 have e:i8=E5 l id:=(by exact Mu (p:=fun x=>Ew x id) h0 (by omega) (ae▸ac) hb)
 rw[hr]at e
 subst e
 exact hQ _ _ (.of [] (.inl rfl) rfl rfl rfl rfl)
 conv=>cbv
 have e:(-1)=E5 l id:=(by exact Ib (p:=fun x=>Ew x id) fun j hj=>hb j hj (by omega))
 rw[hr]at e
 subst e
 exact hQ _ _ (.of [] (.inl rfl) rfl rfl rfl rfl)
theorem Kr(hl:l.map Ac=xl)(hn:l.length<2^40)(hr:Bc l name=o):Fn Tryz.prog 280 [.d (.row 2 xl),S name] [] ⟨I o,[],[]⟩:=by
 refine Fn.go F4 Tryz.func280 fun P hP Q hQ=>?_
 conv=>cbv
 generalize aa:Ef l name=r1
 refine .bx [0] [] hP (Oh hl (by omega) aa) rfl rfl rfl rfl ?_
 conv=>cbv
 have e:r1=Bc l name:=(by unfold Bc;exact aa.symm)
 rw[hr]at e
 subst e
 exact hQ _ _ (.i rfl rfl)
theorem Mq(Aj:Ae.map Bg=Bo)(Am:Ag.map Ac=Bl)(At:Ah.map Ac=Bj)(Ap:Af.map cS=Bn)(hn:Ae.length<2^40)(hr:Iu (⟨Ae,Ag,Ah,Af,Ao,An⟩:Aa) id=o):Fn Tryz.prog 249 [.agg [.d (.row 3 Bo),.d (.row 2 Bl),.d (.row 2 Bj),.d (.row 1 Bn),I Ao,I An],I id] [] ⟨I o,[],[]⟩:=by
 refine Fn.go F4 Tryz.func249 fun P hP Q hQ=>?_
 conv=>cbv
 generalize aa:E5 Ae id=r1
 refine .bx [1] [] hP (Pr Aj (by omega) aa) rfl rfl rfl rfl ?_
 conv=>cbv
 have e:r1=Iu (⟨Ae,Ag,Ah,Af,Ao,An⟩:Aa) id:=(by unfold Iu;exact aa.symm)
 rw[hr]at e
 subst e
 exact hQ _ _ (.i rfl rfl)
theorem Na(Aj:Ae.map Bg=Bo)(Am:Ag.map Ac=Bl)(At:Ah.map Ac=Bj)(Ap:Af.map cS=Bn)(hd:okD ⟨Ae,Ag,Ah,Af,Ao,An⟩)(hr:Db (⟨Ae,Ag,Ah,Af,Ao,An⟩:Aa) name=o):Fn Tryz.prog 217 [.agg [.d (.row 3 Bo),.d (.row 2 Bl),.d (.row 2 Bj),.d (.row 1 Bn),I Ao,I An],S name] [] ⟨I o,[],[]⟩:=by
 refine Fn.go F4 Tryz.func217 fun P hP Q hQ=>?_
 conv=>cbv
 obtain⟨d1,d2,d3,d4,d5,d6⟩:=hd
 simp only[]at d1 d2 d3 d4 d5 d6
 generalize aa:Bc Ag name=r1
 refine .dd hP (Kr Am (by omega) aa) ?_
 conv=>cbv
 have hb:=Ik aa
 refine .lss (fun h2=>?_) fun h2=>?_
 conv=>cbv
 have e:(-1)=Db (⟨Ae,Ag,Ah,Af,Ao,An⟩:Aa) name:=(by unfold Db;rw[if_pos (by simp only[];omega)])
 rw[hr]at e
 subst e
 exact hQ _ _ (.i rfl rfl)
 conv=>cbv
 refine .go r1.toNat Am fun ab ⟨ae,ac⟩ af=>?_
 conv=>cbv
 generalize ad:Iu (⟨Ae,Ag,Ah,Af,Ao,An⟩:Aa) ac=r4
 refine .dd hP (Mq Aj Am At Ap (by omega) ad) ?_
 conv=>cbv
 have e:r4=Db (⟨Ae,Ag,Ah,Af,Ao,An⟩:Aa) name:=(by unfold Db Cz;simp only[];rw[aa,if_neg (by omega),if_neg (by omega),←gD ab,←af];exact ad.symm)
 rw[hr]at e
 subst e
 exact hQ _ _ (.i rfl rfl)
theorem Xft(Aj:Ae.map Bg=Bo)(Am:Ag.map Ac=Bl)(At:Ah.map Ac=Bj)(Ap:Af.map cS=Bn)(hd:okD ⟨Ae,Ag,Ah,Af,Ao,An⟩)(hr:Fl (⟨Ae,Ag,Ah,Af,Ao,An⟩:Aa) name=(⟨oaid,oatex,oasur⟩,ob)):Fn Tryz.prog 147 [.agg [.d (.row 3 Bo),.d (.row 2 Bl),.d (.row 2 Bj),.d (.row 1 Bn),I Ao,I An],S name] [] ⟨.tup [.agg [I oaid,S oatex,I oasur],B ob],[],[]⟩:=by
 refine Fn.go F4 Tryz.func147 fun P hP Q hQ=>?_
 conv=>cbv
 generalize aa:Db (⟨Ae,Ag,Ah,Af,Ao,An⟩:Aa) name=r1
 refine .dd hP (Na Aj Am At Ap hd aa) ?_
 conv=>cbv
 have hb:=Hs aa
 simp only[]at hb
 refine .lss (fun h2=>?_) fun h2=>?_
 conv=>cbv
 have e:((⟨0,tx [],0⟩:Bk),false)=Fl (⟨Ae,Ag,Ah,Af,Ao,An⟩:Aa) name:=(by unfold Fl;rw[if_pos (by rw[aa];omega)])
 rw[hr]at e
 simp only[Prod.mk.injEq,Bk.mk.injEq]at e
 obtain⟨⟨rfl,rfl,rfl⟩,rfl⟩:=e
 refine hQ _ _ ?_
 exact .many (.inl rfl) rfl rfl (.agg (.d rfl rfl (.d rfl rfl (.d rfl rfl (.nil)))) (.d rfl rfl (.nil)))
 conv=>cbv
 refine .go r1.toNat Aj fun af ⟨ad,ab,ac⟩ ae=>?_
 conv=>cbv
 have e:((⟨ad,ab,ac⟩:Bk),true)=Fl (⟨Ae,Ag,Ah,Af,Ao,An⟩:Aa) name:=(by unfold Fl;rw[aa,if_neg (by omega)];simp only[];rw[←gD (show r1.toNat<Ae.length by omega)];rw[←ae])
 rw[hr]at e
 simp only[Prod.mk.injEq,Bk.mk.injEq]at e
 obtain⟨⟨rfl,rfl,rfl⟩,rfl⟩:=e
 refine hQ _ _ ?_
 exact .many (.inl rfl) rfl rfl (.agg (.d rfl rfl (.d rfl rfl (.d rfl rfl (.nil)))) (.d rfl rfl (.nil)))
theorem XfZ(Aj:Ae.map Bg=Bo)(Am:Ag.map Ac=Bl)(At:Ah.map Ac=Bj)(Ap:Af.map cS=Bn)(hd:okD ⟨Ae,Ag,Ah,Af,Ao,An⟩)(hr:Gr (⟨Ae,Ag,Ah,Af,Ao,An⟩:Aa) name=(oa,ob)):Fn Tryz.prog 261 [.agg [.d (.row 3 Bo),.d (.row 2 Bl),.d (.row 2 Bj),.d (.row 1 Bn),I Ao,I An],S name] [] ⟨.tup [S oa,B ob],[],[]⟩:=by
 refine Fn.go F4 Tryz.func261 fun P hP Q hQ=>?_
 conv=>cbv
 rcases ab:Fl (⟨Ae,Ag,Ah,Af,Ao,An⟩:Aa) name with⟨⟨ad,aa,ac⟩,ae⟩
 refine .dd hP (Xft Aj Am At Ap hd ab) ?_
 conv=>cbv
 have e:(aa,ae)=Gr (⟨Ae,Ag,Ah,Af,Ao,An⟩:Aa) name:=(by unfold Gr;rw[ab])
 rw[hr]at e
 simp only[Prod.mk.injEq]at e
 obtain⟨rfl,rfl⟩:=e
 refine hQ _ _ ?_
 exact .many (.inl rfl) rfl rfl (.d rfl rfl (.d rfl rfl (.nil)))
theorem Mc(hl:l.map Ac=xl)(hn:l.length<2^40)(hr:Cz l name=o):Fn Tryz.prog 213 [.d (.row 2 xl),S name] [] ⟨I o,[],[]⟩:=by
 refine Fn.go F4 Tryz.func213 fun P hP Q hQ=>?_
 conv=>cbv
 refine LoopW.lp (κ:=Int) F4 hP [] [0,1] (fun i5=>[(5,I i5)]) (fun i5=>[])
  (fun i5=>0≤i5∧i5≤l.length∧∀(j:Nat) (hj:j<l.length),j<i5.toNat→Co l[j] name=false)
  (fun i5=>(l.length - i5).toNat) (0) ⟨by omega,by omega,fun j _ h=>by simp at h⟩ ⟨rfl,trivial⟩ rfl ?_
 rintro i5 J ⟨h0,h1,hb⟩ hJ
 conv=>cbv
 refine .go hl fun v1 ai=>?_
 conv=>cbv
 refine .lss (fun h2=>?_) fun h2=>?_
 conv=>cbv
 refine .go i5.toNat hl fun ag ⟨ad,ah⟩ aa=>?_
 conv=>cbv
 refine .eql (fun h4=>?_) fun h4=>?_
 conv=>cbv
 refine .go i5.toNat hl fun ab ⟨ae,ac⟩ af=>?_
 conv=>cbv
 have e:ac=Cz l name:=(by have e2:Bc l name=i5:=(Mu (p:=fun x=>Co x name) (l:=l) h0 (by omega) (by rw[←aa];unfold Co;rw[decide_eq_true_eq];exact h4) hb).symm;unfold Cz;rw[e2,if_neg (by omega),←gD ab,←af])
 rw[hr]at e
 subst e
 exact hQ _ _ (.i rfl rfl)
 conv=>cbv
 refine .add fun v5 aj=>?_
 conv=>cbv
 exact .go [] (v5) (hJ _ ⟨by omega,by omega,fun j hj h=>if e:j=i5.toNat then by subst e;rw[←aa];unfold Co;rw[decide_eq_false_iff_not];exact h4 else hb j hj (by omega)⟩ mlt)
 conv=>cbv
 have e:0=Cz l name:=(by have e2:Bc l name= -1:=(Ib (p:=fun x=>Co x name) fun j hj=>hb j hj (by omega)).symm;unfold Cz;rw[e2,if_pos (by omega)])
 rw[hr]at e
 subst e
 exact hQ _ _ (.i rfl rfl)
theorem Q2(Aj:Ae.map Bg=Bo)(Am:Ag.map Ac=Bl)(At:Ah.map Ac=Bj)(Ap:Af.map cS=Bn)(hn:Ae.length<2^40)(hr:Hj (⟨Ae,Ag,Ah,Af,Ao,An⟩:Aa) id=o):Fn Tryz.prog 212 [.agg [.d (.row 3 Bo),.d (.row 2 Bl),.d (.row 2 Bj),.d (.row 1 Bn),I Ao,I An],I id] [] ⟨I o,[],[]⟩:=by
 refine Fn.go F4 Tryz.func212 fun P hP Q hQ=>?_
 conv=>cbv
 refine LoopW.lp (κ:=Int) F4 hP [] [1,2] (fun i5=>[(5,I i5)]) (fun i5=>[])
  (fun i5=>0≤i5∧i5≤Ae.length∧∀(j:Nat) (hj:j<Ae.length),j<i5.toNat→Ew Ae[j] id=false)
  (fun i5=>(Ae.length - i5).toNat) (0) ⟨by omega,by omega,fun j _ h=>by simp at h⟩ ⟨rfl,trivial⟩ rfl ?_
 rintro i5 J ⟨h0,h1,hb⟩ hJ
 conv=>cbv
 refine .go Aj fun v1 af=>?_
 conv=>cbv
 refine .lss (fun h2=>?_) fun h2=>?_
 conv=>cbv
 refine .go i5.toNat Aj fun ad ⟨ae,ab,ac⟩ aa=>?_
 conv=>cbv
 refine .eql (fun h4=>?_) fun h4=>?_
 conv=>cbv
 have e:i5=Hj (⟨Ae,Ag,Ah,Af,Ao,An⟩:Aa) id:=(by exact Mu (p:=fun x=>Ew x id) (l:=Ae) h0 (by omega) (by rw[←aa];unfold Ew;rw[decide_eq_true_eq];exact h4) hb)
 rw[hr]at e
 subst e
 exact hQ _ _ (.i rfl rfl)
 conv=>cbv
 refine .add fun v5 ag=>?_
 conv=>cbv
 exact .go [] (v5) (hJ _ ⟨by omega,by omega,fun j hj h=>if e:j=i5.toNat then by subst e;rw[←aa];unfold Ew;rw[decide_eq_false_iff_not];exact h4 else hb j hj (by omega)⟩ mlt)
 conv=>cbv
 have e:(-1)=Hj (⟨Ae,Ag,Ah,Af,Ao,An⟩:Aa) id:=(by exact Ib (p:=fun x=>Ew x id) (l:=Ae) fun j hj=>hb j hj (by omega))
 rw[hr]at e
 subst e
 exact hQ _ _ (.i rfl rfl)
theorem Mn{o:Bool}(hl:l.map Ac=xl)(hn:l.length<2^40)(hr:Ea l name=o):Fn Tryz.prog 214 [.d (.row 2 xl),S name] [] ⟨B o,[],[]⟩:=by
 refine Fn.go F4 Tryz.func214 fun P hP Q hQ=>?_
 conv=>cbv
 refine LoopW.lp (κ:=Int) F4 hP [] [0,1] (fun i5=>[(5,I i5)]) (fun i5=>[])
  (fun i5=>0≤i5∧i5≤l.length∧∀(j:Nat) (hj:j<l.length),j<i5.toNat→Co l[j] name=false)
  (fun i5=>(l.length - i5).toNat) (0) ⟨by omega,by omega,fun j _ h=>by simp at h⟩ ⟨rfl,trivial⟩ rfl ?_
 rintro i5 J ⟨h0,h1,hb⟩ hJ
 conv=>cbv
 refine .go hl fun v1 ae=>?_
 conv=>cbv
 refine .lss (fun h2=>?_) fun h2=>?_
 conv=>cbv
 refine .go i5.toNat hl fun ac ⟨ab,ad⟩ aa=>?_
 conv=>cbv
 refine .eql (fun h4=>?_) fun h4=>?_
 conv=>cbv
 have e:true=Ea l name:=(by have e2:Bc l name=i5:=(Mu (p:=fun x=>Co x name) (l:=l) h0 (by omega) (by rw[←aa];unfold Co;rw[decide_eq_true_eq];exact h4) hb).symm;unfold Ea;rw[e2];symm;rw[decide_eq_true_eq];omega)
 rw[hr]at e
 subst e
 exact hQ _ _ (.b rfl rfl)
 conv=>cbv
 refine .add fun v5 af=>?_
 conv=>cbv
 exact .go [] (v5) (hJ _ ⟨by omega,by omega,fun j hj h=>if e:j=i5.toNat then by subst e;rw[←aa];unfold Co;rw[decide_eq_false_iff_not];exact h4 else hb j hj (by omega)⟩ mlt)
 conv=>cbv
 have e:false=Ea l name:=(by have e2:Bc l name= -1:=(Ib (p:=fun x=>Co x name) fun j hj=>hb j hj (by omega)).symm;unfold Ea;rw[e2];rfl)
 rw[hr]at e
 subst e
 exact hQ _ _ (.b rfl rfl)
theorem Xfo(Aj:Ae.map Bg=Bo)(Am:Ag.map Ac=Bl)(At:Ah.map Ac=Bj)(Ap:Af.map cS=Bn)(hd:okD ⟨Ae,Ag,Ah,Af,Ao,An⟩)(hr:Fl (⟨Ae,Ag,Ah,Af,Ao,An⟩:Aa) name=(⟨oaid,oatex,oasur⟩,ob)):Fn Tryz.prog 135 [.agg [.d (.row 3 Bo),.d (.row 2 Bl),.d (.row 2 Bj),.d (.row 1 Bn),I Ao,I An],S name] [] ⟨.tup [.agg [I oaid,S oatex,I oasur],B ob],[],[]⟩:=by
 refine Fn.go F4 Tryz.func135 fun P hP Q hQ=>?_
 conv=>cbv
 obtain⟨d1,d2,d3,d4,d5,d6⟩:=hd
 simp only[]at d1 d2 d3 d4 d5 d6
 generalize ab:Cz Ag name=r1
 refine .dd hP (Mc Am (by omega) ab) ?_
 conv=>cbv
 generalize aa:Hj (⟨Ae,Ag,Ah,Af,Ao,An⟩:Aa) r1=r2
 refine .dd hP (Q2 Aj Am At Ap (by omega) aa) ?_
 conv=>cbv
 have hb:=Yx (d:=⟨Ae,Ag,Ah,Af,Ao,An⟩) (id:=r1) aa
 simp only[]at hb
 refine .lss (fun h3=>?_) fun h3=>?_
 conv=>cbv
 have e:((⟨0,tx [],0⟩:Bk),false)=Fl (⟨Ae,Ag,Ah,Af,Ao,An⟩:Aa) name:=(by rw[P8,if_pos (.inl (by simp only[];rw[ab,aa];omega))])
 rw[hr]at e
 simp only[Prod.mk.injEq,Bk.mk.injEq]at e
 obtain⟨⟨rfl,rfl,rfl⟩,rfl⟩:=e
 refine hQ _ _ ?_
 exact .many (.inl rfl) rfl rfl (.agg (.d rfl rfl (.d rfl rfl (.d rfl rfl (.nil)))) (.d rfl rfl (.nil)))
 conv=>cbv
 generalize ac:Ea Ag name=r4
 refine .dd hP (Mn Am (by omega) ac) ?_
 cases r4
 conv=>cbv
 have e:((⟨0,tx [],0⟩:Bk),false)=Fl (⟨Ae,Ag,Ah,Af,Ao,An⟩:Aa) name:=(by rw[P8,if_pos (.inr ac)])
 rw[hr]at e
 simp only[Prod.mk.injEq,Bk.mk.injEq]at e
 obtain⟨⟨rfl,rfl,rfl⟩,rfl⟩:=e
 refine hQ _ _ ?_
 exact .many (.inl rfl) rfl rfl (.agg (.d rfl rfl (.d rfl rfl (.d rfl rfl (.nil)))) (.d rfl rfl (.nil)))
 conv=>cbv
 refine .go r2.toNat Aj fun ah ⟨af,ad,ae⟩ ag=>?_
 conv=>cbv
 have e:((⟨af,ad,ae⟩:Bk),true)=Fl (⟨Ae,Ag,Ah,Af,Ao,An⟩:Aa) name:=(by rw[P8,if_neg (by simp only[];rw[ab,aa,ac];rintro(h|h);omega;cases h)];simp only[];rw[ab,aa,←gD (show r2.toNat<Ae.length by omega),←ag])
 rw[hr]at e
 simp only[Prod.mk.injEq,Bk.mk.injEq]at e
 obtain⟨⟨rfl,rfl,rfl⟩,rfl⟩:=e
 refine hQ _ _ ?_
 exact .many (.inl rfl) rfl rfl (.agg (.d rfl rfl (.d rfl rfl (.d rfl rfl (.nil)))) (.d rfl rfl (.nil)))
theorem XgB(Aj:Ae.map Bg=Bo)(Am:Ag.map Ac=Bl)(At:Ah.map Ac=Bj)(Ap:Af.map cS=Bn)(hd:okD ⟨Ae,Ag,Ah,Af,Ao,An⟩)(hr:Gr (⟨Ae,Ag,Ah,Af,Ao,An⟩:Aa) name=(oa,ob)):Fn Tryz.prog 186 [.agg [.d (.row 3 Bo),.d (.row 2 Bl),.d (.row 2 Bj),.d (.row 1 Bn),I Ao,I An],S name] [] ⟨.tup [S oa,B ob],[],[]⟩:=by
 refine Fn.go F4 Tryz.func186 fun P hP Q hQ=>?_
 conv=>cbv
 rcases ab:Fl (⟨Ae,Ag,Ah,Af,Ao,An⟩:Aa) name with⟨⟨ad,aa,ac⟩,ae⟩
 refine .dd hP (Xfo Aj Am At Ap hd ab) ?_
 conv=>cbv
 have e:(aa,ae)=Gr (⟨Ae,Ag,Ah,Af,Ao,An⟩:Aa) name:=(by unfold Gr;rw[ab])
 rw[hr]at e
 simp only[Prod.mk.injEq]at e
 obtain⟨rfl,rfl⟩:=e
 refine hQ _ _ ?_
 exact .many (.inl rfl) rfl rfl (.d rfl rfl (.d rfl rfl (.nil)))
end
end Go.Proofs.YtgdmjbcllgmepaaGreatDoor.Ab
