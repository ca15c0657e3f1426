/- What functions of the program come to, for all arguments in the given bounds. -/
import Derived.Test.YtgdmjbcllgmepaaGreatDoorch14e
import Derived.Test.YtgdmjbcllgmepaaGreatDoorZ9
set_option linter.unusedVariables false
set_option linter.unusedSimpArgs false
namespace Go.Proofs.YtgdmjbcllgmepaaGreatDoor.Ab
section
open Go Go.Proofs
set_option maxRecDepth 20000
set_option maxHeartbeats 4000000
def Xbq:List (Nat×TyRow):=[ty3,ty5,ty9,Xay,XeI,XgT,XaS]
theorem Xc9:B8 Tryz.prog Xbq:=B8.of (by kernel_rfl)
theorem Gc:Setup Tryz.prog Xbq:=⟨Xc9,mixed⟩
open Go.RowKit
def Jl(x:Nat):Bool:=decide (97≤x∧x≤122∨48≤x∧x≤57∨x=46∨x=45)
def Bs(t:ByteArray):Bool:=t.data.toList.all (fun c=>Jl c.toNat)&&decide (1≤t.size∧t.size≤20)
theorem M2{t:ByteArray}{j:Nat}(hj:j<t.size):t.data.toList[j]? =some t[j]:=by
 rw[Array.getElem?_toList]
 exact Array.getElem?_eq_getElem hj
theorem Ow{t:ByteArray}{j:Nat}(hj:j<t.size)(h:Jl (t[j]).toNat=false):false=Bs t:=by
 symm
 unfold Bs
 rw[Bool.and_eq_false_iff]
 left
 rw[Bool.eq_false_iff]
 intro ha
 have:=List.all_eq_true.1 ha t[j] (List.mem_of_getElem? (M2 hj))
 rw[h]at this
 cases this
theorem Pl{t:ByteArray}{b:Bool}(h:∀(j:Nat) (hj:j<t.size),Jl (t[j]).toNat=true)(hb:b=decide (1≤t.size∧t.size≤20)):b=Bs t:=by
 unfold Bs
 rw[List.all_eq_true.2,hb,Bool.true_and]
 intro c hc
 obtain⟨j,hj⟩:=List.getElem?_of_mem hc
 have hl:j<t.size:=by
  have:=(List.getElem?_eq_some_iff.1 hj).1
  rwa[Array.length_toList]at this
 rw[M2 hl]at hj
 rw[←Option.some.inj hj]
 exact h j hl
theorem Qe{t:ByteArray}(h:Bs t=true):1≤t.size∧t.size≤20:=by
 unfold Bs at h
 rw[Bool.and_eq_true,decide_eq_true_eq]at h
 exact h.2
theorem Vj:∀(l m:List UInt8) (acc:Nat),Lib.decFrom acc (l++m)=(Lib.decFrom acc l).bind fun a=>Lib.decFrom a m
 |[],_,_=>rfl
 |c::l,m,acc=>by
  simp only[List.cons_append,Lib.decFrom]
  cases Lib.digitVal c with
  |none=>rfl
  |some d=>exact Vj l m _
theorem Vv{n:Nat}(h:n<10):Lib.digitVal (UInt8.ofNat (48+n))=some n:=by
 have e:(UInt8.ofNat (48+n)).toNat=48+n:=by rw[UInt8.toNat_ofNat',Nat.mod_eq_of_lt (by omega)]
 unfold Lib.digitVal
 rw[e,if_pos (by omega)]
 congr 1
 omega
theorem Tb(u:Nat):Lib.decFrom 0 (Lib.decDigits u)=some u:=by
 induction u using Nat.strongRecOn with
 |_ u ih=>
  by_cases h:u<10
  ·rw[Lib.decDigits,dif_pos h]
   simp only[Lib.decFrom,Vv h]
   congr 1
   omega
  ·rw[Lib.decDigits,dif_neg h,Vj,ih (u/10) (by omega)]
   simp only[Option.bind_some,Lib.decFrom,Vv (show u% 10<10 by omega)]
   congr 1
   omega
def Ba(t:ByteArray):Int×Bool:=match Lib.decFrom 0 t.data.toList with
 |some n=>if n≤1000000000∧Ci (n:Int)=t then((n:Int),true)else(0,false)
 |none=>(0,false)
theorem Vh{t:ByteArray}{m:Nat}(h:Lib.decFrom 0 t.data.toList=some m):Ba t=if m≤1000000000∧Ci (m:Int)=t then((m:Int),true)else(0,false):=by
 unfold Ba
 rw[h]
theorem Xkw{t:ByteArray}{j:Nat}(hj:j<t.size)(h:¬(48≤(t[j]).toNat∧(t[j]).toNat≤57)):(0,false)=Ba t:=by
 unfold Ba
 split
 ·rename_i n hn
  obtain⟨d,hd⟩:=Lib.digit_of_decFrom _ _ _ hn j _ (M2 hj)
  unfold Lib.digitVal at hd
  rw[if_neg h]at hd
  cases hd
 ·rfl
theorem Xe4{n:Int}{t:ByteArray}(e:Ci n=t)(h0:0≤n)(h:n≤1000000000):1≤t.size∧t.size≤10:=by
 rw[←e]
 unfold Ci Lib.itoa
 rw[B7,if_neg (by omega)]
 exact H8 9 n.toNat (by omega)
theorem Xja{t:ByteArray}(h:10<t.size):(0,false)=Ba t:=by
 unfold Ba
 split
 ·rename_i n hn
  rw[if_neg]
  rintro⟨h1,h2⟩
  have:=Xe4 h2 (by omega) (by omega)
  omega
 ·rfl
theorem Xjo{n:Int}(h0:0≤n)(h:n≤1000000000):Ba (Ci n)=(n,true):=by
 have e:Lib.decFrom 0 (Ci n).data.toList=some n.toNat:=by
  unfold Ci Lib.itoa
  rw[Qf,if_neg (by omega)]
  exact Tb _
 rw[Vh e,if_pos ⟨by omega,by rw[Int.toNat_of_nonneg h0]⟩,Int.toNat_of_nonneg h0]
theorem Zc:∀(l:List UInt8) (acc n:Nat),Lib.decFrom acc l=some n→acc≤n
 |[],acc,n,h=>by simp only[Lib.decFrom,Option.some.injEq]at h;omega
 |c::l,acc,n,h=>by
  simp only[Lib.decFrom]at h
  split at h
  ·have:=Zc l _ n h
   omega
  ·cases h
theorem Xdj:∀(l:List UInt8) (acc n:Nat),Lib.decFrom acc l=some n→n≤1000000000→Lib.parseUint10 acc l= .ok n
 |[],acc,n,h,_=>by simp only[Lib.decFrom,Option.some.injEq]at h;rw[h];rfl
 |c::l,acc,n,h,hn=>by
  simp only[Lib.decFrom,Lib.digitVal]at h
  unfold Lib.parseUint10
  by_cases hc:48≤c.toNat∧c.toNat≤57
  ·rw[if_pos hc]at h⊢
   have:=Zc l _ n h
   rw[if_neg (by omega),if_neg (by omega)]
   exact Xdj l _ n h hn
  ·rw[if_neg hc]at h
   cases h
theorem Xkf{l:List UInt8}{n:Nat}(h:Lib.decFrom 0 l=some n)(hl:l≠[])(hn:n≤1000000000):Lib.atoiAll l= .ok n:=by
 cases l with
 |nil=>exact absurd rfl hl
 |cons c r=>
  obtain⟨d,hd⟩:=Lib.digit_of_decFrom _ _ _ h 0 c rfl
  unfold Lib.digitVal at hd
  have hc:48≤c.toNat∧c.toNat≤57:=by
   by_cases hc:48≤c.toNat∧c.toNat≤57
   ·exact hc
   ·rw[if_neg hc]at hd;cases hd
  have h45:¬c.toNat=45:=by omega
  unfold Lib.atoiAll
  simp only[if_neg (show¬(c.toNat=43∨c.toNat=45)by omega),Lib.parseMag,if_neg (show¬(c::r=[])by simp),Xdj _ _ _ h hn]
  rw[if_neg (by omega),if_neg (by omega),if_neg h45]
theorem XhC(t:ByteArray):Ba t=match Lib.atoiAll t.data.toList with
  | .ok v=>if Bl v=true∧Ci v=t then(v,true)else(0,false)
  |_=>(0,false):=by
 cases hd:Lib.decFrom 0 t.data.toList with
 |some n=>
  rw[Vh hd]
  by_cases hc:n≤1000000000∧Ci (n:Int)=t
  ·have hne:t.data.toList≠[]:=by
    intro e
    have:=(Xe4 hc.2 (by omega) (by omega)).1
    have hs:t.data.toList.length=t.size:=Array.length_toList
    rw[e]at hs
    simp at hs
    omega
   rw[if_pos hc,Xkf hd hne hc.1]
   simp only[]
   rw[if_pos ⟨by unfold Bl;exact decide_eq_true (by omega),hc.2⟩]
  ·rw[if_neg hc]
   split
   ·rename_i v hv
    rw[if_neg]
    rintro⟨h1,h2⟩
    unfold Bl at h1
    rw[decide_eq_true_eq]at h1
    have e:Lib.decFrom 0 t.data.toList=some v.toNat:=by
     rw[←h2]
     unfold Ci Lib.itoa
     rw[Qf,if_neg (by omega)]
     exact Tb _
    rw[hd]at e
    have e2:=Option.some.inj e
    exact hc ⟨by omega,by rw[e2,Int.toNat_of_nonneg h1.1];exact h2⟩
   ·rfl
 |none=>
  have e0:Ba t=(0,false):=by unfold Ba;rw[hd]
  rw[e0]
  split
  ·rename_i v hv
   rw[if_neg]
   rintro⟨h1,h2⟩
   unfold Bl at h1
   rw[decide_eq_true_eq]at h1
   have e:Lib.decFrom 0 t.data.toList=some v.toNat:=by
    rw[←h2]
    unfold Ci Lib.itoa
    rw[Qf,if_neg (by omega)]
    exact Tb _
   rw[hd]at e
   cases e
  ·rfl
variable {name text oa a:ByteArray} {o:List Ax} {ob oc:Bool} {l:List ByteArray} {xl xo:List (List D)} {no:Nat}
theorem M6{o:Bool}(hs:name.size≤1000000000)(hr:Bs name=o):Fn Tryz.prog 248 [S name] [] ⟨B o,[],[]⟩:=by
 refine Fn.go Gc Tryz.func248 fun P hP Q hQ=>?_
 conv=>cbv
 refine .go fun v1 ah=>?_
 conv=>cbv
 refine LoopW.lp (κ:=Int) Gc hP [] [0,6] (fun i7=>[(7,I i7)]) (fun i7=>[])
  (fun i7=>0≤i7∧i7≤name.size∧∀(j:Nat) (hj:j<name.size),j<i7.toNat→Jl (name[j]).toNat=true)
  (fun i7=>(name.size - i7).toNat) (0) ⟨by omega,by omega,fun j _ h=>by simp at h⟩ ⟨rfl,trivial⟩ rfl ?_
 rintro i7 J ⟨h0,h1,hb⟩ hJ
 conv=>cbv
 refine .lss (fun h2=>?_) fun h2=>?_
 conv=>cbv
 refine .go i7.toNat fun hjv3 v3 ad bv3=>?_
 conv=>cbv
 refine .geq (fun h4=>?_) fun h4=>?_
 conv=>cbv
 refine .leq (fun h5=>?_) fun h5=>?_
 conv=>cbv
 refine .add fun v6 ai=>?_
 conv=>cbv
 exact .go [] (v6) (hJ _ ⟨by omega,by omega,fun j hj h=>if e:j=i7.toNat then by subst e;unfold Jl;rw[decide_eq_true_eq];omega else hb j hj (by omega)⟩ mlt)
 conv=>cbv
 refine .geq (fun h6=>?_) fun h6=>?_
 conv=>cbv
 refine .leq (fun h7=>?_) fun h7=>?_
 conv=>cbv
 refine .add fun v8 aa=>?_
 conv=>cbv
 exact .go [] (v8) (hJ _ ⟨by omega,by omega,fun j hj h=>if e:j=i7.toNat then by subst e;unfold Jl;rw[decide_eq_true_eq];omega else hb j hj (by omega)⟩ mlt)
 conv=>cbv
 refine .eql (fun h8=>?_) fun h8=>?_
 conv=>cbv
 refine .add fun v9 ac=>?_
 conv=>cbv
 exact .go [] (v9) (hJ _ ⟨by omega,by omega,fun j hj h=>if e:j=i7.toNat then by subst e;unfold Jl;rw[decide_eq_true_eq];omega else hb j hj (by omega)⟩ mlt)
 conv=>cbv
 refine .eql (fun h9=>?_) fun h9=>?_
 conv=>cbv
 refine .add fun ae ag=>?_
 conv=>cbv
 exact .go [] (ae) (hJ _ ⟨by omega,by omega,fun j hj h=>if e:j=i7.toNat then by subst e;unfold Jl;rw[decide_eq_true_eq];omega else hb j hj (by omega)⟩ mlt)
 conv=>cbv
 have e:false=Bs name:=(by exact Ow (show i7.toNat<name.size by omega) (by unfold Jl;rw[decide_eq_false_iff_not];omega))
 rw[hr]at e
 subst e
 exact hQ _ _ (.b rfl rfl)
 conv=>cbv
 refine .eql (fun h7=>?_) fun h7=>?_
 conv=>cbv
 refine .add fun v8 aa=>?_
 conv=>cbv
 exact .go [] (v8) (hJ _ ⟨by omega,by omega,fun j hj h=>if e:j=i7.toNat then by subst e;unfold Jl;rw[decide_eq_true_eq];omega else hb j hj (by omega)⟩ mlt)
 conv=>cbv
 refine .eql (fun h8=>?_) fun h8=>?_
 conv=>cbv
 refine .add fun v9 ac=>?_
 conv=>cbv
 exact .go [] (v9) (hJ _ ⟨by omega,by omega,fun j hj h=>if e:j=i7.toNat then by subst e;unfold Jl;rw[decide_eq_true_eq];omega else hb j hj (by omega)⟩ mlt)
 conv=>cbv
 have e:false=Bs name:=(by exact Ow (show i7.toNat<name.size by omega) (by unfold Jl;rw[decide_eq_false_iff_not];omega))
 rw[hr]at e
 subst e
 exact hQ _ _ (.b rfl rfl)
 conv=>cbv
 refine .geq (fun h5=>?_) fun h5=>?_
 conv=>cbv
 refine .leq (fun h6=>?_) fun h6=>?_
 conv=>cbv
 refine .add fun v7 af=>?_
 conv=>cbv
 exact .go [] (v7) (hJ _ ⟨by omega,by omega,fun j hj h=>if e:j=i7.toNat then by subst e;unfold Jl;rw[decide_eq_true_eq];omega else hb j hj (by omega)⟩ mlt)
 conv=>cbv
 refine .eql (fun h7=>?_) fun h7=>?_
 conv=>cbv
 refine .add fun v8 aa=>?_
 conv=>cbv
 exact .go [] (v8) (hJ _ ⟨by omega,by omega,fun j hj h=>if e:j=i7.toNat then by subst e;unfold Jl;rw[decide_eq_true_eq];omega else hb j hj (by omega)⟩ mlt)
 conv=>cbv
 refine .eql (fun h8=>?_) fun h8=>?_
 conv=>cbv
 refine .add fun v9 ac=>?_
 conv=>cbv
 exact .go [] (v9) (hJ _ ⟨by omega,by omega,fun j hj h=>if e:j=i7.toNat then by subst e;unfold Jl;rw[decide_eq_true_eq];omega else hb j hj (by omega)⟩ mlt)
 conv=>cbv
 have e:false=Bs name:=(by exact Ow (show i7.toNat<name.size by omega) (by unfold Jl;rw[decide_eq_false_iff_not];omega))
 rw[hr]at e
 subst e
 exact hQ _ _ (.b rfl rfl)
 conv=>cbv
 refine .eql (fun h6=>?_) fun h6=>?_
 conv=>cbv
 refine .add fun v7 af=>?_
 conv=>cbv
 exact .go [] (v7) (hJ _ ⟨by omega,by omega,fun j hj h=>if e:j=i7.toNat then by subst e;unfold Jl;rw[decide_eq_true_eq];omega else hb j hj (by omega)⟩ mlt)
 conv=>cbv
 refine .eql (fun h7=>?_) fun h7=>?_
 conv=>cbv
 refine .add fun v8 aa=>?_
 conv=>cbv
 exact .go [] (v8) (hJ _ ⟨by omega,by omega,fun j hj h=>if e:j=i7.toNat then by subst e;unfold Jl;rw[decide_eq_true_eq];omega else hb j hj (by omega)⟩ mlt)
 conv=>cbv
 have e:false=Bs name:=(by exact Ow (show i7.toNat<name.size by omega) (by unfold Jl;rw[decide_eq_false_iff_not];omega))
 rw[hr]at e
 subst e
 exact hQ _ _ (.b rfl rfl)
 conv=>cbv
 refine .go fun v3 ad=>?_
 conv=>cbv
 generalize ab:Ca v3 1 20=r4
 refine .dd hP (Ge ab) ?_
 cases r4
 simp only[Ca,decide_eq_true_eq,decide_eq_false_iff_not]at ab
 conv=>cbv
 have e:false=Bs name:=(by exact Pl (fun j hj=>hb j hj (by omega)) (by symm;rw[decide_eq_false_iff_not];omega))
 rw[hr]at e
 subst e
 exact hQ _ _ (.b rfl rfl)
 simp only[Ca,decide_eq_true_eq,decide_eq_false_iff_not]at ab
 conv=>cbv
 have e:true=Bs name:=(by exact Pl (fun j hj=>hb j hj (by omega)) (by symm;rw[decide_eq_true_eq];omega))
 rw[hr]at e
 subst e
 exact hQ _ _ (.b rfl rfl)
theorem M3{o:Bool}(hs:name.size≤1000000000)(hr:Bs name=o):Fn Tryz.prog 242 [S name] [] ⟨B o,[],[]⟩:=by
 refine Fn.go Gc Tryz.func242 fun P hP Q hQ=>?_
 conv=>cbv
 refine LoopW.lp (κ:=Int) Gc hP [] [0] (fun i3=>[(3,I i3)]) (fun i3=>[])
  (fun i3=>0≤i3∧i3≤name.size∧∀(j:Nat) (hj:j<name.size),j<i3.toNat→Jl (name[j]).toNat=true)
  (fun i3=>(name.size - i3).toNat) (0) ⟨by omega,by omega,fun j _ h=>by simp at h⟩ ⟨rfl,trivial⟩ rfl ?_
 rintro i3 J ⟨h0,h1,hb⟩ hJ
 conv=>cbv
 refine .go fun v1 ae=>?_
 conv=>cbv
 refine .lss (fun h2=>?_) fun h2=>?_
 conv=>cbv
 refine .go i3.toNat fun hjv3 v3 ad bv3=>?_
 conv=>cbv
 refine .id fun v4 af=>?_
 conv=>cbv
 generalize aa:A7 v4 97 122=r5
 refine .dd hP (Dq aa) ?_
 cases r5
 simp only[A7,decide_eq_true_eq,decide_eq_false_iff_not]at aa
 conv=>cbv
 generalize ab:A7 v4 48 57=r6
 refine .dd hP (Dq ab) ?_
 cases r6
 simp only[A7,decide_eq_true_eq,decide_eq_false_iff_not]at ab
 conv=>cbv
 refine .neq (fun h7=>?_) fun h7=>?_
 conv=>cbv
 refine .neq (fun h8=>?_) fun h8=>?_
 conv=>cbv
 have e:false=Bs name:=(by exact Ow (show i3.toNat<name.size by omega) (by unfold Jl;rw[decide_eq_false_iff_not];omega))
 rw[hr]at e
 subst e
 exact hQ _ _ (.b rfl rfl)
 conv=>cbv
 refine .add fun v9 ag=>?_
 conv=>cbv
 exact .go [] (v9) (hJ _ ⟨by omega,by omega,fun j hj h=>if e:j=i3.toNat then by subst e;unfold Jl;rw[decide_eq_true_eq];omega else hb j hj (by omega)⟩ mlt)
 conv=>cbv
 refine .add fun v8 ah=>?_
 conv=>cbv
 exact .go [] (v8) (hJ _ ⟨by omega,by omega,fun j hj h=>if e:j=i3.toNat then by subst e;unfold Jl;rw[decide_eq_true_eq];omega else hb j hj (by omega)⟩ mlt)
 simp only[A7,decide_eq_true_eq,decide_eq_false_iff_not]at ab
 conv=>cbv
 refine .add fun v7 ai=>?_
 conv=>cbv
 exact .go [] (v7) (hJ _ ⟨by omega,by omega,fun j hj h=>if e:j=i3.toNat then by subst e;unfold Jl;rw[decide_eq_true_eq];omega else hb j hj (by omega)⟩ mlt)
 simp only[A7,decide_eq_true_eq,decide_eq_false_iff_not]at aa
 conv=>cbv
 refine .add fun v6 aj=>?_
 conv=>cbv
 exact .go [] (v6) (hJ _ ⟨by omega,by omega,fun j hj h=>if e:j=i3.toNat then by subst e;unfold Jl;rw[decide_eq_true_eq];omega else hb j hj (by omega)⟩ mlt)
 conv=>cbv
 refine .go fun v3 ad=>?_
 conv=>cbv
 generalize ac:A7 v3 1 20=r4
 refine .dd hP (Dq ac) ?_
 cases r4
 simp only[A7,decide_eq_true_eq,decide_eq_false_iff_not]at ac
 conv=>cbv
 have e:false=Bs name:=(by exact Pl (fun j hj=>hb j hj (by omega)) (by symm;rw[decide_eq_false_iff_not];omega))
 rw[hr]at e
 subst e
 exact hQ _ _ (.b rfl rfl)
 simp only[A7,decide_eq_true_eq,decide_eq_false_iff_not]at ac
 conv=>cbv
 have e:true=Bs name:=(by exact Pl (fun j hj=>hb j hj (by omega)) (by symm;rw[decide_eq_true_eq];omega))
 rw[hr]at e
 subst e
 exact hQ _ _ (.b rfl rfl)
theorem Rf{oa:Int}(hs:text.size≤1000000000)(hr:Ba text=(oa,ob)):Fn Tryz.prog 300 [S text] [] ⟨.tup [I oa,B ob],[],[]⟩:=by
 refine Fn.go Gc Tryz.func300 fun P hP Q hQ=>?_
 conv=>cbv
 refine .go fun v1 aj=>?_
 conv=>cbv
 refine .gtr (fun h2=>?_) fun h2=>?_
 conv=>cbv
 have e:(0,false)=Ba text:=(by exact Xja (by omega))
 rw[hr]at e
 simp only[Prod.mk.injEq]at e
 obtain⟨rfl,rfl⟩:=e
 refine hQ _ _ ?_
 exact .many (.inl rfl) rfl rfl (.d rfl rfl (.d rfl rfl (.nil)))
 conv=>cbv
 refine LoopW.lp (κ:=Int×Int) Gc hP [] [0] (fun(i4,i5)=>[(4,I i4),(5,I i5)]) (fun(i4,i5)=>[])
  (fun(i4,i5)=>0≤i5∧i5≤text.size∧∃m:Nat,i4=m∧Lib.decFrom 0 (text.data.toList.take i5.toNat)=some m∧m<10^i5.toNat)
  (fun(i4,i5)=>(text.size - i5).toNat) (0,0) ⟨by omega,by omega,0,rfl,rfl,by simp⟩ ⟨rfl,rfl,trivial⟩ rfl ?_
 rintro⟨i4,i5⟩ J ⟨h0,h1,m,hm,hd,hlt⟩ hJ
 have hp:=Nat.pow_le_pow_right (n:=10) (by decide) (show i5.toNat≤10 by omega)
 have ac:(10:Nat)^10=10000000000:=by decide
 rw[ac]at hp
 conv=>cbv
 refine .go fun v3 ak=>?_
 conv=>cbv
 refine .lss (fun h4=>?_) fun h4=>?_
 conv=>cbv
 refine .go i5.toNat fun hjv5 v5 al bv5=>?_
 conv=>cbv
 refine .lss (fun h6=>?_) fun h6=>?_
 conv=>cbv
 have e:(0,false)=Ba text:=(by exact Xkw (show i5.toNat<text.size by omega) (by omega))
 rw[hr]at e
 simp only[Prod.mk.injEq]at e
 obtain⟨rfl,rfl⟩:=e
 refine hQ _ _ ?_
 exact .many (.inl rfl) rfl rfl (.d rfl rfl (.d rfl rfl (.nil)))
 conv=>cbv
 refine .go i5.toNat fun hjv7 v7 am bv7=>?_
 conv=>cbv
 refine .gtr (fun h8=>?_) fun h8=>?_
 conv=>cbv
 have e:(0,false)=Ba text:=(by exact Xkw (show i5.toNat<text.size by omega) (by omega))
 rw[hr]at e
 simp only[Prod.mk.injEq]at e
 obtain⟨rfl,rfl⟩:=e
 refine hQ _ _ ?_
 exact .many (.inl rfl) rfl rfl (.d rfl rfl (.d rfl rfl (.nil)))
 conv=>cbv
 refine .mul fun v9 an=>?_
 conv=>cbv
 refine .go i5.toNat fun hjv10 ao ae bv10=>?_
 conv=>cbv
 refine .id fun ap af=>?_
 conv=>cbv
 refine .add fun aq ag=>?_
 conv=>cbv
 refine .sub fun ad ah=>?_
 conv=>cbv
 refine .add fun aa ai=>?_
 conv=>cbv
 have hdt:=Lib.decFrom_take _ _ _ _ _ ((text[i5.toNat]).toNat - 48) hd (M2 (show i5.toNat<text.size by omega)) (by unfold Lib.digitVal;rw[if_pos (by omega)])
 exact .go [] (ad,aa) (hJ _ ⟨by omega,by omega,m*10+((text[i5.toNat]).toNat - 48),by omega,by rw[show aa.toNat=i5.toNat+1 by omega];exact hdt,by rw[show aa.toNat=i5.toNat+1 by omega,Nat.pow_succ];omega⟩ mlt)
 conv=>cbv
 refine .gtr (fun h5=>?_) fun h5=>?_
 conv=>cbv
 have e:(0,false)=Ba text:=(by rw[List.take_of_length_le (by rw[Array.length_toList];show text.size≤_;omega)]at hd;rw[Vh hd,if_neg (by omega)])
 rw[hr]at e
 simp only[Prod.mk.injEq]at e
 obtain⟨rfl,rfl⟩:=e
 refine hQ _ _ ?_
 exact .many (.inl rfl) rfl rfl (.d rfl rfl (.d rfl rfl (.nil)))
 conv=>cbv
 generalize ab:Ci i4=r6
 refine .dd hP (XcL (by unfold Xab;omega) ab) ?_
 conv=>cbv
 refine .neq (fun h7=>?_) fun h7=>?_
 conv=>cbv
 have e:(0,false)=Ba text:=(by rw[List.take_of_length_le (by rw[Array.length_toList];show text.size≤_;omega)]at hd;rw[Vh hd,if_neg];rintro⟨_,h⟩;exact h7 (by rw[←ab,hm];exact h))
 rw[hr]at e
 simp only[Prod.mk.injEq]at e
 obtain⟨rfl,rfl⟩:=e
 refine hQ _ _ ?_
 exact .many (.inl rfl) rfl rfl (.d rfl rfl (.d rfl rfl (.nil)))
 conv=>cbv
 have e:(i4,true)=Ba text:=(by rw[List.take_of_length_le (by rw[Array.length_toList];show text.size≤_;omega)]at hd;rw[Vh hd,if_pos ⟨by omega,by rw[←hm,ab];exact h7⟩,hm])
 rw[hr]at e
 simp only[Prod.mk.injEq]at e
 obtain⟨rfl,rfl⟩:=e
 refine hQ _ _ ?_
 exact .many (.inl rfl) rfl rfl (.d rfl rfl (.d rfl rfl (.nil)))
theorem XbE{w:World}(hG:Globs.ok w fun b=>b<w.heap.size){n:Int}{o:ByteArray}(hn:Xab n)(hr:Ci n=o):Calls Tryz.prog 144 #[.int .i64 n] w fun e w'=>e= .returned (.string o)∧Below w.heap.size w w':=by
 refine(Xb7 (n:=n) hn hr).ok.callsV hG ⟨rfl,?_⟩
 intro j y hy
 match j,hy with
 |0,hy=>cases hy;exact .d _ _ (.sc _ rfl)
theorem Xly{l:List UInt8}{v:Int}(h:Lib.atoiAll l= .ok v):Xab v:=by
 cases l with
 |nil=>cases h
 |cons c r=>
  unfold Lib.atoiAll at h
  simp only at h
  unfold Xab
  split at h
  ·cases h
  ·cases h
  ·split at h
   ·cases h
   ·split at h
    ·cases h
    ·simp only[Lib.NumEnd.ok.injEq]at h
     split at h<;>omega
set_option maxHeartbeats 1000000 in
set_option maxRecDepth 100000 in
theorem Xaf{text:ByteArray}(hs:text.size≤1000000000){w:World}(hG:Globs.ok w fun b=>b<w.heap.size):Calls Tryz.prog 251 #[.string text] w fun e w'=>
  e= .returned (.tuple #[.int .i64 (Ba text).1,.bool (Ba text).2])∧Below w.heap.size w w':=by
 have hG2:∀{w:World},(Globs.ok w fun b=>b<w.heap.size)→Hb w 2:=fun h=>XhR h
 have hG3:∀{w:World},(Globs.ok w fun b=>b<w.heap.size)→Hb w 3:=fun h=>XkW h
 rw[XhC]
 cases ha:Lib.atoiAll text.data.toList
 ·rename_i v
  dsimp only
  have hv:=Xly ha
  have hp:=fun w=>Tryz.strconv_Atoi_ok text (by omega) v ha w
  cases hn:Bl v with
  |false=>
   simp only[Bool.false_eq_true,false_and,if_false]
   go_enter Tryz.func251,Tryz.ntmps251
   go_wp2_with (first
    |(go_at_call 305;refine(hp _).mono ?_;rintro e w1 ⟨rfl,hb⟩;have aa:Below w.heap.size w w1:=(by rcases hb with rfl|⟨t,rfl⟩;exact Below.refl _ _;exact Lib.bytesWorld_below _ _ _);clear hb;have hG1:=Df hG aa)
    |(go_at_call 173;refine(Kk hG1 hn).mono ?_;rintro e w2 ⟨rfl,hb2⟩;have hG2_:=Df hG1 hb2))
   go_ret2
   exact⟨rfl,aa.trans (hb2.mono aa.size)⟩
  |true=>
   obtain⟨o,ho⟩:∃o,Ci v=o:=⟨_,rfl⟩
   by_cases he:o=text
   ·simp only[ho,he,true_and,if_true]
    subst he
    go_enter Tryz.func251,Tryz.ntmps251
    go_wp2_with (first
     |(go_at_call 305;refine(hp _).mono ?_;rintro e w1 ⟨rfl,hb⟩;have aa:Below w.heap.size w w1:=(by rcases hb with rfl|⟨t,rfl⟩;exact Below.refl _ _;exact Lib.bytesWorld_below _ _ _);clear hb;have hG1:=Df hG aa)
     |(go_at_call 173;refine(Kk hG1 hn).mono ?_;rintro e w2 ⟨rfl,hb2⟩;have hG2_:=Df hG1 hb2)
     |(go_at_call 144;refine(XbE hG2_ hv ho).mono ?_;rintro e w3 ⟨rfl,ab⟩))
    go_ret2
    exact⟨rfl,(aa.trans (hb2.mono aa.size)).trans (ab.mono (aa.trans (hb2.mono aa.size)).size)⟩
   ·simp only[ho,he,and_false,if_false]
    have ac:=Xes he
    go_enter Tryz.func251,Tryz.ntmps251
    go_wp2_with (first
     |(go_at_call 305;refine(hp _).mono ?_;rintro e w1 ⟨rfl,hb⟩;have aa:Below w.heap.size w w1:=(by rcases hb with rfl|⟨t,rfl⟩;exact Below.refl _ _;exact Lib.bytesWorld_below _ _ _);clear hb;have hG1:=Df hG aa)
     |(go_at_call 173;refine(Kk hG1 hn).mono ?_;rintro e w2 ⟨rfl,hb2⟩;have hG2_:=Df hG1 hb2)
     |(go_at_call 144;refine(XbE hG2_ hv ho).mono ?_;rintro e w3 ⟨rfl,ab⟩))
    go_ret2
    exact⟨rfl,(aa.trans (hb2.mono aa.size)).trans (ab.mono (aa.trans (hb2.mono aa.size)).size)⟩
 ·dsimp only
  obtain⟨ev,h1,h2⟩:=hG2 hG
  have hp:=Tryz.strconv_Atoi_syntax text (by omega) ha ev w h1 h2
  go_enter Tryz.func251,Tryz.ntmps251
  go_wp2_with (go_at_call 305;refine hp.mono ?_;rintro e w1 ⟨N,rfl,-,-,aa⟩)
  go_ret2
  exact⟨rfl,aa⟩
 ·dsimp only
  obtain⟨ev,h1,h2⟩:=hG3 hG
  have hp:=Tryz.strconv_Atoi_range text (by omega) ha ev w h1 h2
  go_enter Tryz.func251,Tryz.ntmps251
  go_wp2_with (go_at_call 305;refine hp.mono ?_;rintro e w1 ⟨N,rfl,-,-,aa⟩)
  go_ret2
  exact⟨rfl,aa⟩
theorem Xas{oa:Int}(hs:text.size≤1000000000)(hr:Ba text=(oa,ob)):Fn Tryz.prog 251 [S text] [] ⟨.tup [I oa,B ob],[],[]⟩:=by
 refine⟨Ez Tryz.func251 rfl rfl,CallOk.ofCallsT rfl rfl fun E vs hS hG hA=>?_⟩
 obtain⟨u,rfl,h1⟩:=Xkb hA
 rw[Pz h1]
 have h2:=Xaf hs (Globs.step hS (fun _ _=>rfl) hG)
 rw[hr]at h2
 exact h2
def Jn(s:ByteArray):Int:=Lib.indexByte s.data.toList 58
def K0(s:ByteArray):ByteArray×ByteArray×Bool:=if 0≤Jn s then(s.extract 0 (Jn s).toNat,s.extract ((Jn s).toNat+1) s.size,true)else(s,tx [],false)
theorem Tn(c:UInt8):∀l:List UInt8,-1≤Lib.indexByte l c∧Lib.indexByte l c<l.length
 |[]=>by simp[Lib.indexByte]
 |b::l=>by
  have:=Tn c l
  unfold Lib.indexByte
  rw[List.length_cons]
  split
  ·omega
  ·split
   ·omega
   ·omega
theorem Ye{s:ByteArray}{i:Int}(e:Jn s=i): -1≤i∧i<s.size:=by
 rw[←e]
 exact Tn 58 s.data.toList
theorem Ka{s:ByteArray}{o:Int}(hr:Jn s=o):Fn Tryz.prog 330 [S s,S (tx [58])] [] ⟨I o,[],[]⟩:=by
 refine⟨Ez Tryz.func330 rfl rfl,CallOk.ofCalls fun E vs hS hA=>?_⟩
 obtain⟨u,v,rfl,h1,h2⟩:=Xmz hA
 rw[Pz h1,Pz h2]
 refine(Tryz.stringslite_Index_one s 58 E.w).mono ?_
 rintro e w' ⟨rfl,rfl⟩
 refine⟨_,rfl,Below.refl _ _,?_⟩
 show RelD _ _ (.sc (.int .i64 o)) (.int .i64 (Jn s))
 rw[hr]
 exact .sc _ rfl
theorem K2{ob:ByteArray}(hs:a.size≤1000000000)(hr:K0 a=(oa,ob,oc)):Fn Tryz.prog 304 [S a,S (tx [58])] [] ⟨.tup [S oa,S ob,B oc],[],[]⟩:=by
 refine Fn.go Gc Tryz.func304 fun P hP Q hQ=>?_
 conv=>cbv
 generalize aa:Jn a=r1
 refine .dd hP (Ka aa) ?_
 conv=>cbv
 have hb:=Ye aa
 refine .geq (fun h2=>?_) fun h2=>?_
 conv=>cbv
 refine .hi fun s3 ab=>?_
 conv=>cbv
 refine .go fun v4 ac=>?_
 conv=>cbv
 have ae:v4=1:=by rw[ac];rfl
 refine .add fun v5 af=>?_
 conv=>cbv
 refine .lo fun s6 ad=>?_
 conv=>cbv
 have e:(s3,s6,true)=K0 a:=(by unfold K0;rw[aa,if_pos (by omega),ab,ad,show v5.toNat=r1.toNat+1 by omega])
 rw[hr]at e
 simp only[Prod.mk.injEq]at e
 obtain⟨rfl,rfl,rfl⟩:=e
 refine hQ _ _ ?_
 exact .many (.inl rfl) rfl rfl (.d rfl rfl (.d rfl rfl (.d rfl rfl (.nil))))
 conv=>cbv
 have e:(a,(tx []),false)=K0 a:=(by unfold K0;rw[aa,if_neg (by omega)])
 rw[hr]at e
 simp only[Prod.mk.injEq]at e
 obtain⟨rfl,rfl,rfl⟩:=e
 refine hQ _ _ ?_
 exact .many (.inl rfl) rfl rfl (.d rfl rfl (.d rfl rfl (.d rfl rfl (.nil))))
theorem XaB{ob:ByteArray}(hs:a.size≤1000000000)(hr:K0 a=(oa,ob,oc)):Fn Tryz.prog 250 [S a,S (tx [58])] [] ⟨.tup [S oa,S ob,B oc],[],[]⟩:=by
 refine Fn.go Gc Tryz.func250 fun P hP Q hQ=>?_
 conv=>cbv
 rcases aa:K0 a with⟨ab,ac,ad⟩
 refine .dd hP (K2 (by omega) aa) ?_
 conv=>cbv
 have e:(ab,ac,ad)=K0 a:=(by exact aa.symm)
 rw[hr]at e
 simp only[Prod.mk.injEq]at e
 obtain⟨rfl,rfl,rfl⟩:=e
 refine hQ _ _ ?_
 exact .many (.inl rfl) rfl rfl (.d rfl rfl (.d rfl rfl (.d rfl rfl (.nil))))
def D4{α:Type}(l:List α):List α:=l
theorem Sx{α:Type}{c:α→List D}{l:List α}{x:List (List D)}{v:Bool}(hl:l.map c=x)(hv:v=x.isEmpty)(h:v=true):[]=l:=by
 rw[h,←hl]at hv
 cases l with
 |nil=>rfl
 |cons=>cases hv
theorem Cb{l:List Ad}{o:List Ad}(hl:l.map Ac=xl)(hn:l.length≤4000000000)(hr:D4 l=o)(ho:o.map Ac=xo):Fn Tryz.prog 176 [.d (.row 2 xl)] [] ⟨.d (.row 2 xo),[],[]⟩:=by
 refine Fn.go Gc Tryz.func176 fun P hP Q hQ=>?_
 conv=>cbv
 refine .go fun v1 ab=>?_
 conv=>cbv
 refine⟨fun h2=>?_,?_⟩
 have e:[]=D4 l:=(by unfold D4;exact Sx hl ab h2)
 rw[hr]at e
 subst e
 exact hQ _ _ (.r rfl rfl rfl (by rw[←ho];rfl))
 refine .row0 hl fun ad z3 ac aa=>?_
 conv=>cbv
 have e:l=D4 l:=(by rfl)
 rw[hr]at e
 subst e
 exact hQ _ _ (.r rfl rfl (by rw[←aa,List.length_map];first|omega|(simp;omega)) (by rw[←aa,←ho]))
theorem Kj{l:List Ad}{o:List Ad}(hl:l.map Ac=xl)(hn:l.length≤4000000000)(hr:D4 l=o)(ho:o.map Ac=xo)(hno:no=o.length):Fn Tryz.prog 176 [.d (.row 2 xl)] [] ⟨.ref 0 0 no,[.row 2 false xo],[]⟩:=by
 refine Fn.goR Gc Tryz.func176 fun P hP Q hQ=>?_
 conv=>cbv
 refine .go fun v1 aa=>?_
 conv=>cbv
 refine⟨fun h2=>?_,?_⟩
 have e:[]=D4 l:=(by unfold D4;exact Sx hl aa h2)
 rw[hr]at e
 subst e
 obtain rfl:[]=xo:=by first|(rw[←ho];done)|(rw[←ho];rfl)
 obtain rfl:0=no:=by first|omega|(rw[hno];simp;done)|(rw[hno];simp;omega)
 exact hQ _ _ (.of [1] (.inl rfl) rfl rfl rfl rfl)
 refine .row0 hl fun ab z3 ad ac=>?_
 conv=>cbv
 have e:l=D4 l:=(by rfl)
 rw[hr]at e
 subst e
 obtain rfl:z3=xo:=by rw[←ac,←ho]
 obtain rfl:ab=no:=by first|omega|(rw[hno];simp;done)|(rw[hno];simp;omega)
 exact hQ _ _ (.of [2] (.inl rfl) rfl rfl rfl rfl)
theorem Mi{l:List Ax}(hl:l.map A6=xl)(hn:l.length≤4000000000)(hr:D4 l=o)(ho:o.map A6=xo):Fn Tryz.prog 195 [.d (.row 3 xl)] [] ⟨.d (.row 3 xo),[],[]⟩:=by
 refine Fn.go Gc Tryz.func195 fun P hP Q hQ=>?_
 conv=>cbv
 refine .go fun v1 ab=>?_
 conv=>cbv
 refine⟨fun h2=>?_,?_⟩
 have e:[]=D4 l:=(by unfold D4;exact Sx hl ab h2)
 rw[hr]at e
 subst e
 exact hQ _ _ (.r rfl rfl rfl (by rw[←ho];rfl))
 refine .row0 hl fun ad z3 ac aa=>?_
 conv=>cbv
 have e:l=D4 l:=(by rfl)
 rw[hr]at e
 subst e
 exact hQ _ _ (.r rfl rfl (by rw[←aa,List.length_map];first|omega|(simp;omega)) (by rw[←aa,←ho]))
theorem L5{l:List Ax}(hl:l.map A6=xl)(hn:l.length≤4000000000)(hr:D4 l=o)(ho:o.map A6=xo)(hno:no=o.length):Fn Tryz.prog 195 [.d (.row 3 xl)] [] ⟨.ref 0 0 no,[.row 3 false xo],[]⟩:=by
 refine Fn.goR Gc Tryz.func195 fun P hP Q hQ=>?_
 conv=>cbv
 refine .go fun v1 aa=>?_
 conv=>cbv
 refine⟨fun h2=>?_,?_⟩
 have e:[]=D4 l:=(by unfold D4;exact Sx hl aa h2)
 rw[hr]at e
 subst e
 obtain rfl:[]=xo:=by first|(rw[←ho];done)|(rw[←ho];rfl)
 obtain rfl:0=no:=by first|omega|(rw[hno];simp;done)|(rw[hno];simp;omega)
 exact hQ _ _ (.of [1] (.inl rfl) rfl rfl rfl rfl)
 refine .row0 hl fun ab z3 ad ac=>?_
 conv=>cbv
 have e:l=D4 l:=(by rfl)
 rw[hr]at e
 subst e
 obtain rfl:z3=xo:=by rw[←ac,←ho]
 obtain rfl:ab=no:=by first|omega|(rw[hno];simp;done)|(rw[hno];simp;omega)
 exact hQ _ _ (.of [2] (.inl rfl) rfl rfl rfl rfl)
theorem J7{o:List ByteArray}(hl:l.map cS=xl)(hn:l.length≤4000000000)(hr:D4 l=o)(ho:o.map cS=xo):Fn Tryz.prog 196 [.d (.row 1 xl)] [] ⟨.d (.row 1 xo),[],[]⟩:=by
 refine Fn.go Gc Tryz.func196 fun P hP Q hQ=>?_
 conv=>cbv
 refine .go fun v1 ab=>?_
 conv=>cbv
 refine⟨fun h2=>?_,?_⟩
 have e:[]=D4 l:=(by unfold D4;exact Sx hl ab h2)
 rw[hr]at e
 subst e
 exact hQ _ _ (.r rfl rfl rfl (by rw[←ho];rfl))
 refine .row0 hl fun ad z3 ac aa=>?_
 conv=>cbv
 have e:l=D4 l:=(by rfl)
 rw[hr]at e
 subst e
 exact hQ _ _ (.r rfl rfl (by rw[←aa,List.length_map];first|omega|(simp;omega)) (by rw[←aa,←ho]))
theorem Jm{o:List ByteArray}(hl:l.map cS=xl)(hn:l.length≤4000000000)(hr:D4 l=o)(ho:o.map cS=xo)(hno:no=o.length):Fn Tryz.prog 196 [.d (.row 1 xl)] [] ⟨.ref 0 0 no,[.row 1 false xo],[]⟩:=by
 refine Fn.goR Gc Tryz.func196 fun P hP Q hQ=>?_
 conv=>cbv
 refine .go fun v1 aa=>?_
 conv=>cbv
 refine⟨fun h2=>?_,?_⟩
 have e:[]=D4 l:=(by unfold D4;exact Sx hl aa h2)
 rw[hr]at e
 subst e
 obtain rfl:[]=xo:=by first|(rw[←ho];done)|(rw[←ho];rfl)
 obtain rfl:0=no:=by first|omega|(rw[hno];simp;done)|(rw[hno];simp;omega)
 exact hQ _ _ (.of [1] (.inl rfl) rfl rfl rfl rfl)
 refine .row0 hl fun ab z3 ad ac=>?_
 conv=>cbv
 have e:l=D4 l:=(by rfl)
 rw[hr]at e
 subst e
 obtain rfl:z3=xo:=by rw[←ac,←ho]
 obtain rfl:ab=no:=by first|omega|(rw[hno];simp;done)|(rw[hno];simp;omega)
 exact hQ _ _ (.of [2] (.inl rfl) rfl rfl rfl rfl)
end
section
open Go Go.Proofs
set_option maxRecDepth 20000
set_option maxHeartbeats 4000000
def Q4:List (Nat×TyRow):=[ty3,ty5,ty9,XaS,Xe]
theorem XcO:B8 Tryz.prog Q4:=B8.of (by kernel_rfl)
theorem Nm:Setup Tryz.prog Q4:=⟨XcO,mixed⟩
def I0{α:Type}(l:List α)(i:Int)(m:List α):List α:=l.take i.toNat++m++l.drop i.toNat
def Km{α:Type}(l:List α)(i j:Int):List α:=l.eraseIdx i.toNat
variable {l o oa:List Ad} {xl xo xoa:List (List D)} {nl no:Nat} {i:Int} {name:ByteArray} {ob:Bool}
theorem Gl{m:List Ad}{xm:List (List D)}{nm:Nat}(hl:l.map Ac=xl)(hnl:nl=l.length)(hm:m.map Ac=xm)(hnm:nm=m.length)
  (hp:(0≤i∧i≤l.length)∧l.length≤4000000000∧nm=1)(hr:I0 l i m=o)(ho:o.map Ac=xo)(hno:no=o.length):Fn Tryz.prog 307 [.ref 0 0 nl,I i,.ref 1 0 nm] [.row 2 false xl,.row 2 false xm] ⟨.ref 2 0 no,[.row 2 false xo],[(0,.dead)]⟩:=by
 obtain⟨⟨h0,h1⟩,h2,h3⟩:=hp
 subst h3
 refine⟨Ez Tryz.func307 rfl rfl,?_⟩
 obtain⟨i,rfl⟩:∃k:Nat,i=k:=⟨i.toNat,by omega⟩
 match m,hnm with
 |[x],_=>
  subst hm ho hno hr hl
  have h:=Xik (xs:=l.map Ac) (v:=Ac x) (n:=nl) (i:=i) (by simpa using hnl) (by omega) (by omega)
  have e:(I0 l i [x]).map Ac=(l.map Ac).take i++Ac x::(l.map Ac).drop i:=by
   unfold I0
   simp
  have e2:(I0 l i [x]).length=((l.map Ac).take i++Ac x::(l.map Ac).drop i).length:=by rw[←e,List.length_map]
  rw[e,e2]
  exact h
theorem Kq{j:Int}(hl:l.map Ac=xl)(hnl:nl=l.length)
  (hp:(0≤i∧i<l.length)∧j=i+1∧l.length≤4000000000)(hr:Km l i j=o)(ho:o.map Ac=xo)(hno:no=o.length):Fn Tryz.prog 308 [.ref 0 0 nl,I i,I j] [.row 2 false xl] ⟨.ref 1 0 no,[.row 2 false xo],[(0,.dead)]⟩:=by
 obtain⟨⟨h0,h1⟩,h2,h3⟩:=hp
 refine⟨Ez Tryz.func308 rfl rfl,?_⟩
 subst ho hno hr hl
 have h:=Xit (xs:=l.map Ac) (n:=nl) (i:=i) (j:=j) (by simpa using hnl) h0 (by omega) h2 (by omega)
 have e:(Km l i j).map Ac=(l.map Ac).eraseIdx i.toNat:=by
  unfold Km
  apply List.ext_getElem?
  intro k
  simp only[List.getElem?_map,List.getElem?_eraseIdx]
  split<;>rfl
 have e2:(Km l i j).length=((l.map Ac).eraseIdx i.toNat).length:=by rw[←e,List.length_map]
 rw[e,e2]
 exact h
def Kg(e:Ad)(name:ByteArray):Bool:=!(ltB e.name_ name||decide (e.name_=name))
def Cr(l:List Ad)(name:ByteArray):Int:=Su (fun e=>Kg e name) l
def Ut(l:List Ad)(name:ByteArray)(id:Int):List Ad:=
 if 0≤Aw l name then l.set (Aw l name).toNat ⟨(l.getD (Aw l name).toNat ⟨tx [],0⟩).name_,id⟩
 else I0 l (if Cr l name<0 then l.length else Cr l name) [⟨name,id⟩]
def G5(l:List Ad)(name:ByteArray):List Ad×Bool:=
 if Aw l name<0∨Bs name=false then([],false)else(Km l (Aw l name) (Aw l name+1),true)
theorem Xlt{enam:ByteArray}{eid:Int}{o:Bool}(hr:Kg (⟨enam,eid⟩:Ad) name=o):Fn Tryz.prog 306 [.agg [S enam,I eid],.ptr 0 0 0] [.box 9 [S name]] ⟨B o,[],[]⟩:=by
 refine Fn.goR Nm Tryz.func306 fun P hP Q hQ=>?_
 conv=>cbv
 refine .gtr fun b1 aa=>?_
 conv=>cbv
 have e:b1=Kg (⟨enam,eid⟩:Ad) name:=(by unfold Kg;exact aa)
 rw[hr]at e
 subst e
 exact hQ _ _ (.of [] (.inl rfl) rfl rfl rfl rfl)
theorem Sy{o:Int}(hl:l.map Ac=xl)(hnl:nl=l.length)(hn:l.length<2^40)(hr:Cr l name=o):Fn Tryz.prog 301 [.ref 0 0 nl,.clo 306 [.ptr 1 0 0]] [.row 2 false xl,.box 9 [S name]] ⟨I o,[],[]⟩:=by
 refine Fn.goR Nm Tryz.func301 fun P hP Q hQ=>?_
 conv=>cbv
 refine .go fun v1 ah=>?_
 conv=>cbv
 refine LoopW.lp (κ:=Int) Nm hP [] [0,1,7] (fun i8=>[(8,I i8)]) (fun i8=>[])
  (fun i8=>0≤i8∧i8≤l.length∧∀(j:Nat) (hj:j<l.length),j<i8.toNat→Kg l[j] name=false)
  (fun i8=>(l.length - i8).toNat) (0) ⟨by omega,by omega,fun j _ h=>by simp at h⟩ ⟨rfl,trivial⟩ rfl ?_
 rintro i8 J ⟨h0,h1,hb⟩ hJ
 conv=>cbv
 refine .lss (fun h2=>?_) fun h2=>?_
 conv=>cbv
 refine .go i8.toNat fun p3 ae af=>?_
 conv=>cbv
 refine .go hl fun ag ⟨aa,ac⟩ ad=>?_
 conv=>cbv
 subst ae
 generalize ab:Kg (⟨aa,ac⟩:Ad) name=r5
 refine .bx [1] [] hP (Xlt ab) rfl rfl rfl rfl ?_
 cases r5
 conv=>cbv
 refine .add fun v6 ai=>?_
 conv=>cbv
 exact .go [] (v6) (hJ _ ⟨by omega,by omega,fun j hj h=>if e:j=i8.toNat then by subst e;rw[←ad];exact ab else hb j hj (by omega)⟩ mlt)
 conv=>cbv
 have e:i8=Cr l name:=(by exact Lu (p:=fun x=>Kg x name) h0 (by omega) (ad▸ab) hb)
 rw[hr]at e
 subst e
 exact hQ _ _ (.of [] (.inl rfl) rfl rfl rfl rfl)
 conv=>cbv
 have e:(-1)=Cr l name:=(by exact Hh (p:=fun x=>Kg x name) fun j hj=>hb j hj (by omega))
 rw[hr]at e
 subst e
 exact hQ _ _ (.of [] (.inl rfl) rfl rfl rfl rfl)
theorem Xct:Setup Tryz.prog ((1000013,E7 Tryz.prog 1000013)::Q4):=(Setup.mark 1000013 Nm)
theorem XlY{id:Int}(hl:l.map Ac=xl)(hnl:nl=l.length)(hn:l.length≤4000000000)(hr:Ut l name id=o)(ho:o.map Ac=xo)(hno:no=o.length):Fn Tryz.prog 252 [.ref 0 0 nl,S name,I id] [.row 2 false xl] ⟨.ref 1 0 no,[.row 2 false xo],[(0,.dead)]⟩:=by
 refine Fn.goR Xct Tryz.func252 fun P hP Q hQ=>?_
 conv=>cbv
 refine JoinW.jn (κ:=(List (List D))×Nat) Xct hP [0] [0,2,4] (fun(ab,ac)=>[]) (fun(ab,ac)=>[(3,.row 2 false ab)])
  (fun(ab,ac)=>∃(w3:List Ad),w3.map Ac=ab∧ac=w3.length∧w3=l∧Aw w3 name<0) (fun Jj hJj=>?_) ?_
 conv=>cbv
 generalize aa:Aw l name=r1
 refine .lnt hP (Kp hl (by omega) aa) (.ref rfl (by rw[←hl,List.length_map];first|omega|(simp;omega)) (.d rfl .nil)) ?_
 conv=>cbv
 have hb:=I1 aa
 refine .geq (fun h2=>?_) fun h2=>?_
 conv=>cbv
 refine .go r1.toNat fun p3 ai am=>?_
 conv=>cbv
 refine .go (⟨(l.getD p3 ⟨tx [],0⟩).name_,id⟩:Ad) hl (by omega) (by rw[←gD (show p3<l.length by omega)];rfl) (Nat.le_refl 2) fun z4 aj=>?_
 conv=>cbv
 have e:(l.set p3 (⟨(l.getD p3 ⟨tx [],0⟩).name_,id⟩:Ad))=Ut l name id:=(by unfold Ut;rw[aa,if_pos (by omega),ai])
 rw[hr]at e
 subst e
 obtain rfl:z4=xo:=by rw[←aj,←ho]
 obtain rfl:nl=no:=by first|omega|(rw[hno];simp;done)|(rw[hno];simp;omega)
 exact hQ _ _ (.of [3] (.inl rfl) rfl rfl rfl rfl)
 conv=>cbv
 exact .go [3] (xl,nl) (hJj _ ⟨_,hl,Hm,rfl,by rw[aa];omega⟩)
 rintro⟨ab,ac⟩ ⟨w3,ad,an,hwl,hneg⟩
 have hwn:w3.length=l.length:=by rw[hwl]
 conv=>cbv
 generalize aa:Cr w3 name=r1
 refine .bx [3,1] [] hP (Sy ad (by first|rfl|omega|(simp;omega)) (by omega) aa) rfl rfl rfl rfl ?_
 conv=>cbv
 have hb:=XeS (p:=fun e=>Kg e name) aa
 refine .lss (fun h2=>?_) fun h2=>?_
 conv=>cbv
 refine .go fun v3 ao=>?_
 conv=>cbv
 generalize ae:I0 w3 v3 [(⟨name,id⟩:Ad)]=l4
 generalize af:l4.map Ac=ak
 obtain⟨nl4,hnl4⟩:∃m,m=l4.length:=⟨_,rfl⟩
 refine .bx [3,4] [] hP (Gl ad (by first|rfl|omega|(simp;omega)) rfl (by first|rfl|omega|(simp;omega)) (by omega) ae af hnl4) rfl rfl rfl rfl ?_
 conv=>cbv
 have e:l4=Ut l name id:=(by rw[←hwl];unfold Ut;rw[if_neg (by omega),aa,if_pos (by omega),show((w3.length:Nat):Int)=v3 by omega];exact ae.symm)
 rw[hr]at e
 subst e
 obtain rfl:ak=xo:=by rw[←af,←ho]
 obtain rfl:nl4=no:=by first|omega|(rw[hno];simp;done)|(rw[hno];simp;omega)
 exact hQ _ _ (.of [5] (.inl rfl) rfl rfl rfl rfl)
 conv=>cbv
 generalize ag:I0 w3 r1 [(⟨name,id⟩:Ad)]=l3
 generalize ah:l3.map Ac=al
 obtain⟨nl3,hnl3⟩:∃m,m=l3.length:=⟨_,rfl⟩
 refine .bx [3,4] [] hP (Gl ad (by first|rfl|omega|(simp;omega)) rfl (by first|rfl|omega|(simp;omega)) (by omega) ag ah hnl3) rfl rfl rfl rfl ?_
 conv=>cbv
 have e:l3=Ut l name id:=(by rw[←hwl];unfold Ut;rw[if_neg (by omega),aa,if_neg (by omega)];exact ag.symm)
 rw[hr]at e
 subst e
 obtain rfl:al=xo:=by rw[←ah,←ho]
 obtain rfl:nl3=no:=by first|omega|(rw[hno];simp;done)|(rw[hno];simp;omega)
 exact hQ _ _ (.of [5] (.inl rfl) rfl rfl rfl rfl)
theorem Y8:Setup Tryz.prog ((1000016,E7 Tryz.prog 1000016)::Q4):=(Setup.mark 1000016 Nm)
theorem XkH{noa:Nat}(hl:l.map Ac=xl)(hnl:nl=l.length)(hn:l.length≤4000000000)(hs:name.size≤1000000000)(hr:G5 l name=(oa,ob))(hoa:oa.map Ac=xoa)(hnoa:noa=oa.length):Fn Tryz.prog 253 [.ref 0 0 nl,S name] [.row 2 false xl] ⟨.tup [.ref 1 0 noa,B ob],[.row 2 false xoa],[(0,.dead)]⟩:=by
 refine Fn.goR Y8 Tryz.func253 fun P hP Q hQ=>?_
 conv=>cbv
 generalize ab:Aw l name=r1
 refine .lnt hP (Kp hl (by omega) ab) (.ref rfl (by rw[←hl,List.length_map];first|omega|(simp;omega)) (.d rfl .nil)) ?_
 conv=>cbv
 have hb:=I1 ab
 refine JoinW.jn (κ:=(List (List D))×Nat) Y8 hP [0] [0,6] (fun(ac,ad)=>[]) (fun(ac,ad)=>[(2,.row 2 false ac)])
  (fun(ac,ad)=>∃(w2:List Ad),w2.map Ac=ac∧ad=w2.length∧w2=l∧0≤r1∧Bs name=true) (fun Jj hJj=>?_) ?_
 conv=>cbv
 refine .lss (fun h2=>?_) fun h2=>?_
 conv=>cbv
 have e:([],false)=G5 l name:=(by unfold G5;rw[ab,if_pos (.inl h2)])
 rw[hr]at e
 simp only[Prod.mk.injEq]at e
 obtain⟨rfl,rfl⟩:=e
 obtain rfl:[]=xoa:=by first|(rw[←hoa];done)|(rw[←hoa];rfl)
 obtain rfl:0=noa:=by first|omega|(rw[hnoa];simp;done)|(rw[hnoa];simp;omega)
 exact hQ _ _ (.of [3] (.inl rfl) rfl rfl rfl rfl)
 conv=>cbv
 generalize aa:Bs name=r3
 refine .dd hP (M6 (by omega) aa) ?_
 cases r3
 conv=>cbv
 have e:([],false)=G5 l name:=(by unfold G5;rw[ab,if_pos (.inr aa)])
 rw[hr]at e
 simp only[Prod.mk.injEq]at e
 obtain⟨rfl,rfl⟩:=e
 obtain rfl:[]=xoa:=by first|(rw[←hoa];done)|(rw[←hoa];rfl)
 obtain rfl:0=noa:=by first|omega|(rw[hnoa];simp;done)|(rw[hnoa];simp;omega)
 exact hQ _ _ (.of [3] (.inl rfl) rfl rfl rfl rfl)
 conv=>cbv
 exact .go [2] (xl,nl) (hJj _ ⟨_,hl,Hm,rfl,by omega,aa⟩)
 rintro⟨ac,ad⟩ ⟨w2,af,ai,hwl,aj,hnm⟩
 have hwn:w2.length=l.length:=by rw[hwl]
 conv=>cbv
 refine .add fun v2 ag=>?_
 conv=>cbv
 generalize aa:Km w2 r1 v2=l3
 generalize ae:l3.map Ac=ah
 obtain⟨nl3,hnl3⟩:∃m,m=l3.length:=⟨_,rfl⟩
 refine .bx [2] [] hP (Kq af (by first|rfl|omega|(simp;omega)) (by omega) aa ae hnl3) rfl rfl rfl rfl ?_
 conv=>cbv
 have e:(l3,true)=G5 l name:=(by unfold G5;rw[ab,if_neg (by rintro(h|h);omega;rw[hnm]at h;cases h),←aa,ag,hwl])
 rw[hr]at e
 simp only[Prod.mk.injEq]at e
 obtain⟨rfl,rfl⟩:=e
 obtain rfl:ah=xoa:=by rw[←ae,←hoa]
 obtain rfl:nl3=noa:=by first|omega|(rw[hnoa];simp;done)|(rw[hnoa];simp;omega)
 exact hQ _ _ (.of [3] (.inl rfl) rfl rfl rfl rfl)
theorem Xia{o:Int}(hl:l.map Ac=xl)(hn:l.length≤4000000000)(hr:Cy l name=o):Fn Tryz.prog 254 [.d (.row 2 xl),S name] [] ⟨I o,[],[]⟩:=by
 refine Fn.go Nm Tryz.func254 fun P hP Q hQ=>?_
 conv=>cbv
 generalize aa:Aw l name=r1
 refine .dd hP (Kp hl (by omega) aa) ?_
 conv=>cbv
 have hb:=I1 aa
 refine .lss (fun h2=>?_) fun h2=>?_
 conv=>cbv
 have e:0=Cy l name:=(by unfold Cy;rw[aa,if_pos (by omega)])
 rw[hr]at e
 subst e
 exact hQ _ _ (.i rfl rfl)
 conv=>cbv
 refine .go r1.toNat hl fun ae ⟨ac,ab⟩ ad=>?_
 conv=>cbv
 have e:ab=Cy l name:=(by unfold Cy;rw[aa,if_neg (by omega),←gD (show r1.toNat<l.length by omega),←ad])
 rw[hr]at e
 subst e
 exact hQ _ _ (.i rfl rfl)
def Ap(l:List Ad)(step:ByteArray):List Ad×Bool:=
 if step=tx []then([],false)else
 let nm:=(K0 (step.extract 1 step.size)).1
 let rest:=(K0 (step.extract 1 step.size)).2.1
 let has:=(K0 (step.extract 1 step.size)).2.2
 if step.data.toList.head?=some 43 then
  (if has=false∨(Ba rest).2=false∨Bs nm=false then([],false)else(Ut l nm (Ba rest).1,true))
 else if step.data.toList.head?=some 45 then G5 l (step.extract 1 step.size)
 else if step.data.toList.head?=some 62 then
  (if has=false∨(G5 l nm).2=false∨Bs rest=false∨nm=rest then([],false)else(Ut (G5 l nm).1 rest (Cy l nm),true))
 else([],false)
theorem Lb{t:ByteArray}(h:0<t.size):t.data.toList.head?=some t[0]:=by
 rw[List.head?_eq_getElem?]
 exact M2 h
theorem XeF{t:ByteArray}(h:t≠tx []):0<t.size:=by
 rcases Nat.eq_zero_or_pos t.size with h0|h0
 ·exfalso
  apply h
  have hl:t.data.toList.length=t.size:=Array.length_toList
  rw[h0]at hl
  have h1:=List.eq_nil_of_length_eq_zero hl
  apply ByteArray.ext
  exact Array.toList_inj.1 (by rw[h1];rfl)
 ·exact h0
theorem Xjx{b:UInt8}{v:Int}{n:Nat}(hv:v=(b.toNat:Int))(h:v=(n:Int))(hn:n<256):b=UInt8.ofNat n:=by
 apply UInt8.toNat_inj.1
 rw[UInt8.toNat_ofNat',Nat.mod_eq_of_lt (by omega)]
 omega
theorem XjJ{b:UInt8}{v:Int}{n:Nat}(hv:v=(b.toNat:Int))(h:v≠(n:Int))(hn:n<256):b≠UInt8.ofNat n:=by
 rintro rfl
 apply h
 rw[hv,UInt8.toNat_ofNat',Nat.mod_eq_of_lt (by omega)]
section
variable {l:List Ad} {step a b:ByteArray} {c:Bool}
theorem XeK(h:step=tx []):Ap l step=([],false):=by
 unfold Ap
 rw[if_pos h]
theorem Ml(h:step≠tx [])(hh:step.data.toList.head?=some 43)(hc:K0 (step.extract 1 step.size)=(a,b,c)):Ap l step=if c=false∨(Ba b).2=false∨Bs a=false then([],false)else(Ut l a (Ba b).1,true):=by
 unfold Ap
 rw[if_neg h,hc,if_pos hh]
theorem Sn(h:step≠tx [])(hh:step.data.toList.head?=some 45):Ap l step=G5 l (step.extract 1 step.size):=by
 unfold Ap
 rw[if_neg h,if_neg (by rw[hh];decide),if_pos hh]
theorem Ku(h:step≠tx [])(hh:step.data.toList.head?=some 62)(hc:K0 (step.extract 1 step.size)=(a,b,c)):Ap l step=if c=false∨(G5 l a).2=false∨Bs b=false∨a=b then([],false)else(Ut (G5 l a).1 b (Cy l a),true):=by
 unfold Ap
 rw[if_neg h,hc,if_neg (by rw[hh];decide),if_neg (by rw[hh];decide),if_pos hh]
theorem XcJ{x:UInt8}(h:step≠tx [])(hh:step.data.toList.head?=some x)(h1:x≠43)(h2:x≠45)(h3:x≠62):Ap l step=([],false):=by
 unfold Ap
 have k:∀y,x≠y→¬step.data.toList.head?=some y:=fun y hy e=>hy (by rw[hh]at e;exact Option.some.inj e)
 rw[if_neg h,if_neg (k _ h1),if_neg (k _ h2),if_neg (k _ h3)]
end
theorem Xh5{s a b:ByteArray}{c:Bool}(e:K0 s=(a,b,c)):a.size≤s.size∧b.size≤s.size:=by
 unfold K0 at e
 split at e
 ·simp only[Prod.mk.injEq]at e
  obtain⟨rfl,rfl,rfl⟩:=e
  rw[ByteArray.size_extract,ByteArray.size_extract]
  omega
 ·simp only[Prod.mk.injEq]at e
  obtain⟨rfl,rfl,rfl⟩:=e
  exact⟨Nat.le_refl _,by rw[B7];exact Nat.zero_le _⟩
theorem Wf{l a:List Ad}{n:ByteArray}{b:Bool}(e:G5 l n=(a,b)):a.length≤l.length:=by
 unfold G5 at e
 split at e
 ·simp only[Prod.mk.injEq]at e
  rw[←e.1]
  exact Nat.zero_le _
 ·simp only[Prod.mk.injEq]at e
  rw[←e.1]
  unfold Km
  rw[List.length_eraseIdx]
  split<;>omega
theorem XfP{l a:List Ad}{n:ByteArray}{i:Int}(e:Ut l n i=a):a.length≤l.length+1:=by
 rw[←e]
 unfold Ut I0
 split
 ·rw[List.length_set];omega
 ·simp only[List.length_append,List.length_take,List.length_drop,List.length_cons,List.length_nil]
  omega
theorem Mo{l a:List Ad}{s:ByteArray}{b:Bool}(e:Ap l s=(a,b)):a.length≤l.length+1:=by
 unfold Ap at e
 have h0:∀{b:Bool},(([]:List Ad),false)=(a,b)→a.length≤l.length+1:=fun h=>by
  simp only[Prod.mk.injEq]at h
  rw[←h.1];exact Nat.zero_le _
 split at e
 ·exact h0 e
 ·dsimp only at e
  split at e
  ·split at e
   ·exact h0 e
   ·simp only[Prod.mk.injEq]at e
    exact XfP e.1
  ·split at e
   ·have:=Wf e;omega
   ·split at e
    ·split at e
     ·exact h0 e
     ·simp only[Prod.mk.injEq]at e
      have h1:=XfP e.1
      have h2:=Wf (l:=l) (n:=(K0 (s.extract 1 s.size)).1) (a:=(G5 l (K0 (s.extract 1 s.size)).1).1) (b:=(G5 l (K0 (s.extract 1 s.size)).1).2) rfl
      omega
    ·exact h0 e
theorem O3{step:ByteArray}(hl:l.map Ac=xl)(hn:l.length≤4000000000)(hs:step.size≤1000000000)(hr:Ap l step=(oa,ob))(hoa:oa.map Ac=xoa):Fn Tryz.prog 179 [.d (.row 2 xl),S step] [] ⟨.tup [.d (.row 2 xoa),B ob],[],[]⟩:=by
 refine Fn.go Nm Tryz.func179 fun P hP Q hQ=>?_
 conv=>cbv
 refine .eql (fun h1=>?_) fun h1=>?_
 conv=>cbv
 have e:([],false)=Ap l step:=(by exact(XeK h1).symm)
 rw[hr]at e
 simp only[Prod.mk.injEq]at e
 obtain⟨rfl,rfl⟩:=e
 refine hQ _ _ ?_
 exact .many (.inl rfl) rfl rfl (.ref rfl rfl (by rw[←hoa];rfl) (.d rfl rfl (.nil)))
 conv=>cbv
 have hps:=XeF h1
 refine .lo fun s2 ax=>?_
 conv=>cbv
 have be:s2.size≤step.size:=by rw[ax,ByteArray.size_extract];omega
 rcases al:K0 s2 with⟨ae,am,ao⟩
 have hcb:=Xh5 al
 have hcu:K0 (step.extract 1 step.size)=(ae,am,ao):=by rw[ax]at al;exact al
 refine .dd hP (XaB (by omega) al) ?_
 conv=>cbv
 generalize ay:D4 l=l4
 have aa:l4=l:=ay.symm
 have bb:l4.length=l.length:=by rw[aa]
 generalize af:l4.map Ac=bf
 obtain⟨nl4,hnl4⟩:∃m,m=l4.length:=⟨_,rfl⟩
 refine .ddA hP (Kj hl (by omega) ay af hnl4) rfl rfl rfl (af▸Pn (fun _=>rfl) l4) ?_
 conv=>cbv
 refine .go 0 fun hjv5 v5 ad bv5=>?_
 conv=>cbv
 refine .eql (fun h6=>?_) fun h6=>?_
 conv=>cbv
 have hh:step.data.toList.head?=some 43:=(Lb hps).trans (congrArg some (Xjx (n:=43) ad (by omega) (by decide)))
 rcases ap:Ba am with⟨a2,a6⟩
 refine .dd hP (Xas (by omega) ap) ?_
 conv=>cbv
 cases ao
 conv=>cbv
 have e:([],false)=Ap l step:=(by rw[Ml h1 hh hcu,if_pos (.inl rfl)])
 rw[hr]at e
 simp only[Prod.mk.injEq]at e
 obtain⟨rfl,rfl⟩:=e
 refine hQ _ _ ?_
 exact .many (.inl rfl) rfl rfl (.ref rfl rfl (by rw[←hoa];rfl) (.d rfl rfl (.nil)))
 conv=>cbv
 cases a6
 conv=>cbv
 have e:([],false)=Ap l step:=(by rw[Ml h1 hh hcu,ap,if_pos (.inr (.inl rfl))])
 rw[hr]at e
 simp only[Prod.mk.injEq]at e
 obtain⟨rfl,rfl⟩:=e
 refine hQ _ _ ?_
 exact .many (.inl rfl) rfl rfl (.ref rfl rfl (by rw[←hoa];rfl) (.d rfl rfl (.nil)))
 conv=>cbv
 generalize aq:Bs ae=r8
 refine .dd hP (M6 (by omega) aq) ?_
 cases r8
 conv=>cbv
 have e:([],false)=Ap l step:=(by rw[Ml h1 hh hcu,if_pos (.inr (.inr aq))])
 rw[hr]at e
 simp only[Prod.mk.injEq]at e
 obtain⟨rfl,rfl⟩:=e
 refine hQ _ _ ?_
 exact .many (.inl rfl) rfl rfl (.ref rfl rfl (by rw[←hoa];rfl) (.d rfl rfl (.nil)))
 conv=>cbv
 generalize ab:Ut l4 ae a2=l9
 generalize ar:l9.map Ac=bg
 obtain⟨nl9,hnl9⟩:∃m,m=l9.length:=⟨_,rfl⟩
 refine .bx [1] [] hP (XlY af (by first|rfl|omega|(simp;omega)) (by omega) ab ar hnl9) rfl rfl rfl rfl ?_
 conv=>cbv
 have e:(l9,true)=Ap l step:=(by rw[Ml h1 hh hcu,ap,if_neg (by rw[aq];simp),←ab,aa])
 rw[hr]at e
 simp only[Prod.mk.injEq]at e
 obtain⟨rfl,rfl⟩:=e
 refine hQ _ _ ?_
 exact .many (.inl rfl) rfl rfl (.ref rfl (by rw[←ar,List.length_map];first|omega|(simp;omega)) (by rw[←ar,←hoa]) (.d rfl rfl (.nil)))
 conv=>cbv
 refine .eql (fun h7=>?_) fun h7=>?_
 conv=>cbv
 have hh:step.data.toList.head?=some 45:=(Lb hps).trans (congrArg some (Xjx (n:=45) ad (by omega) (by decide)))
 refine .lo fun s8 az=>?_
 conv=>cbv
 have bh:s8.size≤step.size:=by rw[az,ByteArray.size_extract];omega
 rcases ab:G5 l4 s8 with⟨au,a7⟩
 generalize ag:au.map Ac=bc
 obtain⟨nr9a,hnr9a⟩:∃m,m=au.length:=⟨_,rfl⟩
 refine .bx [1] [] hP (XkH af (by first|rfl|omega|(simp;omega)) (by omega) (by omega) ab ag hnr9a) rfl rfl rfl rfl ?_
 conv=>cbv
 have e:(au,a7)=Ap l step:=(by rw[Sn h1 hh];rw[az,aa]at ab;exact ab.symm)
 rw[hr]at e
 simp only[Prod.mk.injEq]at e
 obtain⟨rfl,rfl⟩:=e
 refine hQ _ _ ?_
 exact .many (.inl rfl) rfl rfl (.ref rfl (by rw[←ag,List.length_map];first|omega|(simp;omega)) (by rw[←ag,←hoa]) (.d rfl rfl (.nil)))
 conv=>cbv
 refine .eql (fun h8=>?_) fun h8=>?_
 conv=>cbv
 have hh:step.data.toList.head?=some 62:=(Lb hps).trans (congrArg some (Xjx (n:=62) ad (by omega) (by decide)))
 generalize ab:Cy l ae=r9
 refine .dd hP (Xia hl (by omega) ab) ?_
 conv=>cbv
 rcases ac:G5 l4 ae with⟨ah,a1⟩
 have hdl:=Wf ac
 generalize ai:ah.map Ac=a8
 obtain⟨nr10a,hnr10a⟩:∃m,m=ah.length:=⟨_,rfl⟩
 refine .bx [1] [] hP (XkH af (by first|rfl|omega|(simp;omega)) (by omega) (by omega) ac ai hnr10a) rfl rfl rfl rfl ?_
 conv=>cbv
 cases ao
 conv=>cbv
 have e:([],false)=Ap l step:=(by rw[Ku h1 hh hcu,if_pos (.inl rfl)])
 rw[hr]at e
 simp only[Prod.mk.injEq]at e
 obtain⟨rfl,rfl⟩:=e
 refine hQ _ _ ?_
 exact .many (.inl rfl) rfl rfl (.ref rfl rfl (by rw[←hoa];rfl) (.d rfl rfl (.nil)))
 conv=>cbv
 cases a1
 conv=>cbv
 have e:([],false)=Ap l step:=(by rw[Ku h1 hh hcu,←aa,ac,if_pos (.inr (.inl rfl))])
 rw[hr]at e
 simp only[Prod.mk.injEq]at e
 obtain⟨rfl,rfl⟩:=e
 refine hQ _ _ ?_
 exact .many (.inl rfl) rfl rfl (.ref rfl rfl (by rw[←hoa];rfl) (.d rfl rfl (.nil)))
 conv=>cbv
 generalize aj:Bs am=ba
 refine .dd hP (M6 (by omega) aj) ?_
 cases ba
 conv=>cbv
 have e:([],false)=Ap l step:=(by rw[Ku h1 hh hcu,if_pos (.inr (.inr (.inl aj)))])
 rw[hr]at e
 simp only[Prod.mk.injEq]at e
 obtain⟨rfl,rfl⟩:=e
 refine hQ _ _ ?_
 exact .many (.inl rfl) rfl rfl (.ref rfl rfl (by rw[←hoa];rfl) (.d rfl rfl (.nil)))
 conv=>cbv
 refine .eql (fun h12=>?_) fun h12=>?_
 conv=>cbv
 have e:([],false)=Ap l step:=(by rw[Ku h1 hh hcu,if_pos (.inr (.inr (.inr h12)))])
 rw[hr]at e
 simp only[Prod.mk.injEq]at e
 obtain⟨rfl,rfl⟩:=e
 refine hQ _ _ ?_
 exact .many (.inl rfl) rfl rfl (.ref rfl rfl (by rw[←hoa];rfl) (.d rfl rfl (.nil)))
 conv=>cbv
 generalize an:Ut ah am r9=aw
 generalize ak:aw.map Ac=bd
 obtain⟨nl13,hnl13⟩:∃m,m=aw.length:=⟨_,rfl⟩
 refine .bx [2] [] hP (XlY ai (by first|rfl|omega|(simp;omega)) (by omega) an ak hnl13) rfl rfl rfl rfl ?_
 conv=>cbv
 have e:(aw,true)=Ap l step:=(by rw[Ku h1 hh hcu,if_neg (by rw[←aa,ac,aj];simp;exact h12),ab,←an,←aa,ac])
 rw[hr]at e
 simp only[Prod.mk.injEq]at e
 obtain⟨rfl,rfl⟩:=e
 refine hQ _ _ ?_
 exact .many (.inl rfl) rfl rfl (.ref rfl (by rw[←ak,List.length_map];first|omega|(simp;omega)) (by rw[←ak,←hoa]) (.d rfl rfl (.nil)))
 conv=>cbv
 have e:([],false)=Ap l step:=(by rw[XcJ h1 (Lb hps) (XjJ (n:=43) ad h6 (by decide)) (XjJ (n:=45) ad h7 (by decide)) (XjJ (n:=62) ad h8 (by decide))])
 rw[hr]at e
 simp only[Prod.mk.injEq]at e
 obtain⟨rfl,rfl⟩:=e
 refine hQ _ _ ?_
 exact .many (.inl rfl) rfl rfl (.ref rfl rfl (by rw[←hoa];rfl) (.d rfl rfl (.nil)))
end
section
open Go Go.Proofs
set_option maxRecDepth 20000
set_option maxHeartbeats 4000000
def Rb:List (Nat×TyRow):=[ty3,ty9,XgT,XaS,Xn,Xi,Xe]
theorem Xbz:B8 Tryz.prog Rb:=B8.of (by kernel_rfl)
theorem Pk:Setup Tryz.prog Rb:=⟨Xbz,mixed⟩
theorem Xgc{a b:ByteArray}:a.toList=b.toList↔a=b:=⟨fun e=>Of e,fun e=>by rw[e]⟩
theorem AggW.eSI{a c:ByteArray}{b d:Int}{K:Bool→Prop}(h1:a=c∧b=d→K true)(h2:¬(a=c∧b=d)→K false):AggW [.str,.int] [.d (.sc (.string a)),.d (.sc (.int .i64 b))] [.d (.sc (.string c)),.d (.sc (.int .i64 d))] K:=by
 by_cases h:a=c∧b=d
 ·refine⟨true,?_,h1 h⟩
  simp[Pw,Xlc,h.1,h.2]
 ·refine⟨false,?_,h2 h⟩
  simp only[Pw,Xlc,if_true,Option.bind_some,Option.map_some,Option.some.injEq,Bool.and_true]
  simpa[Bool.and_eq_false_iff,Xgc]using h
instance decEntry:DecidableEq Ad:=fun a b=>match a,b with
 |⟨n,i⟩,⟨m,j⟩=>decidable_of_iff (n=m∧i=j) (by simp)
def okL(l:List Ad):Prop:=∀e∈l,e.name_.size≤1000000000
def okS(l:List ByteArray):Prop:=∀s∈l,s.size≤1000000000
def I9(d:Aa):Prop:=okD d∧okL d.old_∧okS d.steps_
def F1(d:Aa):Int:=Xld (fun n:Ax=>(n.text_.size:Int)) d.nodes_
def nd(d:Aa)(i:Nat):Ax:=d.nodes_.getD i ⟨0,tx [],0⟩
def Ep(d:Aa)(i:Nat):Bool:=decide ((0<i→(nd d (i - 1)).id_<(nd d i).id_)∧(1≤(nd d i).id_∧(nd d i).id_≤d.next_ - 1)∧0≤(nd d i).sure_∧(nd d i).sure_≤(nd d i).text_.size)
def Ec(d:Aa):Bool:=(List.range d.nodes_.length).all (Ep d)&&decide (d.nodes_.length≤64)
def en(l:List Ad)(i:Nat):Ad:=l.getD i ⟨tx [],0⟩
def Fm(d:Aa)(l:List Ad)(i:Nat):Bool:=(decide (i=0)|| !(ltB (en l i).name_ (en l (i - 1)).name_||decide ((en l i).name_=(en l (i - 1)).name_)))&&Bs (en l i).name_&&decide (0≤Iz d (en l i).id_)
def Bc(d:Aa)(l:List Ad):Bool:=(List.range l.length).all (Fm d l)&&decide (l.length≤16)
theorem Xbf{p:Nat→Bool}{n:Nat}(h:∀i,i<n→p i=true):(List.range n).all p=true:=List.all_eq_true.2 fun i hi=>h i (List.mem_range.1 hi)
theorem XbA{p:Nat→Bool}{n i:Nat}(hi:i<n)(h:p i=false):(List.range n).all p=false:=by
 rw[Bool.eq_false_iff]
 intro ha
 have:=List.all_eq_true.1 ha i (List.mem_range.2 hi)
 rw[h]at this
 cases this
theorem Jv{d:Aa}{i:Nat}(hi:i<d.nodes_.length)(h:Ep d i=false):false=Ec d:=by unfold Ec;rw[XbA hi h];rfl
theorem V9{d:Aa}{b:Bool}(h:∀i,i<d.nodes_.length→Ep d i=true)(hb:b=decide (d.nodes_.length≤64)):b=Ec d:=by unfold Ec;rw[Xbf h,hb];rfl
theorem Og{d:Aa}{l:List Ad}{i:Nat}(hi:i<l.length)(h:Fm d l i=false):false=Bc d l:=by unfold Bc;rw[XbA hi h];rfl
theorem Uk{d:Aa}{l:List Ad}{b:Bool}(h:∀i,i<l.length→Fm d l i=true)(hb:b=decide (l.length≤16)):b=Bc d l:=by unfold Bc;rw[Xbf h,hb];rfl
theorem Uh{d:Aa}{l:List Ad}(h:Bc d l=true):l.length≤16:=by
 unfold Bc at h
 rw[Bool.and_eq_true,decide_eq_true_eq]at h
 exact h.2
theorem XiS{d:Aa}{k:Nat}{x:Ax}(hk:k<d.nodes_.length)(h:x=d.nodes_[k]):nd d k=x:=by rw[h,gD hk];rfl
theorem XbO{l:List Ad}{k:Nat}{x:Ad}(hk:k<l.length)(h:x=l[k]):en l k=x:=by rw[h,gD hk];rfl
def Er(d:Aa):List Ad→List ByteArray→Bool
 |now,[]=>Bc d now&&F9 now d.entries_
 |now,s::ss=>Bc d now&&(Ap now s).2&&Er d (Ap now s).1 ss
def Bk(d:Aa):Bool:=Bl d.room_&&Ca d.next_ 1 1000000000&&Ec d&&decide (F1 d≤d.room_)&&Er d d.old_ d.steps_
theorem Xg8{l:List Ad}{n:ByteArray}{i:Int}(h:okL l)(hn:n.size≤1000000000):okL (Ut l n i):=by
 intro e he
 unfold Ut I0 at he
 split at he
 ·rename_i h0
  have hlt:=(I1 (rfl:Aw l n=_)).2
  rcases List.mem_or_eq_of_mem_set he with he|rfl
  ·exact h e he
  ·have hk:(Aw l n).toNat<l.length:=by omega
   show(l.getD (Aw l n).toNat ⟨tx [],0⟩).name_.size≤_
   rw[←gD hk]
   exact h _ (List.getElem_mem hk)
 ·simp only[List.append_assoc,List.mem_append,List.mem_cons,List.not_mem_nil,or_false,List.cons_append,List.nil_append]at he
  rcases he with he|rfl|he
  ·exact h e (List.mem_of_mem_take he)
  ·exact hn
  ·exact h e (List.mem_of_mem_drop he)
theorem Xfd{l a:List Ad}{n:ByteArray}{b:Bool}(h:okL l)(e:G5 l n=(a,b)):okL a:=by
 unfold G5 Km at e
 split at e
 ·simp only[Prod.mk.injEq]at e
  rw[←e.1];intro x hx;cases hx
 ·simp only[Prod.mk.injEq]at e
  rw[←e.1]
  intro x hx
  exact h x (List.mem_of_mem_eraseIdx hx)
theorem Xak{l a:List Ad}{s:ByteArray}{b:Bool}(h:okL l)(hs:s.size≤1000000000)(e:Ap l s=(a,b)):okL a:=by
 have h0:∀{b:Bool},(([]:List Ad),false)=(a,b)→okL a:=fun h=>by
  simp only[Prod.mk.injEq]at h
  rw[←h.1];intro x hx;cases hx
 have hz:(s.extract 1 s.size).size≤s.size:=by rw[ByteArray.size_extract];omega
 obtain⟨x,y,c,hc⟩:∃x y c,K0 (s.extract 1 s.size)=(x,y,c):=⟨_,_,_,rfl⟩
 have hcb:=Xh5 hc
 unfold Ap at e
 rw[hc]at e
 split at e
 ·exact h0 e
 ·dsimp only at e
  split at e
  ·split at e
   ·exact h0 e
   ·simp only[Prod.mk.injEq]at e
    rw[←e.1]
    exact Xg8 h (by omega)
  ·split at e
   ·exact Xfd h e
   ·split at e
    ·split at e
     ·exact h0 e
     ·simp only[Prod.mk.injEq]at e
      rw[←e.1]
      exact Xg8 (Xfd h (b:=(G5 l x).2) rfl) (by omega)
    ·exact h0 e
variable {Ae:List Ax} {Be Bf A9 Bg:List (List D)} {Ah Ai:List Ad} {Af:List ByteArray} {An Al:Int} {o:Bool}
theorem Xex{o:Int}(Aj:Ae.map A6=Be)(Ak:Ah.map Ac=Bf)(Ao:Ai.map Ac=A9)(Am:Af.map cS=Bg)(hd:okD ⟨Ae,Ah,Ai,Af,An,Al⟩)(hr:F1 (⟨Ae,Ah,Ai,Af,An,Al⟩:Aa)=o):Fn Tryz.prog 175 [.agg [.d (.row 3 Be),.d (.row 2 Bf),.d (.row 2 A9),.d (.row 1 Bg),I An,I Al]] [] ⟨I o,[],[]⟩:=by
 refine Fn.go Pk Tryz.func175 fun P hP Q hQ=>?_
 conv=>cbv
 refine .go Aj fun v1 ag=>?_
 conv=>cbv
 refine LoopW.lp (κ:=Int×Int) Pk hP [] [7,8] (fun(i3,i9)=>[(3,I i3),(9,I i9)]) (fun(i3,i9)=>[])
  (fun(i3,i9)=>0≤i9∧i9≤Ae.length∧i3=Xld (fun n:Ax=>(n.text_.size:Int)) (Ae.take i9.toNat)∧0≤i3∧i3≤1000000000*i9)
  (fun(i3,i9)=>(Ae.length - i9).toNat) (0,0) ⟨by omega,by omega,rfl,by omega,by omega⟩ ⟨rfl,rfl,trivial⟩ rfl ?_
 rintro⟨i3,i9⟩ J ⟨h0,h1,hx,hx0,hx1⟩ hJ
 have ah:Ae.length≤1000000000:=hd.1
 have ac:∀n∈Ae,n.text_.size≤1000000000:=hd.2.1
 conv=>cbv
 refine .lss (fun h2=>?_) fun h2=>?_
 conv=>cbv
 refine .go i9.toNat Aj fun aa ⟨af,ad,ae⟩ ab=>?_
 conv=>cbv
 have hz:=ac _ (List.getElem_mem aa)
 rw[←ab]at hz
 simp only[]at hz
 refine .go fun v4 ai=>?_
 conv=>cbv
 refine .add fun v5 aj=>?_
 conv=>cbv
 refine .add fun v6 ak=>?_
 conv=>cbv
 exact .go [] (v5,v6) (hJ _ ⟨by omega,by omega,by rw[show v6.toNat=i9.toNat+1 by omega,XcM aa,←hx,←ab];simp only[];omega,by omega,by omega⟩ mlt)
 conv=>cbv
 have e:i3=F1 (⟨Ae,Ah,Ai,Af,An,Al⟩:Aa):=(by unfold F1;rw[hx,List.take_of_length_le (by omega)])
 rw[hr]at e
 subst e
 exact hQ _ _ (.i rfl rfl)
theorem Ko:Setup Tryz.prog ((3000004,E7 Tryz.prog 3000004)::Rb):=(Setup.mark 3000004 Pk)
theorem Wr(Aj:Ae.map A6=Be)(Ak:Ah.map Ac=Bf)(Ao:Ai.map Ac=A9)(Am:Af.map cS=Bg)(hd:okD ⟨Ae,Ah,Ai,Af,An,Al⟩)(hx: -9223372036854775807≤Al∧Al≤9223372036854775807)(hr:Ec (⟨Ae,Ah,Ai,Af,An,Al⟩:Aa)=o):Fn Tryz.prog 174 [.agg [.d (.row 3 Be),.d (.row 2 Bf),.d (.row 2 A9),.d (.row 1 Bg),I An,I Al]] [] ⟨B o,[],[]⟩:=by
 refine Fn.go Ko Tryz.func174 fun P hP Q hQ=>?_
 conv=>cbv
 refine .go Aj fun v1 ax=>?_
 conv=>cbv
 refine LoopW.lp (κ:=Int) Ko hP [] [1,6,7] (fun i8=>[(8,I i8)]) (fun i8=>[])
  (fun i8=>0≤i8∧i8≤Ae.length∧∀j:Nat,j<i8.toNat→Ep (⟨Ae,Ah,Ai,Af,An,Al⟩:Aa) j=true)
  (fun i8=>(Ae.length - i8).toNat) (0) ⟨by omega,by omega,fun j h=>by simp at h⟩ ⟨rfl,trivial⟩ rfl ?_
 rintro i8 J ⟨h0,h1,hb⟩ hJ
 have ay:Ae.length≤1000000000:=hd.1
 conv=>cbv
 refine .lss (fun h2=>?_) fun h2=>?_
 conv=>cbv
 refine .go i8.toNat Aj fun aa ⟨ad,ai,ab⟩ aj=>?_
 conv=>cbv
 have hnd:=XiS (d:=(⟨Ae,Ah,Ai,Af,An,Al⟩:Aa)) aa aj
 refine .gtr (fun h4=>?_) fun h4=>?_
 conv=>cbv
 refine .sub fun v5 ak=>?_
 conv=>cbv
 refine .go v5.toNat Aj fun ah ⟨ar,al,am⟩ an=>?_
 conv=>cbv
 have hpd:=XiS (d:=(⟨Ae,Ah,Ai,Af,An,Al⟩:Aa)) ah an
 rw[show v5.toNat=i8.toNat - 1 by omega]at hpd
 refine .leq (fun h7=>?_) fun h7=>?_
 conv=>cbv
 refine .go2 (by kernel_rfl) ?_
 conv=>cbv
 have e:false=Ec (⟨Ae,Ah,Ai,Af,An,Al⟩:Aa):=(by exact Jv (d:=(⟨Ae,Ah,Ai,Af,An,Al⟩:Aa)) aa (by unfold Ep;rw[decide_eq_false_iff_not,hnd];simp only[];rw[hpd];simp only[];omega))
 rw[hr]at e
 subst e
 exact hQ _ _ (.b rfl rfl)
 conv=>cbv
 refine .sub fun v8 az=>?_
 conv=>cbv
 generalize ae:Ca ad 1 v8=r9
 refine .dd hP (Ge ae) ?_
 cases r9
 simp only[Ca,decide_eq_true_eq,decide_eq_false_iff_not]at ae
 conv=>cbv
 refine .go2 (by kernel_rfl) ?_
 conv=>cbv
 have e:false=Ec (⟨Ae,Ah,Ai,Af,An,Al⟩:Aa):=(by exact Jv (d:=(⟨Ae,Ah,Ai,Af,An,Al⟩:Aa)) aa (by unfold Ep;rw[decide_eq_false_iff_not,hnd];simp only[];omega))
 rw[hr]at e
 subst e
 exact hQ _ _ (.b rfl rfl)
 simp only[Ca,decide_eq_true_eq,decide_eq_false_iff_not]at ae
 conv=>cbv
 refine .go fun ao au=>?_
 conv=>cbv
 generalize ac:Ca ab 0 ao=ap
 refine .dd hP (Ge ac) ?_
 cases ap
 simp only[Ca,decide_eq_true_eq,decide_eq_false_iff_not]at ac
 conv=>cbv
 refine .go2 (by kernel_rfl) ?_
 conv=>cbv
 have e:false=Ec (⟨Ae,Ah,Ai,Af,An,Al⟩:Aa):=(by exact Jv (d:=(⟨Ae,Ah,Ai,Af,An,Al⟩:Aa)) aa (by unfold Ep;rw[decide_eq_false_iff_not,hnd];simp only[];omega))
 rw[hr]at e
 subst e
 exact hQ _ _ (.b rfl rfl)
 simp only[Ca,decide_eq_true_eq,decide_eq_false_iff_not]at ac
 conv=>cbv
 refine .go2 (by kernel_rfl) ?_
 conv=>cbv
 refine .add fun aq aw=>?_
 conv=>cbv
 exact .go [] (aq) (hJ _ ⟨by omega,by omega,fun j h=>if e:j=i8.toNat then by subst e;unfold Ep;rw[decide_eq_true_eq,hnd,hpd];simp only[];omega else hb j (by omega)⟩ mlt)
 conv=>cbv
 refine .sub fun v5 ak=>?_
 conv=>cbv
 generalize af:Ca ad 1 v5=r6
 refine .dd hP (Ge af) ?_
 cases r6
 simp only[Ca,decide_eq_true_eq,decide_eq_false_iff_not]at af
 conv=>cbv
 refine .go2 (by kernel_rfl) ?_
 conv=>cbv
 have e:false=Ec (⟨Ae,Ah,Ai,Af,An,Al⟩:Aa):=(by exact Jv (d:=(⟨Ae,Ah,Ai,Af,An,Al⟩:Aa)) aa (by unfold Ep;rw[decide_eq_false_iff_not,hnd];simp only[];omega))
 rw[hr]at e
 subst e
 exact hQ _ _ (.b rfl rfl)
 simp only[Ca,decide_eq_true_eq,decide_eq_false_iff_not]at af
 conv=>cbv
 refine .go fun v7 a1=>?_
 conv=>cbv
 generalize ag:Ca ab 0 v7=r8
 refine .dd hP (Ge ag) ?_
 cases r8
 simp only[Ca,decide_eq_true_eq,decide_eq_false_iff_not]at ag
 conv=>cbv
 refine .go2 (by kernel_rfl) ?_
 conv=>cbv
 have e:false=Ec (⟨Ae,Ah,Ai,Af,An,Al⟩:Aa):=(by exact Jv (d:=(⟨Ae,Ah,Ai,Af,An,Al⟩:Aa)) aa (by unfold Ep;rw[decide_eq_false_iff_not,hnd];simp only[];omega))
 rw[hr]at e
 subst e
 exact hQ _ _ (.b rfl rfl)
 simp only[Ca,decide_eq_true_eq,decide_eq_false_iff_not]at ag
 conv=>cbv
 refine .go2 (by kernel_rfl) ?_
 conv=>cbv
 refine .add fun v9 a2=>?_
 conv=>cbv
 exact .go [] (v9) (hJ _ ⟨by omega,by omega,fun j h=>if e:j=i8.toNat then by subst e;unfold Ep;rw[decide_eq_true_eq,hnd];simp only[];omega else hb j (by omega)⟩ mlt)
 conv=>cbv
 refine .go Aj fun v3 a6=>?_
 conv=>cbv
 refine .leq (fun h4=>?_) fun h4=>?_
 conv=>cbv
 have e:true=Ec (⟨Ae,Ah,Ai,Af,An,Al⟩:Aa):=(by exact V9 (d:=(⟨Ae,Ah,Ai,Af,An,Al⟩:Aa)) (fun j hj=>hb j (by simp only[]at hj;omega)) (by symm;rw[decide_eq_true_eq];simp only[];omega))
 rw[hr]at e
 subst e
 exact hQ _ _ (.b rfl rfl)
 conv=>cbv
 have e:false=Ec (⟨Ae,Ah,Ai,Af,An,Al⟩:Aa):=(by exact V9 (d:=(⟨Ae,Ah,Ai,Af,An,Al⟩:Aa)) (fun j hj=>hb j (by simp only[]at hj;omega)) (by symm;rw[decide_eq_false_iff_not];simp only[];omega))
 rw[hr]at e
 subst e
 exact hQ _ _ (.b rfl rfl)
theorem Jg:Setup Tryz.prog ((3000004,E7 Tryz.prog 3000004)::Rb):=(Setup.mark 3000004 Pk)
theorem Te{list:List Ad}{xlist:List (List D)}(Aj:Ae.map A6=Be)(Ak:Ah.map Ac=Bf)(Ao:Ai.map Ac=A9)(Am:Af.map cS=Bg)(hlist:list.map Ac=xlist)(hd:okD ⟨Ae,Ah,Ai,Af,An,Al⟩)(hl:okL list)(hln:list.length≤1000000000)(hr:Bc (⟨Ae,Ah,Ai,Af,An,Al⟩:Aa) list=o):Fn Tryz.prog 177 [.agg [.d (.row 3 Be),.d (.row 2 Bf),.d (.row 2 A9),.d (.row 1 Bg),I An,I Al],.d (.row 2 xlist)] [] ⟨B o,[],[]⟩:=by
 refine Fn.go Jg Tryz.func177 fun P hP Q hQ=>?_
 conv=>cbv
 refine .go hlist fun v1 ap=>?_
 conv=>cbv
 refine LoopW.lp (κ:=Int) Jg hP [] [1,2,7,8] (fun i9=>[(9,I i9)]) (fun i9=>[])
  (fun i9=>0≤i9∧i9≤list.length∧∀j:Nat,j<i9.toNat→Fm (⟨Ae,Ah,Ai,Af,An,Al⟩:Aa) list j=true)
  (fun i9=>(list.length - i9).toNat) (0) ⟨by omega,by omega,fun j h=>by simp at h⟩ ⟨rfl,trivial⟩ rfl ?_
 rintro i9 J ⟨h0,h1,hb⟩ hJ
 conv=>cbv
 refine .lss (fun h2=>?_) fun h2=>?_
 conv=>cbv
 refine .go i9.toNat hlist fun aa ⟨ab,ac⟩ ah=>?_
 conv=>cbv
 have hnd:=XbO aa ah
 have hzn:ab.size≤1000000000:=by have:=hl _ (List.getElem_mem aa);rw[←ah]at this;exact this
 refine .gtr (fun h4=>?_) fun h4=>?_
 conv=>cbv
 refine .sub fun v5 aq=>?_
 conv=>cbv
 refine .go v5.toNat hlist fun ai ⟨ak,an⟩ al=>?_
 conv=>cbv
 have hpd:=XbO ai al
 rw[show v5.toNat=i9.toNat - 1 by omega]at hpd
 refine .leq fun b7 aj=>?_
 conv=>cbv
 cases b7
 conv=>cbv
 generalize ad:Bs ab=r8
 refine .dd hP (M6 (by omega) ad) ?_
 cases r8
 conv=>cbv
 refine .go2 (by kernel_rfl) ?_
 conv=>cbv
 have e:false=Bc (⟨Ae,Ah,Ai,Af,An,Al⟩:Aa) list:=(by exact Og (d:=(⟨Ae,Ah,Ai,Af,An,Al⟩:Aa)) aa (by unfold Fm;rw[hnd];simp only[];rw[ad,Bool.and_false];rfl))
 rw[hr]at e
 subst e
 exact hQ _ _ (.b rfl rfl)
 conv=>cbv
 generalize ae:Iz (⟨Ae,Ah,Ai,Af,An,Al⟩:Aa) ac=r9
 refine .dd hP (Nk Aj Ak Ao Am (by have:=hd.1;simp only[]at this;omega) ae) ?_
 conv=>cbv
 refine .lss (fun h10=>?_) fun h10=>?_
 conv=>cbv
 refine .go2 (by kernel_rfl) ?_
 conv=>cbv
 have e:false=Bc (⟨Ae,Ah,Ai,Af,An,Al⟩:Aa) list:=(by exact Og (d:=(⟨Ae,Ah,Ai,Af,An,Al⟩:Aa)) aa (by unfold Fm;rw[hnd];simp only[];rw[ae,decide_eq_false (show¬0≤r9 by omega),Bool.and_false]))
 rw[hr]at e
 subst e
 exact hQ _ _ (.b rfl rfl)
 conv=>cbv
 refine .go2 (by kernel_rfl) ?_
 conv=>cbv
 refine .add fun am ao=>?_
 conv=>cbv
 exact .go [] (am) (hJ _ ⟨by omega,by omega,fun j h=>if e:j=i9.toNat then by subst e;unfold Fm;rw[hnd,hpd];simp only[];rw[←aj,ad,ae,decide_eq_true (show 0≤r9 by omega),decide_eq_false (show¬i9.toNat=0 by omega)];rfl else hb j (by omega)⟩ mlt)
 conv=>cbv
 refine .go2 (by kernel_rfl) ?_
 conv=>cbv
 have e:false=Bc (⟨Ae,Ah,Ai,Af,An,Al⟩:Aa) list:=(by exact Og (d:=(⟨Ae,Ah,Ai,Af,An,Al⟩:Aa)) aa (by unfold Fm;rw[hnd];simp only[];rw[hpd];simp only[];rw[←aj,decide_eq_false (show¬i9.toNat=0 by omega)];rfl))
 rw[hr]at e
 subst e
 exact hQ _ _ (.b rfl rfl)
 conv=>cbv
 generalize af:Bs ab=r5
 refine .dd hP (M6 (by omega) af) ?_
 cases r5
 conv=>cbv
 refine .go2 (by kernel_rfl) ?_
 conv=>cbv
 have e:false=Bc (⟨Ae,Ah,Ai,Af,An,Al⟩:Aa) list:=(by exact Og (d:=(⟨Ae,Ah,Ai,Af,An,Al⟩:Aa)) aa (by unfold Fm;rw[hnd];simp only[];rw[af,Bool.and_false];rfl))
 rw[hr]at e
 subst e
 exact hQ _ _ (.b rfl rfl)
 conv=>cbv
 generalize ag:Iz (⟨Ae,Ah,Ai,Af,An,Al⟩:Aa) ac=r6
 refine .dd hP (Nk Aj Ak Ao Am (by have:=hd.1;simp only[]at this;omega) ag) ?_
 conv=>cbv
 refine .lss (fun h7=>?_) fun h7=>?_
 conv=>cbv
 refine .go2 (by kernel_rfl) ?_
 conv=>cbv
 have e:false=Bc (⟨Ae,Ah,Ai,Af,An,Al⟩:Aa) list:=(by exact Og (d:=(⟨Ae,Ah,Ai,Af,An,Al⟩:Aa)) aa (by unfold Fm;rw[hnd];simp only[];rw[ag,decide_eq_false (show¬0≤r6 by omega),Bool.and_false]))
 rw[hr]at e
 subst e
 exact hQ _ _ (.b rfl rfl)
 conv=>cbv
 refine .go2 (by kernel_rfl) ?_
 conv=>cbv
 refine .add fun v8 ar=>?_
 conv=>cbv
 exact .go [] (v8) (hJ _ ⟨by omega,by omega,fun j h=>if e:j=i9.toNat then by subst e;unfold Fm;rw[hnd];simp only[];rw[af,ag,decide_eq_true (show 0≤r6 by omega),decide_eq_true (show i9.toNat=0 by omega)];rfl else hb j (by omega)⟩ mlt)
 conv=>cbv
 refine .go hlist fun v3 au=>?_
 conv=>cbv
 refine .leq (fun h4=>?_) fun h4=>?_
 conv=>cbv
 have e:true=Bc (⟨Ae,Ah,Ai,Af,An,Al⟩:Aa) list:=(by exact Uk (l:=list) (fun j hj=>hb j (by omega)) (by symm;rw[decide_eq_true_eq];omega))
 rw[hr]at e
 subst e
 exact hQ _ _ (.b rfl rfl)
 conv=>cbv
 have e:false=Bc (⟨Ae,Ah,Ai,Af,An,Al⟩:Aa) list:=(by exact Uk (l:=list) (fun j hj=>hb j (by omega)) (by symm;rw[decide_eq_false_iff_not];omega))
 rw[hr]at e
 subst e
 exact hQ _ _ (.b rfl rfl)
theorem Kz{a:List Ad}{xa:List (List D)}{b:List Ad}{xb:List (List D)}(ha:a.map Ac=xa)(hb:b.map Ac=xb)(aj:a.length<2^40)(hr:F9 a b=o):Fn Tryz.prog 178 [.d (.row 2 xa),.d (.row 2 xb)] [] ⟨B o,[],[]⟩:=by
 refine Fn.go Pk Tryz.func178 fun P hP Q hQ=>?_
 conv=>cbv
 refine .go ha fun v1 ak=>?_
 conv=>cbv
 refine .go hb fun v2 al=>?_
 conv=>cbv
 refine .neq (fun h3=>?_) fun h3=>?_
 conv=>cbv
 have e:false=F9 a b:=(by unfold F9;symm;rw[decide_eq_false_iff_not];intro h;subst h;omega)
 rw[hr]at e
 subst e
 exact hQ _ _ (.b rfl rfl)
 conv=>cbv
 refine .go ha fun v4 am=>?_
 conv=>cbv
 refine LoopW.lp (κ:=Int) Pk hP [] [0,1,12] (fun aa=>[(13,I aa)]) (fun aa=>[])
  (fun aa=>0≤aa∧aa≤a.length∧∀(j:Nat) (p:j<a.length) (q:j<b.length),j<aa.toNat→a[j]=b[j])
  (fun aa=>(a.length - aa).toNat) (0) ⟨by omega,by omega,fun j p q h=>by simp at h⟩ ⟨rfl,trivial⟩ rfl ?_
 rintro aa J ⟨h0,h1,hs⟩ hJ
 conv=>cbv
 refine .lss (fun h5=>?_) fun h5=>?_
 conv=>cbv
 refine .go aa.toNat ha fun af ⟨ad,ag⟩ ab=>?_
 conv=>cbv
 refine .go aa.toNat hb fun ah ⟨ae,ai⟩ ac=>?_
 conv=>cbv
 refine .eSI (fun h8=>?_) fun h8=>?_
 conv=>cbv
 refine .add fun v9 an=>?_
 conv=>cbv
 exact .go [] (v9) (hJ _ ⟨by omega,by omega,fun j p q h=>if e:j=aa.toNat then by subst e;rw[←ab,←ac,Ad.mk.injEq];exact h8 else hs j p q (by omega)⟩ mlt)
 conv=>cbv
 have e:false=F9 a b:=(by unfold F9;symm;rw[decide_eq_false_iff_not];intro h;subst h;have:=ab.trans ac.symm;rw[Ad.mk.injEq]at this;exact h8 this)
 rw[hr]at e
 subst e
 exact hQ _ _ (.b rfl rfl)
 conv=>cbv
 have e:true=F9 a b:=(by unfold F9;symm;rw[decide_eq_true_eq];exact List.ext_getElem (show a.length=b.length by omega) fun j p q=>hs j p q (by omega))
 rw[hr]at e
 subst e
 exact hQ _ _ (.b rfl rfl)
end
section
open Go Go.Proofs
set_option maxRecDepth 20000
set_option maxHeartbeats 4000000
def Uy:List (Nat×TyRow):=[ty3,ty9,XgT,XaS,Xn,Xi,Xe]
theorem Xcu:B8 Tryz.prog Uy:=B8.of (by kernel_rfl)
theorem J8:Setup Tryz.prog Uy:=⟨Xcu,mixed⟩
theorem M7:∀a b:List UInt8,Op.bytesLess a b=true→Op.bytesLess b a=false
 |_,[],h=>by simp[Op.bytesLess]at h
 |[],_::_,_=>by simp[Op.bytesLess]
 |a::x,b::y,h=>by
  simp only[Op.bytesLess,Bool.or_eq_true,decide_eq_true_eq,Bool.and_eq_true,beq_iff_eq]at h
  simp only[Op.bytesLess,Bool.or_eq_false_iff,decide_eq_false_iff_not,Bool.and_eq_false_iff,beq_eq_false_iff_ne]
  rcases h with h|⟨h1,h2⟩
  ·exact⟨fun h3=>absurd (UInt8.lt_trans h h3) (UInt8.lt_irrefl _),.inl fun e=>by subst e;exact UInt8.lt_irrefl _ h⟩
  ·subst h1
   exact⟨UInt8.lt_irrefl _,.inr (M7 x y h2)⟩
theorem U4:∀a b:List UInt8,Op.bytesLess a b=false→a≠b→Op.bytesLess b a=true
 |[],[],_,h=>absurd rfl h
 |[],_::_,h,_=>by simp[Op.bytesLess]at h
 |_::_,[],_,_=>by simp[Op.bytesLess]
 |a::x,b::y,h,hn=>by
  simp only[Op.bytesLess,Bool.or_eq_false_iff,decide_eq_false_iff_not,Bool.and_eq_false_iff,beq_eq_false_iff_ne]at h
  simp only[Op.bytesLess,Bool.or_eq_true,decide_eq_true_eq,Bool.and_eq_true,beq_iff_eq]
  by_cases e:a=b
  ·subst e
   right
   refine⟨rfl,U4 x y (h.2.resolve_left fun h=>h rfl) fun e=>hn (by rw[e])⟩
  ·left
   exact(UInt8.lt_or_lt_of_ne e).resolve_left h.1
theorem Xdr(a b:ByteArray):(!(ltB a b))=(ltB b a||decide (b=a)):=by
 unfold ltB
 cases h:Op.bytesLess a.toList b.toList with
 |true=>
  rw[M7 _ _ h]
  have:¬b=a:=by
   rintro rfl
   have:=M7 _ _ h
   rw[h]at this
   cases this
  rw[decide_eq_false this];rfl
 |false=>
  by_cases e:b=a
  ·rw[decide_eq_true e,Bool.or_true];rfl
  ·rw[U4 _ _ h fun e2=>e (Of e2.symm),decide_eq_false e];rfl
def Ht(d:Aa)(l:List Ad):Bool:=Bc d l
def Li(a b:List Ad):Bool:=F9 a b
def Dx(l:List Ad)(name:ByteArray):List Ad:=l.filter fun x=>!decide (x.name_=name)
def T8(e:Ad):List Ad→Bool→List Ad
 |[],done=>if done=true then[]else[e]
 |x::l,done=>(if done=false∧ltB x.name_ e.name_=false then[e]else[])++((if x.name_=e.name_ then[]else[x])++T8 e l (done|| !(ltB x.name_ e.name_)))
def Ee(l:List Ad)(e:Ad):List Ad:=T8 e l false
theorem Pe{e x:Ad}{l:List Ad}{i:Nat}{b:Bool}{w:List Ad}{r:List Ad}(hi:i<l.length)(hx:x=l[i])(h:w++T8 e (l.drop i) b=r):
  w++((if b=false∧ltB x.name_ e.name_=false then[e]else[])++((if x.name_=e.name_ then[]else[x])++T8 e (l.drop (i+1)) (b|| !(ltB x.name_ e.name_))))=r:=by
 rw[List.drop_eq_getElem_cons hi,←hx]at h
 exact h
variable {Ae:List Ax} {Be Bf A9 Bg xl xo:List (List D)} {Ah Ai l:List Ad} {Af:List ByteArray} {An Al:Int} {o:Bool}
theorem XfT{o:Int}(Aj:Ae.map A6=Be)(Ak:Ah.map Ac=Bf)(Ao:Ai.map Ac=A9)(Am:Af.map cS=Bg)(hd:okD ⟨Ae,Ah,Ai,Af,An,Al⟩)(hr:F1 (⟨Ae,Ah,Ai,Af,An,Al⟩:Aa)=o):Fn Tryz.prog 170 [.agg [.d (.row 3 Be),.d (.row 2 Bf),.d (.row 2 A9),.d (.row 1 Bg),I An,I Al]] [] ⟨I o,[],[]⟩:=by
 refine Fn.go J8 Tryz.func170 fun P hP Q hQ=>?_
 conv=>cbv
 refine LoopW.lp (κ:=Int×Int) J8 hP [] [1] (fun(i3,i4)=>[(3,I i3),(4,I i4)]) (fun(i3,i4)=>[])
  (fun(i3,i4)=>0≤i4∧i4≤Ae.length∧i3=Xld (fun n:Ax=>(n.text_.size:Int)) (Ae.take i4.toNat)∧0≤i3∧i3≤1000000000*i4)
  (fun(i3,i4)=>(Ae.length - i4).toNat) (0,0) ⟨by omega,by omega,rfl,by omega,by omega⟩ ⟨rfl,rfl,trivial⟩ rfl ?_
 rintro⟨i3,i4⟩ J ⟨h0,h1,hx,hx0,hx1⟩ hJ
 have ag:Ae.length≤1000000000:=hd.1
 have ac:∀n∈Ae,n.text_.size≤1000000000:=hd.2.1
 conv=>cbv
 refine .go Aj fun v1 ah=>?_
 conv=>cbv
 refine .lss (fun h2=>?_) fun h2=>?_
 conv=>cbv
 refine .go i4.toNat Aj fun aa ⟨af,ad,ae⟩ ab=>?_
 conv=>cbv
 have hz:=ac _ (List.getElem_mem aa)
 rw[←ab]at hz
 simp only[]at hz
 refine .go fun v4 ai=>?_
 conv=>cbv
 refine .add fun v5 aj=>?_
 conv=>cbv
 refine .add fun v6 ak=>?_
 conv=>cbv
 exact .go [] (v5,v6) (hJ _ ⟨by omega,by omega,by rw[show v6.toNat=i4.toNat+1 by omega,XcM aa,←hx,←ab];simp only[];omega,by omega,by omega⟩ mlt)
 conv=>cbv
 have e:i3=F1 (⟨Ae,Ah,Ai,Af,An,Al⟩:Aa):=(by unfold F1;rw[hx,List.take_of_length_le (by omega)])
 rw[hr]at e
 subst e
 exact hQ _ _ (.i rfl rfl)
theorem Nu:Setup Tryz.prog ((3000004,E7 Tryz.prog 3000004)::Uy):=(Setup.mark 3000004 J8)
theorem Xbr{list:List Ad}{xlist:List (List D)}(Aj:Ae.map A6=Be)(Ak:Ah.map Ac=Bf)(Ao:Ai.map Ac=A9)(Am:Af.map cS=Bg)(hlist:list.map Ac=xlist)(hd:okD ⟨Ae,Ah,Ai,Af,An,Al⟩)(hl:okL list)(hln:list.length≤1000000000)(hr:Ht (⟨Ae,Ah,Ai,Af,An,Al⟩:Aa) list=o):Fn Tryz.prog 171 [.agg [.d (.row 3 Be),.d (.row 2 Bf),.d (.row 2 A9),.d (.row 1 Bg),I An,I Al],.d (.row 2 xlist)] [] ⟨B o,[],[]⟩:=by
 refine Fn.go Nu Tryz.func171 fun P hP Q hQ=>?_
 conv=>cbv
 refine LoopW.lp (κ:=Int) Nu hP [] [1,2] (fun i5=>[(5,I i5)]) (fun i5=>[])
  (fun i5=>0≤i5∧i5≤list.length∧∀j:Nat,j<i5.toNat→Fm (⟨Ae,Ah,Ai,Af,An,Al⟩:Aa) list j=true)
  (fun i5=>(list.length - i5).toNat) (0) ⟨by omega,by omega,fun j h=>by simp at h⟩ ⟨rfl,trivial⟩ rfl ?_
 rintro i5 J ⟨h0,h1,hb⟩ hJ
 conv=>cbv
 refine .go hlist fun v1 a2=>?_
 conv=>cbv
 refine .lss (fun h2=>?_) fun h2=>?_
 conv=>cbv
 refine .go i5.toNat hlist fun aa ⟨ab,am⟩ aj=>?_
 conv=>cbv
 have hnd:=XbO aa aj
 have hzn:ab.size≤1000000000:=by have:=hl _ (List.getElem_mem aa);rw[←aj]at this;exact this
 generalize ag:Bs ab=r4
 refine .dd hP (M3 (by omega) ag) ?_
 cases r4
 conv=>cbv
 refine .go2 (by kernel_rfl) ?_
 conv=>cbv
 have e:false=Ht (⟨Ae,Ah,Ai,Af,An,Al⟩:Aa) list:=(by exact Og (d:=(⟨Ae,Ah,Ai,Af,An,Al⟩:Aa)) aa (by unfold Fm;rw[hnd];simp only[];rw[ag,Bool.and_false];rfl))
 rw[hr]at e
 subst e
 exact hQ _ _ (.b rfl rfl)
 conv=>cbv
 refine .go i5.toNat hlist fun az ⟨ae,ac⟩ an=>?_
 conv=>cbv
 generalize ao:Hq (⟨Ae,Ah,Ai,Af,An,Al⟩:Aa) ac=r6
 refine .dd hP (Q6 Aj Ak Ao Am (by have:=hd.1;simp only[]at this;omega) ao) ?_
 conv=>cbv
 obtain⟨rfl,rfl⟩:ae=ab∧ac=am:=by have:=an.trans aj.symm;rw[Ad.mk.injEq]at this;exact this
 have af:Iz (⟨Ae,Ah,Ai,Af,An,Al⟩:Aa) ac=r6:=ao
 refine .lss (fun h7=>?_) fun h7=>?_
 conv=>cbv
 refine .go2 (by kernel_rfl) ?_
 conv=>cbv
 have e:false=Ht (⟨Ae,Ah,Ai,Af,An,Al⟩:Aa) list:=(by exact Og (d:=(⟨Ae,Ah,Ai,Af,An,Al⟩:Aa)) aa (by unfold Fm;rw[hnd];simp only[];rw[af,decide_eq_false (show¬0≤r6 by omega),Bool.and_false]))
 rw[hr]at e
 subst e
 exact hQ _ _ (.b rfl rfl)
 conv=>cbv
 refine .gtr (fun h8=>?_) fun h8=>?_
 conv=>cbv
 refine .sub fun v9 ar=>?_
 conv=>cbv
 refine .go v9.toNat hlist fun ak ⟨ah,au⟩ ap=>?_
 conv=>cbv
 refine .go i5.toNat hlist fun aw ⟨ad,al⟩ aq=>?_
 conv=>cbv
 obtain⟨rfl,rfl⟩:ad=ae∧al=ac:=by have:=aq.trans an.symm;rw[Ad.mk.injEq]at this;exact this
 have hpd:=XbO ak ap
 rw[show v9.toNat=i5.toNat - 1 by omega]at hpd
 have hgq:=(Xdr ah ad).symm
 refine .geq fun ax ai=>?_
 conv=>cbv
 refine .go2 (by kernel_rfl) ?_
 conv=>cbv
 cases ax
 conv=>cbv
 refine .add fun ay a1=>?_
 conv=>cbv
 exact .go [] (ay) (hJ _ ⟨by omega,by omega,fun j h=>if e:j=i5.toNat then by subst e;unfold Fm;rw[hnd,hpd];simp only[];rw[hgq,←ai,ag,af,decide_eq_true (show 0≤r6 by omega),decide_eq_false (show¬i5.toNat=0 by omega)];rfl else hb j (by omega)⟩ mlt)
 conv=>cbv
 have e:false=Ht (⟨Ae,Ah,Ai,Af,An,Al⟩:Aa) list:=(by exact Og (d:=(⟨Ae,Ah,Ai,Af,An,Al⟩:Aa)) aa (by unfold Fm;rw[hnd];simp only[];rw[hpd];simp only[];rw[hgq,←ai,decide_eq_false (show¬i5.toNat=0 by omega)];rfl))
 rw[hr]at e
 subst e
 exact hQ _ _ (.b rfl rfl)
 conv=>cbv
 refine .go2 (by kernel_rfl) ?_
 conv=>cbv
 refine .add fun v9 ar=>?_
 conv=>cbv
 exact .go [] (v9) (hJ _ ⟨by omega,by omega,fun j h=>if e:j=i5.toNat then by subst e;unfold Fm;rw[hnd];simp only[];rw[ag,af,decide_eq_true (show 0≤r6 by omega),decide_eq_true (show i5.toNat=0 by omega)];rfl else hb j (by omega)⟩ mlt)
 conv=>cbv
 refine .go hlist fun v3 a6=>?_
 conv=>cbv
 refine .leq (fun h4=>?_) fun h4=>?_
 conv=>cbv
 have e:true=Ht (⟨Ae,Ah,Ai,Af,An,Al⟩:Aa) list:=(by exact Uk (l:=list) (fun j hj=>hb j (by omega)) (by symm;rw[decide_eq_true_eq];omega))
 rw[hr]at e
 subst e
 exact hQ _ _ (.b rfl rfl)
 conv=>cbv
 have e:false=Ht (⟨Ae,Ah,Ai,Af,An,Al⟩:Aa) list:=(by exact Uk (l:=list) (fun j hj=>hb j (by omega)) (by symm;rw[decide_eq_false_iff_not];omega))
 rw[hr]at e
 subst e
 exact hQ _ _ (.b rfl rfl)
theorem XiP{a:List Ad}{xa:List (List D)}{b:List Ad}{xb:List (List D)}(ha:a.map Ac=xa)(hb:b.map Ac=xb)(ai:a.length<2^40)(hr:Li a b=o):Fn Tryz.prog 172 [.d (.row 2 xa),.d (.row 2 xb)] [] ⟨B o,[],[]⟩:=by
 refine Fn.go J8 Tryz.func172 fun P hP Q hQ=>?_
 conv=>cbv
 refine .go ha fun v1 aj=>?_
 conv=>cbv
 refine .go hb fun v2 ak=>?_
 conv=>cbv
 refine .neq (fun h3=>?_) fun h3=>?_
 conv=>cbv
 have e:false=Li a b:=(by unfold Li F9;symm;rw[decide_eq_false_iff_not];intro h;subst h;omega)
 rw[hr]at e
 subst e
 exact hQ _ _ (.b rfl rfl)
 conv=>cbv
 refine LoopW.lp (κ:=Int) J8 hP [] [0,1] (fun i5=>[(5,I i5)]) (fun i5=>[])
  (fun i5=>0≤i5∧i5≤a.length∧∀(j:Nat) (p:j<a.length) (q:j<b.length),j<i5.toNat→a[j]=b[j])
  (fun i5=>(a.length - i5).toNat) (0) ⟨by omega,by omega,fun j p q h=>by simp at h⟩ ⟨rfl,trivial⟩ rfl ?_
 rintro i5 J ⟨h0,h1,hs⟩ hJ
 conv=>cbv
 refine .go ha fun v4 al=>?_
 conv=>cbv
 refine .lss (fun h5=>?_) fun h5=>?_
 conv=>cbv
 refine .go i5.toNat ha fun ae ⟨ac,af⟩ aa=>?_
 conv=>cbv
 refine .go i5.toNat hb fun ag ⟨ad,ah⟩ ab=>?_
 conv=>cbv
 refine .eSI (fun h8=>?_) fun h8=>?_
 conv=>cbv
 refine .add fun v9 am=>?_
 conv=>cbv
 exact .go [] (v9) (hJ _ ⟨by omega,by omega,fun j p q h=>if e:j=i5.toNat then by subst e;rw[←aa,←ab,Ad.mk.injEq];exact h8 else hs j p q (by omega)⟩ mlt)
 conv=>cbv
 have e:false=Li a b:=(by unfold Li F9;symm;rw[decide_eq_false_iff_not];intro h;subst h;have:=aa.trans ab.symm;rw[Ad.mk.injEq]at this;exact h8 this)
 rw[hr]at e
 subst e
 exact hQ _ _ (.b rfl rfl)
 conv=>cbv
 have e:true=Li a b:=(by unfold Li F9;symm;rw[decide_eq_true_eq];exact List.ext_getElem (show a.length=b.length by omega) fun j p q=>hs j p q (by omega))
 rw[hr]at e
 subst e
 exact hQ _ _ (.b rfl rfl)
theorem Mk{name:ByteArray}{o:List Ad}(hl:l.map Ac=xl)(hn:l.length≤4000000000)(hr:Dx l name=o)(ho:o.map Ac=xo):Fn Tryz.prog 243 [.d (.row 2 xl),S name] [] ⟨.d (.row 2 xo),[],[]⟩:=by
 refine Fn.go J8 Tryz.func243 fun P hP Q hQ=>?_
 conv=>cbv
 refine LoopW.lp (κ:=Int×(List (List D))×Nat) J8 hP [1] [0,1] (fun(i6,aa,ab)=>[(5,.ref 2 0 ab),(6,I i6)]) (fun(i6,aa,ab)=>[(2,.row 2 false aa)])
  (fun(i6,aa,ab)=>∃(w2:List Ad),w2.map Ac=aa∧ab=w2.length∧0≤i6∧i6≤l.length∧w2=(l.take i6.toNat).filter (fun x=>!decide (x.name_=name))∧w2.length≤i6)
  (fun(i6,aa,ab)=>(l.length - i6).toNat) (0,[],0) ⟨[],rfl,rfl,by omega,by omega,rfl,by simp⟩ ⟨rfl,rfl,trivial⟩ rfl ?_
 rintro⟨i6,aa,ab⟩ J ⟨w2,ac,al,h0,h1,hx,hxl⟩ hJ
 conv=>cbv
 refine .go hl fun v1 ap=>?_
 conv=>cbv
 refine .lss (fun h2=>?_) fun h2=>?_
 conv=>cbv
 refine .go i6.toNat hl fun ad ⟨ah,am⟩ ae=>?_
 conv=>cbv
 refine .neq (fun h4=>?_) fun h4=>?_
 conv=>cbv
 refine .go i6.toNat hl fun an ⟨af,ag⟩ ai=>?_
 conv=>cbv
 refine .one (⟨af,ag⟩:Ad) ac rfl fun aj z6 ao ak=>?_
 conv=>cbv
 refine .add fun v7 aq=>?_
 conv=>cbv
 exact .go [4] (v7,z6,aj) (hJ _ ⟨_,ak,Hm,by omega,by omega,by rw[show v7.toNat=i6.toNat+1 by omega,Dp ad,←hx,←ae];simp only[];rw[decide_eq_false h4,ai,←ae];rfl,by rw[List.length_append,List.length_singleton];omega⟩ mlt)
 conv=>cbv
 refine .add fun v5 ar=>?_
 conv=>cbv
 exact .go [2] (v5,aa,ab) (hJ _ ⟨_,ac,Hm,by omega,by omega,by rw[show v5.toNat=i6.toNat+1 by omega,Dp ad,←hx,←ae];simp only[];rw[decide_eq_true h4];simp,by omega⟩ mlt)
 conv=>cbv
 have e:w2=Dx l name:=(by unfold Dx;rw[hx,List.take_of_length_le (by omega)])
 rw[hr]at e
 subst e
 exact hQ _ _ (.r rfl rfl (by rw[←ac,List.length_map];first|omega|(simp;omega)) (by rw[←ac,←ho]))
theorem Ja{enam:ByteArray}{eid:Int}{o:List Ad}(hl:l.map Ac=xl)(hn:l.length≤4000000000)(hr:Ee l (⟨enam,eid⟩:Ad)=o)(ho:o.map Ac=xo):Fn Tryz.prog 244 [.d (.row 2 xl),.agg [S enam,I eid]] [] ⟨.d (.row 2 xo),[],[]⟩:=by
 refine Fn.go J8 Tryz.func244 fun P hP Q hQ=>?_
 conv=>cbv
 refine LoopW.lp (κ:=Bool×Int×(List (List D))×Nat) J8 hP [2] [0,3] (fun(b6,i7,ad,ae)=>[(5,.ref 3 0 ae),(6,B b6),(7,I i7)]) (fun(b6,i7,ad,ae)=>[(3,.row 2 false ad)])
  (fun(b6,i7,ad,ae)=>∃(w3:List Ad),w3.map Ac=ad∧ae=w3.length∧0≤i7∧i7≤l.length∧w3++T8 (⟨enam,eid⟩:Ad) (l.drop i7.toNat) b6=Ee l (⟨enam,eid⟩:Ad)∧w3.length≤2*i7)
  (fun(b6,i7,ad,ae)=>(l.length - i7).toNat) (false,0,[],0) ⟨[],rfl,rfl,by omega,by omega,rfl,by simp⟩ ⟨rfl,rfl,rfl,trivial⟩ rfl ?_
 rintro⟨b6,i7,ad,ae⟩ J ⟨w3,af,be,h0,h1,hx,hxl⟩ hJ
 conv=>cbv
 refine .go hl fun v1 bo=>?_
 conv=>cbv
 refine .lss (fun h2=>?_) fun h2=>?_
 conv=>cbv
 cases b6
 conv=>cbv
 refine .go i7.toNat hl fun aq ⟨ac,ak⟩ ab=>?_
 conv=>cbv
 refine .geq fun b4 al=>?_
 conv=>cbv
 cases b4
 conv=>cbv
 refine .go i7.toNat hl fun ar ⟨aa,ag⟩ am=>?_
 conv=>cbv
 obtain⟨rfl,rfl⟩:aa=ac∧ag=ak:=by have:=am.trans ab.symm;rw[Ad.mk.injEq]at this;exact this
 refine .neq (fun h6=>?_) fun h6=>?_
 conv=>cbv
 refine .go i7.toNat hl fun bf ⟨ah,an⟩ az=>?_
 conv=>cbv
 obtain⟨rfl,rfl⟩:ah=aa∧an=ag:=by have:=az.trans am.symm;rw[Ad.mk.injEq]at this;exact this
 refine .one (⟨ah,an⟩:Ad) af rfl fun a1 z8 bg a2=>?_
 conv=>cbv
 refine .add fun v9 bp=>?_
 conv=>cbv
 have hlt:ltB ah enam=true:=by simpa using al
 have hps:=Pe (show i7.toNat<l.length by omega) ab hx
 simp only[]at hps
 rw[hlt,if_neg (by simp),if_neg h6,List.nil_append,←List.append_assoc]at hps
 exact .go [5] (false,v9,z8,a1) (hJ _ ⟨_,a2,Hm,by omega,by omega,by rw[show v9.toNat=i7.toNat+1 by omega];exact hps,by first|omega|(simp;omega)⟩ mlt)
 conv=>cbv
 refine .add fun v7 a6=>?_
 conv=>cbv
 have hlt:ltB aa enam=true:=by simpa using al
 have hps:=Pe (show i7.toNat<l.length by omega) ab hx
 simp only[]at hps
 rw[hlt,if_neg (by simp),if_pos h6,List.nil_append,List.nil_append]at hps
 exact .go [3] (false,v7,ad,ae) (hJ _ ⟨_,af,Hm,by omega,by omega,by rw[show v7.toNat=i7.toNat+1 by omega];exact hps,by first|omega|(simp;omega)⟩ mlt)
 conv=>cbv
 refine .one (⟨enam,eid⟩:Ad) af rfl fun a7 z5 bh au=>?_
 conv=>cbv
 refine .go i7.toNat hl fun bi ⟨ai,ao⟩ aw=>?_
 conv=>cbv
 obtain⟨rfl,rfl⟩:ai=ac∧ao=ak:=by have:=aw.trans ab.symm;rw[Ad.mk.injEq]at this;exact this
 refine .neq (fun h7=>?_) fun h7=>?_
 conv=>cbv
 refine .go i7.toNat hl fun bj ⟨aj,ap⟩ a8=>?_
 conv=>cbv
 obtain⟨rfl,rfl⟩:aj=ai∧ap=ao:=by have:=a8.trans aw.symm;rw[Ad.mk.injEq]at this;exact this
 refine .one (⟨aj,ap⟩:Ad) au rfl fun ba z9 bk bb=>?_
 conv=>cbv
 refine .add fun ax bl=>?_
 conv=>cbv
 have hlt:ltB aj enam=false:=by simpa using al
 have hps:=Pe (show i7.toNat<l.length by omega) ab hx
 simp only[]at hps
 rw[hlt,if_pos (by simp),if_neg h7,←List.append_assoc,←List.append_assoc]at hps
 exact .go [7] (true,ax,z9,ba) (hJ _ ⟨_,bb,Hm,by omega,by omega,by rw[show ax.toNat=i7.toNat+1 by omega];exact hps,by first|omega|(simp;omega)⟩ mlt)
 conv=>cbv
 refine .add fun v8 bq=>?_
 conv=>cbv
 have hlt:ltB ai enam=false:=by simpa using al
 have hps:=Pe (show i7.toNat<l.length by omega) ab hx
 simp only[]at hps
 rw[hlt,if_pos (by simp),if_pos h7,List.nil_append,←List.append_assoc]at hps
 exact .go [5] (true,v8,z5,a7) (hJ _ ⟨_,au,Hm,by omega,by omega,by rw[show v8.toNat=i7.toNat+1 by omega];exact hps,by first|omega|(simp;omega)⟩ mlt)
 conv=>cbv
 refine .go i7.toNat hl fun aq ⟨ac,ak⟩ ab=>?_
 conv=>cbv
 refine .neq (fun h4=>?_) fun h4=>?_
 conv=>cbv
 refine .go i7.toNat hl fun ar ⟨aa,ag⟩ am=>?_
 conv=>cbv
 obtain⟨rfl,rfl⟩:aa=ac∧ag=ak:=by have:=am.trans ab.symm;rw[Ad.mk.injEq]at this;exact this
 refine .one (⟨aa,ag⟩:Ad) af rfl fun bc z6 bm bd=>?_
 conv=>cbv
 refine .add fun v7 a6=>?_
 conv=>cbv
 have hps:=Pe (show i7.toNat<l.length by omega) ab hx
 simp only[]at hps
 rw[if_neg (by simp),if_neg h4,List.nil_append,←List.append_assoc]at hps
 exact .go [5] (true,v7,z6,bc) (hJ _ ⟨_,bd,Hm,by omega,by omega,by rw[show v7.toNat=i7.toNat+1 by omega];exact hps,by first|omega|(simp;omega)⟩ mlt)
 conv=>cbv
 refine .add fun v5 bt=>?_
 conv=>cbv
 have hps:=Pe (show i7.toNat<l.length by omega) ab hx
 simp only[]at hps
 rw[if_neg (by simp),if_pos h4,List.nil_append,List.nil_append]at hps
 exact .go [3] (true,v5,ad,ae) (hJ _ ⟨_,af,Hm,by omega,by omega,by rw[show v5.toNat=i7.toNat+1 by omega];exact hps,by first|omega|(simp;omega)⟩ mlt)
 conv=>cbv
 cases b6
 conv=>cbv
 refine .one (⟨enam,eid⟩:Ad) af rfl fun bu z3 bn ay=>?_
 conv=>cbv
 have e:(w3++[(⟨enam,eid⟩:Ad)])=Ee l (⟨enam,eid⟩:Ad):=(by rw[List.drop_of_length_le (by omega)]at hx;exact hx)
 rw[hr]at e
 subst e
 exact hQ _ _ (.r rfl rfl (by rw[←ay,List.length_map];first|omega|(simp;omega)) (by rw[←ay,←ho]))
 conv=>cbv
 have e:w3=Ee l (⟨enam,eid⟩:Ad):=(by rw[List.drop_of_length_le (by omega)]at hx;simpa[T8]using hx)
 rw[hr]at e
 subst e
 exact hQ _ _ (.r rfl rfl (by rw[←af,List.length_map];first|omega|(simp;omega)) (by rw[←af,←ho]))
end
section
open Go Go.Proofs
set_option maxRecDepth 20000
set_option maxHeartbeats 4000000
def Vp:List (Nat×TyRow):=[ty3,ty9,Xay,XaS,Xn]
theorem XbW:B8 Tryz.prog Vp:=B8.of (by kernel_rfl)
theorem XaD:Setup Tryz.prog Vp:=⟨XbW,mixed⟩
theorem diskOk_iff{d:Aa}:Bk d=true↔(0≤d.room_∧d.room_≤1000000000)∧(1≤d.next_∧d.next_≤1000000000)∧Ec d=true∧F1 d≤d.room_∧Er d d.old_ d.steps_=true:=by
 unfold Bk Bl Ca
 simp only[Bool.and_eq_true,decide_eq_true_eq,and_assoc]
theorem D3{d:Aa}(h:¬Bk d=true):false=Bk d:=by
 symm
 rw[Bool.eq_false_iff]
 exact h
theorem Yz{d:Aa}{now:List Ad}{l:List ByteArray}(h:Bc d now=false):Er d now l=false:=by
 cases l with
 |nil=>unfold Er;rw[h];rfl
 |cons=>unfold Er;rw[h];rfl
def Hr:List Ad→List ByteArray→List Ad×Bool
 |now,[]=>(now,true)
 |now,s::ss=>if(Ap now s).2=false then([],false)else Hr (Ap now s).1 ss
def Dn(old:List Ad)(steps:List ByteArray)(n:Int):List Ad×Bool:=Hr old (steps.take (Ct n 0 steps.length).toNat)
theorem T0:Setup Tryz.prog ((3000001,E7 Tryz.prog 3000001)::Vp):=(Setup.mark 3000001 XaD)
theorem My{Ae:List Ax}{Be:List (List D)}{Ah:List Ad}{Bf:List (List D)}{Ai:List Ad}{A9:List (List D)}{Af:List ByteArray}{Bg:List (List D)}{An:Int}{Al:Int}{o:Bool}(Aj:Ae.map A6=Be)(Ak:Ah.map Ac=Bf)(Ao:Ai.map Ac=A9)(Am:Af.map cS=Bg)(ab:I9 ⟨Ae,Ah,Ai,Af,An,Al⟩)(hr:Bk (⟨Ae,Ah,Ai,Af,An,Al⟩:Aa)=o):Fn Tryz.prog 87 [.agg [.d (.row 3 Be),.d (.row 2 Bf),.d (.row 2 A9),.d (.row 1 Bg),I An,I Al]] [] ⟨B o,[],[]⟩:=by
 refine Fn.go T0 Tryz.func87 fun P hP Q hQ=>?_
 conv=>cbv
 generalize ad:Bl An=r1
 refine .dd hP (Ft ad) ?_
 cases r1
 simp only[Bl,decide_eq_true_eq,decide_eq_false_iff_not]at ad
 conv=>cbv
 refine .go2 (by kernel_rfl) ?_
 conv=>cbv
 have e:false=Bk (⟨Ae,Ah,Ai,Af,An,Al⟩:Aa):=(by exact D3 fun h=>by rw[diskOk_iff]at h;exact ad h.1)
 rw[hr]at e
 subst e
 exact hQ _ _ (.b rfl rfl)
 simp only[Bl,decide_eq_true_eq,decide_eq_false_iff_not]at ad
 conv=>cbv
 generalize ae:Ca Al 1 1000000000=r2
 refine .dd hP (Ge ae) ?_
 cases r2
 simp only[Ca,decide_eq_true_eq,decide_eq_false_iff_not]at ae
 conv=>cbv
 refine .go2 (by kernel_rfl) ?_
 conv=>cbv
 have e:false=Bk (⟨Ae,Ah,Ai,Af,An,Al⟩:Aa):=(by exact D3 fun h=>by rw[diskOk_iff]at h;exact ae h.2.1)
 rw[hr]at e
 subst e
 exact hQ _ _ (.b rfl rfl)
 simp only[Ca,decide_eq_true_eq,decide_eq_false_iff_not]at ae
 conv=>cbv
 generalize am:Ec (⟨Ae,Ah,Ai,Af,An,Al⟩:Aa)=r3
 refine .dd hP (Wr Aj Ak Ao Am ab.1 (by omega) am) ?_
 cases r3
 conv=>cbv
 refine .go2 (by kernel_rfl) ?_
 conv=>cbv
 have e:false=Bk (⟨Ae,Ah,Ai,Af,An,Al⟩:Aa):=(by exact D3 fun h=>by rw[diskOk_iff]at h;have:=h.2.2.1;rw[am]at this;cases this)
 rw[hr]at e
 subst e
 exact hQ _ _ (.b rfl rfl)
 conv=>cbv
 generalize an:F1 (⟨Ae,Ah,Ai,Af,An,Al⟩:Aa)=r4
 refine .dd hP (Xex Aj Ak Ao Am ab.1 an) ?_
 conv=>cbv
 refine .gtr (fun h5=>?_) fun h5=>?_
 conv=>cbv
 refine .go2 (by kernel_rfl) ?_
 conv=>cbv
 have e:false=Bk (⟨Ae,Ah,Ai,Af,An,Al⟩:Aa):=(by exact D3 fun h=>by rw[diskOk_iff]at h;have:=h.2.2.2.1;rw[an]at this;simp only[]at this;omega)
 rw[hr]at e
 subst e
 exact hQ _ _ (.b rfl rfl)
 conv=>cbv
 refine .go2 (by kernel_rfl) ?_
 conv=>cbv
 have hdo:Ai.length≤1000000000:=ab.1.2.2.2.2.1
 have hds:Af.length≤1000000000:=ab.1.2.2.2.2.2
 generalize aq:D4 Ai=l6
 generalize ar:l6.map Ac=az
 refine .dd hP (Cb Ao (by omega) aq ar) ?_
 conv=>cbv
 have af:l6=Ai:=aq.symm
 refine LoopW.lp (κ:=(List (List D))×Int) T0 hP [] [1] (fun(ac,i4)=>[(3,.d (.row 2 ac)),(4,I i4)]) (fun(ac,i4)=>[])
  (fun(ac,i4)=>∃(u3:List Ad),u3.map Ac=ac∧0≤i4∧i4≤Af.length∧Er (⟨Ae,Ah,Ai,Af,An,Al⟩:Aa) Ai Af=Er (⟨Ae,Ah,Ai,Af,An,Al⟩:Aa) u3 (Af.drop i4.toNat)∧okL u3∧u3.length≤1000000000)
  (fun(ac,i4)=>(Af.length - i4).toNat) (az,0) ⟨l6,ar,by omega,by omega,by rw[af];rfl,by rw[af];exact ab.2.1,by rw[af];omega⟩ ⟨rfl,rfl,trivial⟩ rfl ?_
 rintro⟨ac,i4⟩ J ⟨u3,ao,h0,h1,hio,hul,hun⟩ hJ
 conv=>cbv
 generalize ag:Bc (⟨Ae,Ah,Ai,Af,An,Al⟩:Aa) u3=r7
 refine .dd hP (Te Aj Ak Ao Am ao ab.1 hul (by omega) ag) ?_
 cases r7
 conv=>cbv
 have e:false=Bk (⟨Ae,Ah,Ai,Af,An,Al⟩:Aa):=(by exact D3 fun h=>by rw[diskOk_iff]at h;have hk:=h.2.2.2.2;simp only[]at hk;rw[hio]at hk;rw[Yz ag]at hk;cases hk)
 rw[hr]at e
 subst e
 exact hQ _ _ (.b rfl rfl)
 conv=>cbv
 have a2:=Uh ag
 refine .go Am fun v8 a7=>?_
 conv=>cbv
 refine .eql (fun h9=>?_) fun h9=>?_
 conv=>cbv
 generalize ah:F9 u3 Ah=a1
 refine .dd hP (Kz ao Ak (by omega) ah) ?_
 cases a1
 conv=>cbv
 have e:false=Bk (⟨Ae,Ah,Ai,Af,An,Al⟩:Aa):=(by exact D3 fun h=>by rw[diskOk_iff]at h;have hk:=h.2.2.2.2;simp only[]at hk;rw[hio]at hk;rw[List.drop_of_length_le (by omega)]at hk;unfold Er at hk;rw[ah,Bool.and_false]at hk;cases hk)
 rw[hr]at e
 subst e
 exact hQ _ _ (.b rfl rfl)
 conv=>cbv
 have e:true=Bk (⟨Ae,Ah,Ai,Af,An,Al⟩:Aa):=(by symm;rw[diskOk_iff];refine⟨ad,ae,am,by rw[an];exact h5,?_⟩;simp only[];rw[hio,List.drop_of_length_le (by omega)];unfold Er;rw[ag,ah];rfl)
 rw[hr]at e
 subst e
 exact hQ _ _ (.b rfl rfl)
 conv=>cbv
 refine .go i4.toNat Am fun ai aj al=>?_
 conv=>cbv
 have au:aj.size≤1000000000:=al▸ab.2.2 _ (List.getElem_mem ai)
 have hdc:Af.drop i4.toNat=aj::Af.drop (i4.toNat+1):=by rw[List.drop_eq_getElem_cons ai,←al]
 rw[hdc]at hio
 rcases aa:Ap u3 aj with⟨aw,ax⟩
 generalize ak:aw.map Ac=ap
 refine .dd hP (O3 ao (by omega) (by omega) aa ak) ?_
 conv=>cbv
 have hsl:=Mo aa
 have hso:=Xak hul au aa
 cases ax
 conv=>cbv
 have e:false=Bk (⟨Ae,Ah,Ai,Af,An,Al⟩:Aa):=(by exact D3 fun h=>by rw[diskOk_iff]at h;have hk:=h.2.2.2.2;simp only[]at hk;rw[hio]at hk;unfold Er at hk;rw[aa,Bool.and_false]at hk;cases hk)
 rw[hr]at e
 subst e
 exact hQ _ _ (.b rfl rfl)
 conv=>cbv
 refine .add fun ay a6=>?_
 conv=>cbv
 exact .go [] (ap,ay) (hJ _ ⟨_,ak,by omega,by omega,by rw[hio,show ay.toNat=i4.toNat+1 by omega];show(Bc _ _&&(Ap u3 aj).2&&Er _ (Ap u3 aj).1 _)=_;rw[ag,aa];rfl,hso,by omega⟩ mlt)
theorem Xel{old:List Ad}{xold:List (List D)}{steps:List ByteArray}{xsteps:List (List D)}{n:Int}{oa:List Ad}{xoa:List (List D)}{ob:Bool}(hold:old.map Ac=xold)(hsteps:steps.map cS=xsteps)(hol:old.length≤1000000000)(hsl:steps.length≤1000000000)(hss:okS steps)(hr:Dn old steps n=(oa,ob))(hoa:oa.map Ac=xoa):Fn Tryz.prog 245 [.d (.row 2 xold),.d (.row 1 xsteps),I n] [] ⟨.tup [.d (.row 2 xoa),B ob],[],[]⟩:=by
 refine Fn.go XaD Tryz.func245 fun P hP Q hQ=>?_
 conv=>cbv
 generalize ah:D4 old=l1
 generalize ai:l1.map Ac=am
 refine .dd hP (Cb hold (by omega) ah ai) ?_
 conv=>cbv
 refine .go hsteps fun v2 an=>?_
 conv=>cbv
 generalize ag:Ct n 0 v2=r3
 refine .dd hP (We ag) ?_
 conv=>cbv
 have hbr:0≤r3∧r3≤steps.length:=by rw[←ag];unfold Ct;split<;>(try split)<;>omega
 refine .hi hsteps fun x4 hx4=>?_
 conv=>cbv
 refine .go hx4 fun v5 aq=>?_
 conv=>cbv
 have ad:l1=old:=ah.symm
 refine LoopW.lp (κ:=(List (List D))×Int) XaD hP [] [20,21] (fun(ab,aa)=>[(8,.d (.row 2 ab)),(22,I aa)]) (fun(ab,aa)=>[])
  (fun(ab,aa)=>∃(u8:List Ad),u8.map Ac=ab∧0≤aa∧aa≤(steps.take r3.toNat).length∧Dn old steps n=Hr u8 ((steps.take r3.toNat).drop aa.toNat)∧u8.length≤old.length+aa)
  (fun(ab,aa)=>((steps.take r3.toNat).length - aa).toNat) (am,0) ⟨l1,ai,by omega,by omega,by unfold Dn;rw[←an,ag,ad];rfl,by rw[ad];omega⟩ ⟨rfl,rfl,trivial⟩ rfl ?_
 rintro⟨ab,aa⟩ J ⟨u8,aj,h0,h1,hio,hun⟩ hJ
 have htl:(steps.take r3.toNat).length≤steps.length:=by rw[List.length_take];omega
 conv=>cbv
 refine .lss (fun h6=>?_) fun h6=>?_
 conv=>cbv
 refine .go aa.toNat hx4 fun ae e7 ak=>?_
 conv=>cbv
 have ar:e7.size≤1000000000:=by have hm:e7∈steps.take r3.toNat:=ak▸List.getElem_mem ae;exact hss _ (List.mem_of_mem_take hm)
 have hdc:(steps.take r3.toNat).drop aa.toNat=e7::(steps.take r3.toNat).drop (aa.toNat+1):=by rw[List.drop_eq_getElem_cons ae,←ak]
 rw[hdc]at hio
 rcases ac:Ap u8 e7 with⟨ao,ap⟩
 generalize af:ao.map Ac=al
 refine .dd hP (O3 aj (by omega) (by omega) ac af) ?_
 conv=>cbv
 have hsl8:=Mo ac
 cases ap
 conv=>cbv
 have e:([],false)=Dn old steps n:=(by rw[hio];show _=(if(Ap u8 e7).2=false then _ else _);rw[ac];rfl)
 rw[hr]at e
 simp only[Prod.mk.injEq]at e
 obtain⟨rfl,rfl⟩:=e
 refine hQ _ _ ?_
 exact .many (.inl rfl) rfl rfl (.ref rfl rfl (by rw[←hoa];rfl) (.d rfl rfl (.nil)))
 conv=>cbv
 refine .add fun v9 au=>?_
 conv=>cbv
 exact .go [] (al,v9) (hJ _ ⟨_,af,by omega,by omega,by rw[hio,show v9.toNat=aa.toNat+1 by omega];show(if(Ap u8 e7).2=false then _ else _)=_;rw[ac];rfl,by omega⟩ mlt)
 conv=>cbv
 have e:(u8,true)=Dn old steps n:=(by rw[hio,List.drop_of_length_le (by omega)];rfl)
 rw[hr]at e
 simp only[Prod.mk.injEq]at e
 obtain⟨rfl,rfl⟩:=e
 refine hQ _ _ ?_
 exact .many (.inl rfl) rfl rfl (.d rfl (A5 aj hoa) (.d rfl rfl (.nil)))
end
section
open Go Go.Proofs
set_option maxRecDepth 20000
set_option maxHeartbeats 4000000
def Wt:List (Nat×TyRow):=[ty3,ty5,ty9]
theorem Xcl:B8 Tryz.prog Wt:=B8.of (by kernel_rfl)
theorem Xj1:Setup Tryz.prog Wt:=⟨Xcl,mixed⟩
theorem Nr{a b:ByteArray}(h:a.data.toList=b.data.toList):a=b:=ByteArray.ext (Array.toList_inj.1 h)
theorem Dr(s:ByteArray)(a b:Nat):(s.extract a b).data.toList=(s.data.toList.take b).drop a:=by
 rw[ByteArray.data_extract,Array.toList_extract,List.extract_eq_take_drop,List.drop_take]
theorem Oy{c:UInt8}:∀(l:List UInt8) (k:Nat),l[k]? =some c→(∀j,j<k→∀x,l[j]? =some x→x≠c)→Lib.indexByte l c=k
 |[],k,h,_=>by simp at h
 |b::l,0,h,_=>by
  simp at h
  simp[Lib.indexByte,h]
 |b::l,k+1,h,hb=>by
  have h0:=hb 0 (by omega) b rfl
  have ih:=Oy l k (by simpa using h) (fun j hj x hx=>hb (j+1) (by omega) x (by simpa using hx))
  unfold Lib.indexByte
  rw[if_neg (by simpa using h0),ih,if_neg (by simp)]
  omega
theorem To{c:UInt8}:∀(l:List UInt8),(∀(j:Nat) x,l[j]? =some x→x≠c)→Lib.indexByte l c= -1
 |[],_=>rfl
 |b::l,hb=>by
  have h0:=hb 0 b rfl
  have ih:=To l (fun j x hx=>hb (j+1) x (by simpa using hx))
  unfold Lib.indexByte
  rw[if_neg (by simpa using h0),ih,if_pos (by rfl)]
theorem u8_58{x:UInt8}:x≠58↔x.toNat≠58:=⟨fun h e=>h (UInt8.toNat_inj.1 e),fun h e=>h (by rw[e];rfl)⟩
theorem Xew{s:ByteArray}{j:Nat}{x:UInt8}(h:(s.extract 1 s.size).data.toList[j]? =some x):∃hj:j+1<s.size,s[j+1]=x:=by
 rw[Dr,List.getElem?_drop,List.take_of_length_le (by rw[Array.length_toList];exact Nat.le_refl _)]at h
 have hl:1+j<s.size:=by
  have:=(List.getElem?_eq_some_iff.1 h).1
  rwa[Array.length_toList]at this
 refine⟨by omega,?_⟩
 rw[show 1+j=j+1 by omega,M2 (show j+1<s.size by omega)]at h
 exact Option.some.inj h
theorem S5{s:ByteArray}{i:Nat}(h1:1≤i)(hi:i<s.size)(h:(s[i]).toNat=58)(hb:∀j,1≤j→j<i→∀hj:j<s.size,(s[j]).toNat≠58):K0 (s.extract 1 s.size)=(s.extract 1 i,s.extract (i+1) s.size,true):=by
 obtain⟨k,rfl⟩:∃k,i=k+1:=⟨i - 1,by omega⟩
 have hsz:(s.extract 1 s.size).size=s.size - 1:=by rw[ByteArray.size_extract];omega
 have e:Jn (s.extract 1 s.size)=(k:Int):=by
  refine Oy _ k ?_ ?_
  ·rw[Dr,List.getElem?_drop,List.take_of_length_le (by rw[Array.length_toList];exact Nat.le_refl _),show 1+k=k+1 by omega,M2 hi]
   exact congrArg some (UInt8.toNat_inj.1 h)
  ·intro j hj x hx
   obtain⟨aa,rfl⟩:=Xew hx
   exact u8_58.2 (hb (j+1) (by omega) (by omega) aa)
 unfold K0
 rw[e,if_pos (by omega),Int.toNat_natCast,hsz]
 have a1:(s.extract 1 s.size).extract 0 k=s.extract 1 (k+1):=by
  apply Nr
  rw[Dr,Dr,Dr,List.drop_zero,List.take_of_length_le (l:=s.data.toList) (by rw[Array.length_toList];exact Nat.le_refl _),List.drop_take,Nat.add_sub_cancel]
 have a2:(s.extract 1 s.size).extract (k+1) (s.size - 1)=s.extract (k+1+1) s.size:=by
  apply Nr
  rw[Dr,Dr,Dr,List.take_of_length_le (l:=s.data.toList) (by rw[Array.length_toList];exact Nat.le_refl _),List.take_of_length_le (by rw[List.length_drop,Array.length_toList];exact Nat.le_refl _),List.drop_drop]
  congr 1
  omega
 rw[a1,a2]
theorem Xi9{s:ByteArray}(hb:∀j,1≤j→∀hj:j<s.size,(s[j]).toNat≠58):(K0 (s.extract 1 s.size)).2.2=false:=by
 have e:Jn (s.extract 1 s.size)= -1:=by
  refine To _ ?_
  intro j x hx
  obtain⟨aa,rfl⟩:=Xew hx
  exact u8_58.2 (hb (j+1) (by omega) aa)
 unfold K0
 rw[e,if_neg (by omega)]
def B5(s:ByteArray):ByteArray×ByteArray×Int×Bool:=
 if s.size<2∨(s.data.toList.head?≠some 43∧s.data.toList.head?≠some 45∧s.data.toList.head?≠some 62)then(tx [],tx [],0,false)
 else if s.data.toList.head?=some 45 then(s.extract 1 s.size,tx [],0,true)
 else if(K0 (s.extract 1 s.size)).2.2=false then(tx [],tx [],0,false)
 else if s.data.toList.head?=some 62 then((K0 (s.extract 1 s.size)).1,(K0 (s.extract 1 s.size)).2.1,0,Bs (K0 (s.extract 1 s.size)).2.1&& !decide ((K0 (s.extract 1 s.size)).1=(K0 (s.extract 1 s.size)).2.1))
 else((K0 (s.extract 1 s.size)).1,tx [],(Ba (K0 (s.extract 1 s.size)).2.1).1,(Ba (K0 (s.extract 1 s.size)).2.1).2&&Bs (K0 (s.extract 1 s.size)).1)
theorem Kx{s:ByteArray}{v:Int}{n:Nat}(h0:0<s.size)(hv:v=((s[0]).toNat:Int))(h:v≠(n:Int))(hn:n<256):s.data.toList.head?≠some (UInt8.ofNat n):=by
 rw[Lb h0]
 intro e
 exact XjJ hv h hn (Option.some.inj e)
theorem Lx{s:ByteArray}{v:Int}{n:Nat}(h0:0<s.size)(hv:v=((s[0]).toNat:Int))(h:v=(n:Int))(hn:n<256):s.data.toList.head?=some (UInt8.ofNat n):=(Lb h0).trans (congrArg some (Xjx hv h hn))
section
variable {s a b:ByteArray}
theorem Xs(h:s.size<2∨(s.data.toList.head?≠some 43∧s.data.toList.head?≠some 45∧s.data.toList.head?≠some 62)):(tx [],tx [],0,false)=B5 s:=by unfold B5;rw[if_pos h]
theorem Xbb(h2:2≤s.size)(h:s.data.toList.head?=some 45):(s.extract 1 s.size,tx [],0,true)=B5 s:=by
 unfold B5
 rw[if_neg (by rw[h];rintro(h|h);omega;exact h.2.1 rfl),if_pos h]
theorem Zi(h2:2≤s.size)(hh:s.data.toList.head?=some 43∨s.data.toList.head?=some 45∨s.data.toList.head?=some 62)(h45:s.data.toList.head?≠some 45)(hc:(K0 (s.extract 1 s.size)).2.2=false):(tx [],tx [],0,false)=B5 s:=by
 unfold B5
 rw[if_neg (by rintro(h|⟨k1,k2,k3⟩);omega;rcases hh with h|h|h;exact k1 h;exact k2 h;exact k3 h),if_neg h45,if_pos hc]
theorem Ug(h2:2≤s.size)(h:s.data.toList.head?=some 62)(hc:K0 (s.extract 1 s.size)=(a,b,true)):B5 s=(a,b,0,Bs b&& !decide (a=b)):=by
 unfold B5
 rw[if_neg (by rw[h];rintro(h|h);omega;exact h.2.2 rfl),if_neg (by rw[h];decide),hc,if_neg (by simp),if_pos h]
theorem Uj(h2:2≤s.size)(h:s.data.toList.head?=some 43)(hc:K0 (s.extract 1 s.size)=(a,b,true)):B5 s=(a,tx [],(Ba b).1,(Ba b).2&&Bs a):=by
 unfold B5
 rw[if_neg (by rw[h];rintro(h|h);omega;exact h.1 rfl),if_neg (by rw[h];decide),hc,if_neg (by simp),if_neg (by rw[h];decide)]
end
theorem Ni:Setup Tryz.prog ((3000009,E7 Tryz.prog 3000009)::((3000012,E7 Tryz.prog 3000012)::((1000026,E7 Tryz.prog 1000026)::Wt))):=(Setup.mark 3000009 (Setup.mark 3000012 (Setup.mark 1000026 Xj1)))
theorem XiQ{step:ByteArray}{oa:ByteArray}{ob:ByteArray}{oc:Int}{od:Bool}(hs:step.size≤1000000000)(hr:B5 step=(oa,ob,oc,od)):Fn Tryz.prog 241 [S step] [] ⟨.tup [S oa,S ob,I oc,B od],[],[]⟩:=by
 refine Fn.go Ni Tryz.func241 fun P hP Q hQ=>?_
 conv=>cbv
 refine JoinW.jn (κ:=Unit) Ni hP [] [0] (fun()=>[]) (fun()=>[])
  (fun()=>2≤step.size∧(step.data.toList.head?=some 43∨step.data.toList.head?=some 45∨step.data.toList.head?=some 62)) (fun Jj hJj=>?_) ?_
 conv=>cbv
 refine .go fun v1 an=>?_
 conv=>cbv
 refine .lss (fun h2=>?_) fun h2=>?_
 conv=>cbv
 have e:((tx []),(tx []),0,false)=B5 step:=(by exact Xs (.inl (by omega)))
 rw[hr]at e
 simp only[Prod.mk.injEq]at e
 obtain⟨rfl,rfl,rfl,rfl⟩:=e
 refine hQ _ _ ?_
 exact .many (.inl rfl) rfl rfl (.d rfl rfl (.d rfl rfl (.d rfl rfl (.d rfl rfl (.nil)))))
 conv=>cbv
 refine .go 0 fun hjv3 v3 aw bv3=>?_
 conv=>cbv
 refine .neq (fun h4=>?_) fun h4=>?_
 conv=>cbv
 refine .go 0 fun hjv5 v5 ax bv5=>?_
 conv=>cbv
 refine .neq (fun h6=>?_) fun h6=>?_
 conv=>cbv
 refine .go 0 fun hjv7 v7 ac bv7=>?_
 conv=>cbv
 refine .neq (fun h8=>?_) fun h8=>?_
 conv=>cbv
 have e:((tx []),(tx []),0,false)=B5 step:=(by exact Xs (.inr ⟨(Kx (n:=43) (show 0<step.size by omega) aw (by omega) (by decide)),(Kx (n:=45) (show 0<step.size by omega) ax (by omega) (by decide)),(Kx (n:=62) (show 0<step.size by omega) ac (by omega) (by decide))⟩))
 rw[hr]at e
 simp only[Prod.mk.injEq]at e
 obtain⟨rfl,rfl,rfl,rfl⟩:=e
 refine hQ _ _ ?_
 exact .many (.inl rfl) rfl rfl (.d rfl rfl (.d rfl rfl (.d rfl rfl (.d rfl rfl (.nil)))))
 conv=>cbv
 exact .go [] (()) (hJj _ ⟨by omega,.inr (.inr (Lx (n:=62) (show 0<step.size by omega) ac (by omega) (by decide)))⟩)
 conv=>cbv
 exact .go [] (()) (hJj _ ⟨by omega,.inr (.inl (Lx (n:=45) (show 0<step.size by omega) ax (by omega) (by decide)))⟩)
 conv=>cbv
 exact .go [] (()) (hJj _ ⟨by omega,.inl (Lx (n:=43) (show 0<step.size by omega) aw (by omega) (by decide))⟩)
 rintro⟨⟩ ⟨ag,hh0⟩
 conv=>cbv
 refine .go 0 fun hjv1 v1 an bv1=>?_
 conv=>cbv
 refine .eql (fun h2=>?_) fun h2=>?_
 conv=>cbv
 refine .lo fun s3 bj=>?_
 conv=>cbv
 have e:(s3,(tx []),0,true)=B5 step:=(by rw[bj];exact Xbb ag (Lx (n:=45) (show 0<step.size by omega) an (by omega) (by decide)))
 rw[hr]at e
 simp only[Prod.mk.injEq]at e
 obtain⟨rfl,rfl,rfl,rfl⟩:=e
 refine hQ _ _ ?_
 exact .many (.inl rfl) rfl rfl (.d rfl rfl (.d rfl rfl (.d rfl rfl (.d rfl rfl (.nil)))))
 conv=>cbv
 refine LoopW.lp (κ:=Int) Ni hP [] [0] (fun i6=>[(6,I i6)]) (fun i6=>[])
  (fun i6=>1≤i6∧i6≤step.size∧∀j,1≤j→j<i6.toNat→∀hj:j<step.size,(step[j]).toNat≠58)
  (fun i6=>(step.size - i6).toNat) (1) ⟨by omega,by omega,fun j h1 h2=>by omega⟩ ⟨rfl,trivial⟩ rfl ?_
 rintro i6 J1 ⟨h0,h1,hb⟩ bk
 conv=>cbv
 refine .go fun v3 aw=>?_
 conv=>cbv
 refine .lss (fun h4=>?_) fun h4=>?_
 conv=>cbv
 refine .go i6.toNat fun hjv5 v5 ax bv5=>?_
 conv=>cbv
 refine .eql (fun h6=>?_) fun h6=>?_
 conv=>cbv
 refine .go 0 fun hjv7 v7 ac bv7=>?_
 conv=>cbv
 refine .eql (fun h8=>?_) fun h8=>?_
 conv=>cbv
 refine .lohi fun s9 ay=>?_
 conv=>cbv
 refine .add fun az bm=>?_
 conv=>cbv
 refine .lo fun a1 ao=>?_
 conv=>cbv
 refine .add fun a2 bn=>?_
 conv=>cbv
 refine .lo fun ah ad=>?_
 conv=>cbv
 have bb:ah.size≤step.size:=by rw[ad,ByteArray.size_extract];omega
 generalize aa:Bs ah=a6
 refine .dd hP (M3 (by omega) aa) ?_
 cases a6
 conv=>cbv
 refine .go2 (by kernel_rfl) ?_
 conv=>cbv
 have e:(s9,a1,0,false)=B5 step:=(by have hm:=Ug ag (Lx (n:=62) (show 0<step.size by omega) ac (by omega) (by decide)) (S5 (s:=step) (i:=i6.toNat) (by omega) (by omega) (by omega) hb);have ai:ah=step.extract (i6.toNat+1) step.size:=(by rw[ad,show a2.toNat=i6.toNat+1 by omega]);rw[ai]at aa;rw[hm,ay,ao,aa,show az.toNat=i6.toNat+1 by omega];rfl)
 rw[hr]at e
 simp only[Prod.mk.injEq]at e
 obtain⟨rfl,rfl,rfl,rfl⟩:=e
 refine hQ _ _ ?_
 exact .many (.inl rfl) rfl rfl (.d rfl rfl (.d rfl rfl (.d rfl rfl (.d rfl rfl (.nil)))))
 conv=>cbv
 refine .lohi fun a7 ae=>?_
 conv=>cbv
 refine .add fun bc bo=>?_
 conv=>cbv
 refine .lo fun bv au=>?_
 conv=>cbv
 refine .neq (fun h18=>?_) fun h18=>?_
 conv=>cbv
 refine .go2 (by kernel_rfl) ?_
 conv=>cbv
 have e:(s9,a1,0,true)=B5 step:=(by have hm:=Ug ag (Lx (n:=62) (show 0<step.size by omega) ac (by omega) (by decide)) (S5 (s:=step) (i:=i6.toNat) (by omega) (by omega) (by omega) hb);have ai:ah=step.extract (i6.toNat+1) step.size:=(by rw[ad,show a2.toNat=i6.toNat+1 by omega]);rw[ai]at aa;rw[hm,ay,ao,aa,show az.toNat=i6.toNat+1 by omega,decide_eq_false (show¬step.extract 1 i6.toNat=step.extract (i6.toNat+1) step.size from fun e=>h18 (by rw[ae,au,show bc.toNat=i6.toNat+1 by omega];exact e))];rfl)
 rw[hr]at e
 simp only[Prod.mk.injEq]at e
 obtain⟨rfl,rfl,rfl,rfl⟩:=e
 refine hQ _ _ ?_
 exact .many (.inl rfl) rfl rfl (.d rfl rfl (.d rfl rfl (.d rfl rfl (.d rfl rfl (.nil)))))
 conv=>cbv
 refine .go2 (by kernel_rfl) ?_
 conv=>cbv
 have e:(s9,a1,0,false)=B5 step:=(by have hm:=Ug ag (Lx (n:=62) (show 0<step.size by omega) ac (by omega) (by decide)) (S5 (s:=step) (i:=i6.toNat) (by omega) (by omega) (by omega) hb);have ai:ah=step.extract (i6.toNat+1) step.size:=(by rw[ad,show a2.toNat=i6.toNat+1 by omega]);rw[ai]at aa;rw[hm,ay,ao,aa,show az.toNat=i6.toNat+1 by omega,decide_eq_true (show step.extract 1 i6.toNat=step.extract (i6.toNat+1) step.size from by rw[ae,au,show bc.toNat=i6.toNat+1 by omega]at h18;exact h18)];rfl)
 rw[hr]at e
 simp only[Prod.mk.injEq]at e
 obtain⟨rfl,rfl,rfl,rfl⟩:=e
 refine hQ _ _ ?_
 exact .many (.inl rfl) rfl rfl (.d rfl rfl (.d rfl rfl (.d rfl rfl (.d rfl rfl (.nil)))))
 conv=>cbv
 refine .go i6.toNat fun hjv9 v9 bd bv9=>?_
 conv=>cbv
 refine .eql (fun h10=>?_) fun h10=>?_
 conv=>cbv
 refine .add fun a8 bp=>?_
 conv=>cbv
 refine .lo fun af aj=>?_
 conv=>cbv
 have bq:af.size≤step.size:=by rw[aj,ByteArray.size_extract];omega
 rcases ab:Ba af with⟨ap,be⟩
 refine .dd hP (Rf (by omega) ab) ?_
 conv=>cbv
 refine .lohi fun ba aq=>?_
 conv=>cbv
 cases be
 conv=>cbv
 refine .go2 (by kernel_rfl) ?_
 conv=>cbv
 have e:(ba,(tx []),ap,false)=B5 step:=(by have hm:=Uj ag (hh0.elim id fun h=>h.elim (fun h=>absurd h (Kx (n:=45) (show 0<step.size by omega) an (by omega) (by decide))) fun h=>absurd h (Kx (n:=62) (show 0<step.size by omega) ac (by omega) (by decide))) (S5 (s:=step) (i:=i6.toNat) (by omega) (by omega) (by omega) hb);have ak:af=step.extract (i6.toNat+1) step.size:=(by rw[aj,show a8.toNat=i6.toNat+1 by omega]);rw[ak]at ab;rw[hm,aq,ab];rfl)
 rw[hr]at e
 simp only[Prod.mk.injEq]at e
 obtain⟨rfl,rfl,rfl,rfl⟩:=e
 refine hQ _ _ ?_
 exact .many (.inl rfl) rfl rfl (.d rfl rfl (.d rfl rfl (.d rfl rfl (.d rfl rfl (.nil)))))
 conv=>cbv
 refine .lohi fun a7 ae=>?_
 conv=>cbv
 have bt:a7.size≤step.size:=by rw[ae,ByteArray.size_extract];omega
 generalize al:Bs a7=bl
 refine .dd hP (M3 (by omega) al) ?_
 cases bl
 conv=>cbv
 refine .go2 (by kernel_rfl) ?_
 conv=>cbv
 have e:(ba,(tx []),ap,false)=B5 step:=(by have hm:=Uj ag (hh0.elim id fun h=>h.elim (fun h=>absurd h (Kx (n:=45) (show 0<step.size by omega) an (by omega) (by decide))) fun h=>absurd h (Kx (n:=62) (show 0<step.size by omega) ac (by omega) (by decide))) (S5 (s:=step) (i:=i6.toNat) (by omega) (by omega) (by omega) hb);have ak:af=step.extract (i6.toNat+1) step.size:=(by rw[aj,show a8.toNat=i6.toNat+1 by omega]);rw[ak]at ab;rw[ae]at al;have am:=(show Bs (step.extract 1 i6.toNat)=_ from al);rw[hm,aq,ab,am];rfl)
 rw[hr]at e
 simp only[Prod.mk.injEq]at e
 obtain⟨rfl,rfl,rfl,rfl⟩:=e
 refine hQ _ _ ?_
 exact .many (.inl rfl) rfl rfl (.d rfl rfl (.d rfl rfl (.d rfl rfl (.d rfl rfl (.nil)))))
 conv=>cbv
 refine .go2 (by kernel_rfl) ?_
 conv=>cbv
 have e:(ba,(tx []),ap,true)=B5 step:=(by have hm:=Uj ag (hh0.elim id fun h=>h.elim (fun h=>absurd h (Kx (n:=45) (show 0<step.size by omega) an (by omega) (by decide))) fun h=>absurd h (Kx (n:=62) (show 0<step.size by omega) ac (by omega) (by decide))) (S5 (s:=step) (i:=i6.toNat) (by omega) (by omega) (by omega) hb);have ak:af=step.extract (i6.toNat+1) step.size:=(by rw[aj,show a8.toNat=i6.toNat+1 by omega]);rw[ak]at ab;rw[ae]at al;have am:=(show Bs (step.extract 1 i6.toNat)=_ from al);rw[hm,aq,ab,am];rfl)
 rw[hr]at e
 simp only[Prod.mk.injEq]at e
 obtain⟨rfl,rfl,rfl,rfl⟩:=e
 refine hQ _ _ ?_
 exact .many (.inl rfl) rfl rfl (.d rfl rfl (.d rfl rfl (.d rfl rfl (.d rfl rfl (.nil)))))
 exfalso;omega
 conv=>cbv
 refine .go i6.toNat fun hjv7 v7 ac bv7=>?_
 conv=>cbv
 refine .eql (fun h8=>?_) fun h8=>?_
 conv=>cbv
 refine .add fun v9 bd=>?_
 conv=>cbv
 refine .lo fun bf bg=>?_
 conv=>cbv
 have bu:bf.size≤step.size:=by rw[bg,ByteArray.size_extract];omega
 rcases bh:Ba bf with⟨ar,bi⟩
 refine .dd hP (Rf (by omega) bh) ?_
 conv=>cbv
 refine .lohi fun af aj=>?_
 conv=>cbv
 cases bi
 conv=>cbv
 refine .go2 (by kernel_rfl) ?_
 conv=>cbv
 have e:(af,(tx []),ar,false)=B5 step:=(by exfalso;omega)
 rw[hr]at e
 simp only[Prod.mk.injEq]at e
 obtain⟨rfl,rfl,rfl,rfl⟩:=e
 refine hQ _ _ ?_
 exact .many (.inl rfl) rfl rfl (.d rfl rfl (.d rfl rfl (.d rfl rfl (.d rfl rfl (.nil)))))
 conv=>cbv
 refine .lohi fun ah ad=>?_
 conv=>cbv
 have bb:ah.size≤step.size:=by rw[ad,ByteArray.size_extract];omega
 generalize aa:Bs ah=a6
 refine .dd hP (M3 (by omega) aa) ?_
 cases a6
 conv=>cbv
 refine .go2 (by kernel_rfl) ?_
 conv=>cbv
 have e:(af,(tx []),ar,false)=B5 step:=(by exfalso;omega)
 rw[hr]at e
 simp only[Prod.mk.injEq]at e
 obtain⟨rfl,rfl,rfl,rfl⟩:=e
 refine hQ _ _ ?_
 exact .many (.inl rfl) rfl rfl (.d rfl rfl (.d rfl rfl (.d rfl rfl (.d rfl rfl (.nil)))))
 conv=>cbv
 refine .go2 (by kernel_rfl) ?_
 conv=>cbv
 have e:(af,(tx []),ar,true)=B5 step:=(by exfalso;omega)
 rw[hr]at e
 simp only[Prod.mk.injEq]at e
 obtain⟨rfl,rfl,rfl,rfl⟩:=e
 refine hQ _ _ ?_
 exact .many (.inl rfl) rfl rfl (.d rfl rfl (.d rfl rfl (.d rfl rfl (.d rfl rfl (.nil)))))
 conv=>cbv
 refine .add fun v9 bd=>?_
 conv=>cbv
 exact .go [] (v9) (bk _ ⟨by omega,by omega,fun j k1 k2 hj=>if e:j=i6.toNat then by subst e;omega else hb j k1 (by omega) hj⟩ mlt)
 conv=>cbv
 have e:((tx []),(tx []),0,false)=B5 step:=(by exact Zi ag hh0 (Kx (n:=45) (show 0<step.size by omega) an (by omega) (by decide)) (Xi9 fun j k1 hj=>hb j k1 (by omega) hj))
 rw[hr]at e
 simp only[Prod.mk.injEq]at e
 obtain⟨rfl,rfl,rfl,rfl⟩:=e
 refine hQ _ _ ?_
 exact .many (.inl rfl) rfl rfl (.d rfl rfl (.d rfl rfl (.d rfl rfl (.d rfl rfl (.nil)))))
end
end Go.Proofs.YtgdmjbcllgmepaaGreatDoor.Ab
