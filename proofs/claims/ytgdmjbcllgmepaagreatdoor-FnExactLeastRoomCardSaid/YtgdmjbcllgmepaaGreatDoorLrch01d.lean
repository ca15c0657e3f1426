/- What functions of the program come to, for all arguments in the given bounds. -/
import Derived.Test.YtgdmjbcllgmepaaGreatDoorLrch10
import Derived.Lib.ItoaNum
import Derived.Lib.AppendIntMem
import Derived.Below
import Derived.ProofKit
import Derived.Shelf.Spec.SlicesInsertGrow
import Derived.Test.YtgdmjbcllgmepaaGreatDoorLrZ9
set_option linter.unusedVariables false
set_option linter.unusedSimpArgs false
namespace Go.Proofs.YtgdmjbcllgmepaaGreatDoor.Ab
section
open Go Go.Proofs
set_option maxRecDepth 20000
set_option maxHeartbeats 4000000
def Zv:List (Nat×TyRow):=[ty3,ty5,ty9,Xha,Xfh]
theorem Z5:By Tryz.prog Zv:=By.of (by kernel_rfl)
theorem Oe:Setup Tryz.prog Zv:=⟨Z5,mixed⟩
def fig(x:Int):UInt8:=UInt8.ofNat (if x<10 then 48+x.toNat else 87+x.toNat)
def D6(x:Int):Int:=(if x<10 then 48+x else 97+x - 10)% 256
theorem Xfj{x:Int}(h:0≤x∧x<16):((fig x).toNat:Int)=D6 x:=by
 unfold fig D6
 split
 ·rw[UInt8.toNat_ofNat',Nat.mod_eq_of_lt (by omega)];omega
 ·rw[UInt8.toNat_ofNat',Nat.mod_eq_of_lt (by omega)];omega
theorem Xci{x r:Int}(hr:D6 x=r)(h:0≤x∧x<16):[D.sc (.int .u8 r)]=cB (fig x):=by
 show _=[D.sc (.int .u8 ((fig x).toNat:Int))]
 rw[Xfj h,hr]
theorem fig10(n:Nat):fig ((n% 10:Nat):Int)=UInt8.ofNat (48+n% 10):=by
 unfold fig
 rw[if_pos (by omega),Int.toNat_natCast]
theorem Gy:∀(k u:Nat),u<10^ (k+1)→1≤(Lib.decDigits u).length∧(Lib.decDigits u).length≤k+1
 |0,u,h=>by rw[Lib.decDigits,dif_pos (by simpa using h)];simp
 |k+1,u,h=>by
  by_cases hn:u<10
  ·rw[Lib.decDigits,dif_pos hn];simp
  ·rw[Lib.decDigits,dif_neg hn]
   have:=Gy k (u/10) (by rw[Nat.pow_succ]at h;omega)
   simp;omega
def XdX(n:Nat):List UInt8:=if n=0 then[]else Lib.decDigits n
theorem Ot{n:Nat}(h:n≠0):XdX n=XdX (n/10)++[fig ((n% 10:Nat):Int)]:=by
 unfold XdX
 rw[if_neg h,Lib.decDigits,fig10]
 split
 ·rw[if_pos (by omega),Nat.mod_eq_of_lt (by omega)];rfl
 ·rw[if_neg (by omega)]
theorem XcI{u:Nat}(h:u≤9223372036854775808):(XdX u).length≤19:=by
 unfold XdX
 split
 ·simp
 ·exact(Gy 18 u (by omega)).2
abbrev Xv(n:Int):Prop:=-9223372036854775808≤n∧n≤9223372036854775807
def Bw(n:Int):ByteArray:=tx (Lib.itoa n)
def Xip(n:Int):ByteArray:=Bw n
theorem Xfl(n:Int)(h:n≠0):Lib.itoa n=(if n<0 then[45]else[])++XdX n.natAbs:=by
 unfold Lib.itoa XdX
 rw[if_neg (show¬n.natAbs=0 by omega)]
 split
 ·rfl
 ·rw[show n.toNat=n.natAbs by omega];rfl
theorem XgR{n:Int}(h:Xv n):1≤(Lib.itoa n).length∧(Lib.itoa n).length≤20:=by
 unfold Xv at h
 unfold Lib.itoa
 split
 ·have:=Gy 18 n.natAbs (by omega)
  simp;omega
 ·have:=Gy 18 n.toNat (by omega)
  omega
theorem Px{n:Int}{o:ByteArray}(e:Bw n=o)(h:Xv n):1≤o.size∧o.size≤20:=by
 rw[←e]
 unfold Bw
 rw[B2]
 exact XgR h
theorem ArW.quoT{K:Int→Prop}{a:Int}(h:∀v,v=a.tdiv 10→K v)(hr: -9223372036854775808≤a∧a<9223372036854775808:=by omega):ArW .quo .i64 .i64 a 10 K:=by
 refine⟨a.tdiv 10,?_,h _ rfl⟩
 show(if(10:Int)=0 then none else some (Value.int .i64 (IntKind.i64.wrap (a.tdiv 10))))=_
 rw[if_neg (by decide),Po]
 rcases Int.le_total 0 a with h0|h0
 ·rw[Int.tdiv_eq_ediv_of_nonneg h0];omega
 ·have:a.tdiv 10= -((-a)/10):=by rw[←Int.tdiv_eq_ediv_of_nonneg (by omega),Int.neg_tdiv];omega
  omega
theorem ArW.remT{K:Int→Prop}{k:IntKind}{a:Int}(h:∀v,v=a.tmod 10→K v):ArW .rem k k a 10 K:=by
 refine⟨a.tmod 10,?_,h _ rfl⟩
 show(if k=k then(if(10:Int)=0 then none else some (Value.int k (a.tmod 10)))else none)=_
 rw[if_pos rfl,if_neg (by decide)]
theorem Xif{a:Int}{q:Nat}(h:a= -(q:Int)):a.tdiv 10= -((q/10:Nat):Int):=by
 subst h
 rw[Int.neg_tdiv,Int.tdiv_eq_ediv_of_nonneg (by omega)]
 omega
theorem Xih{a:Int}{q:Nat}(h:a= -(q:Int)):a.tmod 10= -((q% 10:Nat):Int):=by
 subst h
 rw[Int.neg_tmod,Int.tmod_eq_emod_of_nonneg (by omega)]
 omega
theorem XiM{a:Int}{q:Nat}(h:a=(q:Int)):a.tdiv 10=((q/10:Nat):Int):=by
 subst h
 rw[Int.tdiv_eq_ediv_of_nonneg (by omega)]
 omega
theorem XiQ{a:Int}{q:Nat}(h:a=(q:Int)):a.tmod 10=((q% 10:Nat):Int):=by
 subst h
 rw[Int.tmod_eq_emod_of_nonneg (by omega)]
 omega
variable {n:Int} {o:ByteArray}
theorem Ud(hn:Xv n)(hr:Xip n=o):Fn Tryz.prog 216 [I n] [] ⟨S o,[],[]⟩:=by
 refine⟨D5 Tryz.func216 rfl rfl,CallOk.ofCallsG fun E vs hS hG hA=>?_⟩
 obtain⟨u,rfl,h1⟩:=XhL hA
 rw[Nv h1]
 have ht:=XhI hG
 refine(Tryz.strconv_Itoa n hn.1 hn.2 E.w ht).mono ?_
 rintro e w' ⟨rfl,k,os,rfl⟩
 exact⟨_,rfl,Lib.below_grow _ _ (Nat.le_refl _) k os,by rw[←hr];exact .sc _ rfl⟩
theorem La{x:Int}{o:Int}(hx:0≤x∧x<16)(hr:D6 x=o):Fn Tryz.prog 136 [I x] [] ⟨.d (.sc (.int .u8 o)),[],[]⟩:=by
 refine Fn.go Oe Tryz.func136 fun P hP Q hQ=>?_
 conv=>cbv
 refine .lss (fun h1=>?_) fun h1=>?_
 conv=>cbv
 refine .add fun v2 aa=>?_
 conv=>cbv
 refine .go fun v3 ab=>?_
 conv=>cbv
 have e:v3=D6 x:=(by rw[ab,Jz,aa];unfold D6;rw[if_pos (by omega)])
 rw[hr]at e
 subst e
 exact hQ _ _ (.i rfl rfl)
 conv=>cbv
 refine .add fun v2 aa=>?_
 conv=>cbv
 refine .sub fun v3 ab=>?_
 conv=>cbv
 refine .go fun v4 ac=>?_
 conv=>cbv
 have e:v4=D6 x:=(by rw[ac,Jz,ab,aa];unfold D6;rw[if_neg (by omega)])
 rw[hr]at e
 subst e
 exact hQ _ _ (.i rfl rfl)
theorem Xad(hn:Xv n)(hr:Bw n=o):Fn Tryz.prog 144 [I n] [] ⟨S o,[],[]⟩:=by
 refine Fn.go Oe Tryz.func144 fun P hP Q hQ=>?_
 conv=>cbv
 generalize aa:Xip n=r1
 refine .dd hP (Ud hn aa) ?_
 conv=>cbv
 have e:r1=Bw n:=(by exact aa.symm)
 rw[hr]at e
 subst e
 exact hQ _ _ (.s rfl rfl)
theorem Y6(hn:Xv n)(hr:Bw n=o):Fn Tryz.prog 56 [I n] [] ⟨S o,[],[]⟩:=by
 refine Fn.go Oe Tryz.func56 fun P hP Q hQ=>?_
 conv=>cbv
 refine .eql (fun h1=>?_) fun h1=>?_
 conv=>cbv
 have e:(tx [48])=Bw n:=(by unfold Bw;rw[h1,show Lib.itoa 0=[48]by unfold Lib.itoa;rw[if_neg (by decide),Lib.decDigits];rfl])
 rw[hr]at e
 subst e
 exact hQ _ _ (.s rfl rfl)
 conv=>cbv
 refine .lss (fun h2=>?_) fun h2=>?_
 conv=>cbv
 refine LoopW.lp (κ:=Int×ByteArray) Oe hP [] [3] (fun(i0,s4)=>[(0,I i0),(4,S s4)]) (fun(i0,s4)=>[])
  (fun(i0,s4)=>∃(q:Nat) (w:List UInt8),s4=tx w∧XdX n.natAbs=XdX q++w∧q≤n.natAbs∧(n<0→i0= -(q:Int))∧(0≤n→i0=(q:Int)))
  (fun(i0,s4)=>i0.natAbs) (n,tx []) ⟨n.natAbs,[],rfl,by simp,by omega,by omega,by omega⟩ ⟨rfl,rfl,trivial⟩ rfl ?_
 rintro⟨i0,s4⟩ J ⟨q,w,aa,hw,hq,hiN,hiP⟩ hJ
 have hwl:=congrArg List.length hw
 rw[List.length_append]at hwl
 have hdl:=XcI (u:=n.natAbs) (by unfold Xv at hn;omega)
 have ai:s4.size=w.length:=by rw[aa,B2]
 have et:(n<0→i0.tdiv 10= -((q/10:Nat):Int))∧(0≤n→i0.tdiv 10=((q/10:Nat):Int)):=⟨fun h=>Xif (hiN h),fun h=>XiM (hiP h)⟩
 have em:(n<0→i0.tmod 10= -((q% 10:Nat):Int))∧(0≤n→i0.tmod 10=((q% 10:Nat):Int)):=⟨fun h=>Xih (hiN h),fun h=>XiQ (hiP h)⟩
 have hn_:=hn
 unfold Xv at hn_
 conv=>cbv
 refine .neq (fun h3=>?_) fun h3=>?_
 conv=>cbv
 refine .remT fun v4 ak=>?_
 conv=>cbv
 refine .lss (fun h5=>?_) fun h5=>?_
 conv=>cbv
 refine .go fun v6 al=>?_
 conv=>cbv
 generalize ad:D6 v6=r7
 refine .dd hP (La (by omega) ad) ?_
 conv=>cbv
 refine .go (l:=[fig ((q% 10:Nat):Int)]) (by show[cB (fig _)]=_;rw[show((q% 10:Nat):Int)=v6 by omega,←Xci ad (by omega)]) (hn:=rfl) fun s8 ab=>?_
 conv=>cbv
 have ag:s8.size=1:=by rw[ab];rfl
 refine .go fun s9 ae am=>?_
 conv=>cbv
 refine .quoT fun ah aj=>?_
 conv=>cbv
 exact .go [] (ah,s9) (hJ _ ⟨q/10,fig ((q% 10:Nat):Int)::w,by first|(rw[ae,ab,aa,Dh];rfl)|(rw[ab,ac,aa,Dh];rfl),by rw[hw,Ot (show q≠0 by omega),List.append_assoc];rfl,by omega,by omega,by omega⟩ mlt)
 conv=>cbv
 generalize af:D6 v4=r6
 refine .dd hP (La (by omega) af) ?_
 conv=>cbv
 refine .go (l:=[fig ((q% 10:Nat):Int)]) (by show[cB (fig _)]=_;rw[show((q% 10:Nat):Int)=v4 by omega,←Xci af (by omega)]) (hn:=rfl) fun s7 ac=>?_
 conv=>cbv
 have an:s7.size=1:=by rw[ac];rfl
 refine .go fun s8 ab ag=>?_
 conv=>cbv
 refine .quoT fun v9 ao=>?_
 conv=>cbv
 exact .go [] (v9,s8) (hJ _ ⟨q/10,fig ((q% 10:Nat):Int)::w,by first|(rw[ae,ab,aa,Dh];rfl)|(rw[ab,ac,aa,Dh];rfl),by rw[hw,Ot (show q≠0 by omega),List.append_assoc];rfl,by omega,by omega,by omega⟩ mlt)
 conv=>cbv
 refine .litL 1 fun s4 aa ai=>?_
 conv=>cbv
 have e:s4=Bw n:=(by unfold Bw;rw[Xfl n h1,if_pos h2,hw,show q=0 by omega,aa];rename_i hs4_ _;rw[hs4_];show tx [45]++tx _=_;rw[Dh];rfl)
 rw[hr]at e
 subst e
 exact hQ _ _ (.s rfl rfl)
 conv=>cbv
 refine LoopW.lp (κ:=Int×ByteArray) Oe hP [] [3] (fun(i0,s4)=>[(0,I i0),(4,S s4)]) (fun(i0,s4)=>[])
  (fun(i0,s4)=>∃(q:Nat) (w:List UInt8),s4=tx w∧XdX n.natAbs=XdX q++w∧q≤n.natAbs∧(n<0→i0= -(q:Int))∧(0≤n→i0=(q:Int)))
  (fun(i0,s4)=>i0.natAbs) (n,tx []) ⟨n.natAbs,[],rfl,by simp,by omega,by omega,by omega⟩ ⟨rfl,rfl,trivial⟩ rfl ?_
 rintro⟨i0,s4⟩ J ⟨q,w,aa,hw,hq,hiN,hiP⟩ hJ
 have hwl:=congrArg List.length hw
 rw[List.length_append]at hwl
 have hdl:=XcI (u:=n.natAbs) (by unfold Xv at hn;omega)
 have ai:s4.size=w.length:=by rw[aa,B2]
 have et:(n<0→i0.tdiv 10= -((q/10:Nat):Int))∧(0≤n→i0.tdiv 10=((q/10:Nat):Int)):=⟨fun h=>Xif (hiN h),fun h=>XiM (hiP h)⟩
 have em:(n<0→i0.tmod 10= -((q% 10:Nat):Int))∧(0≤n→i0.tmod 10=((q% 10:Nat):Int)):=⟨fun h=>Xih (hiN h),fun h=>XiQ (hiP h)⟩
 have hn_:=hn
 unfold Xv at hn_
 conv=>cbv
 refine .neq (fun h3=>?_) fun h3=>?_
 conv=>cbv
 refine .remT fun v4 ak=>?_
 conv=>cbv
 refine .lss (fun h5=>?_) fun h5=>?_
 conv=>cbv
 refine .go fun v6 al=>?_
 conv=>cbv
 generalize ad:D6 v6=r7
 refine .dd hP (La (by omega) ad) ?_
 conv=>cbv
 refine .go (l:=[fig ((q% 10:Nat):Int)]) (by show[cB (fig _)]=_;rw[show((q% 10:Nat):Int)=v6 by omega,←Xci ad (by omega)]) (hn:=rfl) fun s8 ab=>?_
 conv=>cbv
 have ag:s8.size=1:=by rw[ab];rfl
 refine .go fun s9 ae am=>?_
 conv=>cbv
 refine .quoT fun ah aj=>?_
 conv=>cbv
 exact .go [] (ah,s9) (hJ _ ⟨q/10,fig ((q% 10:Nat):Int)::w,by first|(rw[ae,ab,aa,Dh];rfl)|(rw[ab,ac,aa,Dh];rfl),by rw[hw,Ot (show q≠0 by omega),List.append_assoc];rfl,by omega,by omega,by omega⟩ mlt)
 conv=>cbv
 generalize af:D6 v4=r6
 refine .dd hP (La (by omega) af) ?_
 conv=>cbv
 refine .go (l:=[fig ((q% 10:Nat):Int)]) (by show[cB (fig _)]=_;rw[show((q% 10:Nat):Int)=v4 by omega,←Xci af (by omega)]) (hn:=rfl) fun s7 ac=>?_
 conv=>cbv
 have an:s7.size=1:=by rw[ac];rfl
 refine .go fun s8 ab ag=>?_
 conv=>cbv
 refine .quoT fun v9 ao=>?_
 conv=>cbv
 exact .go [] (v9,s8) (hJ _ ⟨q/10,fig ((q% 10:Nat):Int)::w,by first|(rw[ae,ab,aa,Dh];rfl)|(rw[ab,ac,aa,Dh];rfl),by rw[hw,Ot (show q≠0 by omega),List.append_assoc];rfl,by omega,by omega,by omega⟩ mlt)
 conv=>cbv
 have e:s4=Bw n:=(by unfold Bw;rw[Xfl n h1,if_neg (by omega),hw,show q=0 by omega,aa];rfl)
 rw[hr]at e
 subst e
 exact hQ _ _ (.s rfl rfl)
end
section
open Go Go.Proofs
set_option maxRecDepth 20000
set_option maxHeartbeats 4000000
def XcJ:List (Nat×TyRow):=[ty3,ty36,ty41]
theorem Xbw:By Tryz.prog XcJ:=By.of (by kernel_rfl)
theorem Xd9:Setup Tryz.prog XcJ:=⟨Xbw,mixed⟩
def Bf(v s r:Int):Aa×Bool:=if(1≤v∧v≤2)∧(1≤s∧s≤20)∧(1≤r∧r≤50)then(⟨v,s,r,0,0,[],0,false,0⟩,true)else(⟨0,0,0,0,0,[],0,false,0⟩,false)
theorem Jt{v s r:Int}{w:Aa}{b:Bool}(e:Bf v s r=(w,b)):b=decide ((1≤v∧v≤2)∧(1≤s∧s≤20)∧(1≤r∧r≤50)):=by
 unfold Bf at e
 split at e
 ·rw[decide_eq_true (by assumption)];exact(congrArg Prod.snd e).symm
 ·rw[decide_eq_false (by assumption)];exact(congrArg Prod.snd e).symm
variable {v s r oaver oastr oarol oabas oalin oaend oacod:Int} {oaoff:List Int} {xoaoff:List (List D)} {oaope ob:Bool}
theorem Xbm(hr:Bf v s r=(⟨oaver,oastr,oarol,oabas,oalin,oaoff,oaend,oaope,oacod⟩,ob))(hoaoff:oaoff.map cI=xoaoff):Fn Tryz.prog 78 [I v,I s,I r] [] ⟨.tup [.agg [I oaver,I oastr,I oarol,I oabas,I oalin,.d (.row 1 xoaoff),I oaend,B oaope,I oacod],B ob],[],[]⟩:=by
 refine Fn.go Xd9 Tryz.func78 fun P hP Q hQ=>?_
 conv=>cbv
 generalize aa:Cn v=r1
 refine .dd hP (Kp aa) ?_
 cases r1
 simp only[Cn,decide_eq_true_eq,decide_eq_false_iff_not]at aa
 conv=>cbv
 have e:((⟨0,0,0,0,0,[],0,false,0⟩:Aa),false)=Bf v s r:=(by unfold Bf;rw[if_neg (by omega)])
 rw[hr]at e
 simp only[Prod.mk.injEq,Aa.mk.injEq]at e
 obtain⟨⟨rfl,rfl,rfl,rfl,rfl,rfl,rfl,rfl,rfl⟩,rfl⟩:=e
 refine hQ _ _ ?_
 exact .many (.inl rfl) rfl rfl (.agg (.d rfl rfl (.d rfl rfl (.d rfl rfl (.d rfl rfl (.d rfl rfl (.ref rfl rfl (by rw[←hoaoff];rfl) (.d rfl rfl (.d rfl rfl (.d rfl rfl (.nil)))))))))) (.d rfl rfl (.nil)))
 simp only[Cn,decide_eq_true_eq,decide_eq_false_iff_not]at aa
 conv=>cbv
 generalize ab:Bh s 1 20=r2
 refine .dd hP (Eb ab) ?_
 cases r2
 simp only[Bh,decide_eq_true_eq,decide_eq_false_iff_not]at ab
 conv=>cbv
 have e:((⟨0,0,0,0,0,[],0,false,0⟩:Aa),false)=Bf v s r:=(by unfold Bf;rw[if_neg (by omega)])
 rw[hr]at e
 simp only[Prod.mk.injEq,Aa.mk.injEq]at e
 obtain⟨⟨rfl,rfl,rfl,rfl,rfl,rfl,rfl,rfl,rfl⟩,rfl⟩:=e
 refine hQ _ _ ?_
 exact .many (.inl rfl) rfl rfl (.agg (.d rfl rfl (.d rfl rfl (.d rfl rfl (.d rfl rfl (.d rfl rfl (.ref rfl rfl (by rw[←hoaoff];rfl) (.d rfl rfl (.d rfl rfl (.d rfl rfl (.nil)))))))))) (.d rfl rfl (.nil)))
 simp only[Bh,decide_eq_true_eq,decide_eq_false_iff_not]at ab
 conv=>cbv
 generalize ac:Bh r 1 50=r3
 refine .dd hP (Eb ac) ?_
 cases r3
 simp only[Bh,decide_eq_true_eq,decide_eq_false_iff_not]at ac
 conv=>cbv
 have e:((⟨0,0,0,0,0,[],0,false,0⟩:Aa),false)=Bf v s r:=(by unfold Bf;rw[if_neg (by omega)])
 rw[hr]at e
 simp only[Prod.mk.injEq,Aa.mk.injEq]at e
 obtain⟨⟨rfl,rfl,rfl,rfl,rfl,rfl,rfl,rfl,rfl⟩,rfl⟩:=e
 refine hQ _ _ ?_
 exact .many (.inl rfl) rfl rfl (.agg (.d rfl rfl (.d rfl rfl (.d rfl rfl (.d rfl rfl (.d rfl rfl (.ref rfl rfl (by rw[←hoaoff];rfl) (.d rfl rfl (.d rfl rfl (.d rfl rfl (.nil)))))))))) (.d rfl rfl (.nil)))
 simp only[Bh,decide_eq_true_eq,decide_eq_false_iff_not]at ac
 conv=>cbv
 have e:((⟨v,s,r,0,0,[],0,false,0⟩:Aa),true)=Bf v s r:=(by unfold Bf;rw[if_pos (by omega)])
 rw[hr]at e
 simp only[Prod.mk.injEq,Aa.mk.injEq]at e
 obtain⟨⟨rfl,rfl,rfl,rfl,rfl,rfl,rfl,rfl,rfl⟩,rfl⟩:=e
 refine hQ _ _ ?_
 exact .many (.inl rfl) rfl rfl (.agg (.d rfl rfl (.d rfl rfl (.d rfl rfl (.d rfl rfl (.d rfl rfl (.ref rfl rfl (by rw[←hoaoff];rfl) (.d rfl rfl (.d rfl rfl (.d rfl rfl (.nil)))))))))) (.d rfl rfl (.nil)))
theorem Xa6(hr:Bf v s r=(⟨oaver,oastr,oarol,oabas,oalin,oaoff,oaend,oaope,oacod⟩,ob))(hoaoff:oaoff.map cI=xoaoff):Fn Tryz.prog 75 [I v,I s,I r] [] ⟨.tup [.agg [I oaver,I oastr,I oarol,I oabas,I oalin,.d (.row 1 xoaoff),I oaend,B oaope,I oacod],B ob],[],[]⟩:=by
 refine Fn.go Xd9 Tryz.func75 fun P hP Q hQ=>?_
 conv=>cbv
 generalize aa:A8 v 1 2=r1
 refine .dd hP (Cy aa) ?_
 cases r1
 simp only[A8,decide_eq_true_eq,decide_eq_false_iff_not]at aa
 conv=>cbv
 have e:((⟨0,0,0,0,0,[],0,false,0⟩:Aa),false)=Bf v s r:=(by unfold Bf;rw[if_neg (by omega)])
 rw[hr]at e
 simp only[Prod.mk.injEq,Aa.mk.injEq]at e
 obtain⟨⟨rfl,rfl,rfl,rfl,rfl,rfl,rfl,rfl,rfl⟩,rfl⟩:=e
 refine hQ _ _ ?_
 exact .many (.inl rfl) rfl rfl (.agg (.d rfl rfl (.d rfl rfl (.d rfl rfl (.d rfl rfl (.d rfl rfl (.ref rfl rfl (by rw[←hoaoff];rfl) (.d rfl rfl (.d rfl rfl (.d rfl rfl (.nil)))))))))) (.d rfl rfl (.nil)))
 simp only[A8,decide_eq_true_eq,decide_eq_false_iff_not]at aa
 conv=>cbv
 generalize ab:A8 s 1 20=r2
 refine .dd hP (Cy ab) ?_
 cases r2
 simp only[A8,decide_eq_true_eq,decide_eq_false_iff_not]at ab
 conv=>cbv
 have e:((⟨0,0,0,0,0,[],0,false,0⟩:Aa),false)=Bf v s r:=(by unfold Bf;rw[if_neg (by omega)])
 rw[hr]at e
 simp only[Prod.mk.injEq,Aa.mk.injEq]at e
 obtain⟨⟨rfl,rfl,rfl,rfl,rfl,rfl,rfl,rfl,rfl⟩,rfl⟩:=e
 refine hQ _ _ ?_
 exact .many (.inl rfl) rfl rfl (.agg (.d rfl rfl (.d rfl rfl (.d rfl rfl (.d rfl rfl (.d rfl rfl (.ref rfl rfl (by rw[←hoaoff];rfl) (.d rfl rfl (.d rfl rfl (.d rfl rfl (.nil)))))))))) (.d rfl rfl (.nil)))
 simp only[A8,decide_eq_true_eq,decide_eq_false_iff_not]at ab
 conv=>cbv
 generalize ac:A8 r 1 50=r3
 refine .dd hP (Cy ac) ?_
 cases r3
 simp only[A8,decide_eq_true_eq,decide_eq_false_iff_not]at ac
 conv=>cbv
 have e:((⟨0,0,0,0,0,[],0,false,0⟩:Aa),false)=Bf v s r:=(by unfold Bf;rw[if_neg (by omega)])
 rw[hr]at e
 simp only[Prod.mk.injEq,Aa.mk.injEq]at e
 obtain⟨⟨rfl,rfl,rfl,rfl,rfl,rfl,rfl,rfl,rfl⟩,rfl⟩:=e
 refine hQ _ _ ?_
 exact .many (.inl rfl) rfl rfl (.agg (.d rfl rfl (.d rfl rfl (.d rfl rfl (.d rfl rfl (.d rfl rfl (.ref rfl rfl (by rw[←hoaoff];rfl) (.d rfl rfl (.d rfl rfl (.d rfl rfl (.nil)))))))))) (.d rfl rfl (.nil)))
 simp only[A8,decide_eq_true_eq,decide_eq_false_iff_not]at ac
 conv=>cbv
 have e:((⟨v,s,r,0,0,[],0,false,0⟩:Aa),true)=Bf v s r:=(by unfold Bf;rw[if_pos (by omega)])
 rw[hr]at e
 simp only[Prod.mk.injEq,Aa.mk.injEq]at e
 obtain⟨⟨rfl,rfl,rfl,rfl,rfl,rfl,rfl,rfl,rfl⟩,rfl⟩:=e
 refine hQ _ _ ?_
 exact .many (.inl rfl) rfl rfl (.agg (.d rfl rfl (.d rfl rfl (.d rfl rfl (.d rfl rfl (.d rfl rfl (.ref rfl rfl (by rw[←hoaoff];rfl) (.d rfl rfl (.d rfl rfl (.d rfl rfl (.nil)))))))))) (.d rfl rfl (.nil)))
end
section
open Go Go.Proofs
set_option maxRecDepth 20000
set_option maxHeartbeats 4000000
open Go.Lib
open Go.RowKit
abbrev zE:Value:=.agg #[.string ⟨#[]⟩,.int .i64 0]
theorem XdF:∃i,Tryz.prog.info? 133=some i∧i.zero=some zE∧i.size=2∧i.bytes=24:=by
 have h:(Tryz.prog.info? 133).map (fun i=>(i.zero,i.size,i.bytes))=some (some zE,2,24):=by kernel_rfl
 obtain⟨i,hi,h⟩:=Option.map_eq_some_iff.1 h
 simp only[Prod.mk.injEq]at h
 exact⟨i,hi,h.1,h.2.1,h.2.2⟩
theorem S6{w:World}{b o:Nat}{vs:List Value}{N:Nat}(h:∀j,j<N→(w.cell? ⟨b,j,none⟩).isSome=true)(hle:o+vs.length≤N):∀j,j<N→((w.setCells b o vs).cell? ⟨b,j,none⟩).isSome=true:=
 fun j hj=>isSome_setCells b _ _ _ (fun t ht=>h _ (by omega)) _ (h _ hj)
theorem XiL(w:World)(ty b o c:Nat)(hc:∀j,j<2→(w.cell? ⟨b,o+j,none⟩).isSome=true)(hf:∀j,j<2→w.frozen? ⟨b,o+j,none⟩=false):
  (Builtin.clear_ #[38] ty #[.slice (some ⟨b,o,none⟩) 1 c]).run Tryz.prog w= .ok (.tuple #[]) (w.setCells b o [.string ⟨#[]⟩,.int .i64 0]):=by
 obtain⟨i,hi,hz,hs,_⟩:=XdF
 have hst:=run_storeCells_cells (P:=Tryz.prog) b o [.string ⟨#[]⟩,.int .i64 0] 0 w (by simpa using hc) (by simpa using hf) (by intro v hv;simp at hv;rcases hv with rfl|rfl<;>rfl)
 simp only[Nat.add_zero]at hst
 have hzc:(Builtin.zeroCells zE.cells 1).toList=[.string ⟨#[]⟩,.int .i64 0]:=by simp[Builtin.zeroCells,Value.cells,List.range_succ]
 simp[Builtin.clear_,run_underlying Tryz.underlying38,zeroValue,typeInfo,hi,hz,hzc,hst]
theorem delE(b n cap i j:Nat)(w:World)(cs:List Value)(hi:i<n)(hj:j=i+1)(hnc:n≤cap)(hm:n≤4000000000)(hcl:cs.length=n*2)(h1c:∀u∈cs,u.oneCell'=true)
  (hcs:∀j v,cs[j]? =some v→w.cell? ⟨b,j,none⟩=some v)(hfz:∀j,j<n*2→w.frozen? ⟨b,j,none⟩=false):
  Calls Tryz.prog 308 #[.slice (some ⟨b,0,none⟩) n cap,.int .i64 i,.int .i64 j] w fun e w'=>e= .returned (.slice (some ⟨b,0,none⟩) (n - 1) cap)∧
   w'=(w.drew.setCells b (i*2) (cs.drop (j*2))).setCells b ((n - 1)*2) [.string ⟨#[]⟩,.int .i64 0]:=by
 obtain⟨i0,aa,ac,ab,ad⟩:=XdF
 have hlen:(cs.drop (j*2)).length=(n - j)*2:=by rw[List.length_drop];omega
 obtain⟨A,hA,hsrc⟩:∃A:Addr,(if cap=j then some (⟨b,0,none⟩:Addr)else some ⟨b,j*2,none⟩)=some A∧Hid (∀t u,(cs.drop (j*2))[t]? =some u→w.drew.cell? (A.add t)=some u):=by
  by_cases h:cap=j
  ·refine⟨⟨b,0,none⟩,by simp[h],fun t u hu=>?_⟩
   have h0:(cs.drop (j*2)).length=0:=by omega
   rw[List.length_eq_zero_iff.1 h0]at hu
   simp at hu
  ·refine⟨⟨b,j*2,none⟩,by simp[h],fun t u hu=>?_⟩
   rw[List.getElem?_drop]at hu
   rw[Addr.add_lit]
   exact hcs _ _ hu
 have s1:Hid ((cs.drop (j*2)).length=(n - j)*2):=hlen
 have s2:Hid (∀u∈cs.drop (j*2),u.oneCell'=true):=fun u hu=>h1c u (List.mem_of_mem_drop hu)
 have hsome:∀j,j<n*2→(w.cell? ⟨b,j,none⟩).isSome=true:=fun j hj=>by rw[hcs j _ (List.getElem?_eq_getElem (by omega))];rfl
 have s3:Hid (∀t,t<(cs.drop (j*2)).length→(w.drew.cell? ⟨b,0+i*2+t,none⟩).isSome=true∧w.drew.frozen? ⟨b,0+i*2+t,none⟩=false):=by
  intro t ht
  exact⟨hsome _ (by omega),hfz _ (by omega)⟩
 obtain⟨W1,hW1⟩:∃W1,W1=w.drew.setCells b (0+i*2) (cs.drop (j*2)):=⟨_,rfl⟩
 have hcl:∀ty,(Builtin.clear_ #[38] ty #[.slice (some ⟨b,(i+(n - j))*2,none⟩) (n - (i+(n - j))) (cap - (i+(n - j)))]).run Tryz.prog W1= .ok (.tuple #[]) (W1.setCells b ((n - 1)*2) [.string ⟨#[]⟩,.int .i64 0]):=fun ty=>by
  rw[show n - (i+(n - j))=1 by omega,show i+(n - j)=n - 1 by omega]
  refine XiL W1 ty b ((n - 1)*2) _ (fun k hk=>?_) (fun k hk=>?_)
  ·rw[hW1]
   exact S6 (w:=w.drew) hsome (by omega) _ (by omega)
  ·rw[hW1,World.frozen?_setCells]
   exact hfz _ (by omega)
 have hW:Hid (W1=w.drew.setCells b (0+i*2) (cs.drop (j*2))):=hW1
 have hic:i≤cap:=by omega
 have hjc:j≤cap:=by omega
 have hij:i≤j:=by omega
 have hjn:j≤n:=by omega
 have hne:¬(i:Int)=(j:Int):=by omega
 have mixed:Tryz.prog.follows .mixedOrders=true:=by kernel_rfl
 have hjH:Hid (j=i+1):=hj
 have hjl:i<j:=by omega
 clear hj hW1 hlen hsome hcs hfz
 go_enter Tryz.func308,Tryz.ntmps308
 go_wp2_with fail
 go_region_law_o (refine step_append_room rfl (.tmp 22) (.tmp 25) 38 rfl 133 i0 2 Tryz.underlying38 aa ab b 0 i cap (by simp[Act.eval,Act.put]) A (n - j) (cap - j) (cs.drop (j*2)) (by simp[Act.eval,Act.put]) s1.out hsrc.out s2.out (by omega) s3.out ?_;rw[←hW.out])
 go_wp2
 go_ret
 refine⟨by have:=hjH.out;rw[show n - 1=i+(n - j)by omega];rfl,?_⟩
 rw[hW.out,Nat.zero_add]
theorem G3{P:Program}(w:World)(dT sT ty elem sz:TypeId)(b o dLen dCap:Nat)(a:Addr)(Xhp sCap:Nat)(cs:List Value)
  (hu:P.underlying dT=some (.slice elem))(hs:(P.info? elem).map (·.size)=some sz)(hn:cs.length=Nat.min Xhp dLen*sz)
  (hsrc:∀j v,cs[j]? =some v→w.cell? (a.add j)=some v)(hc:∀j,j<cs.length→(w.cell? ⟨b,o+j,none⟩).isSome=true)(hf:∀j,j<cs.length→w.frozen? ⟨b,o+j,none⟩=false)(h1:∀v∈cs,v.oneCell'=true):
  (Builtin.copy_ #[dT,sT] ty #[.slice (some ⟨b,o,none⟩) dLen dCap,.slice (some a) Xhp sCap]).run P w= .ok (goInt (Nat.min Xhp dLen)) (w.setCells b o cs):=by
 have hl:=run_loadCells_list (P:=P) w a cs hsrc
 have hst:=run_storeCells_cells (P:=P) b o cs 0 w (by simpa using hc) (by simpa using hf) h1
 cases hq:P.info? elem with
 |none=>simp[hq]at hs
 |some i=>
  have hi:i.size=sz:=by simpa[hq]using hs
  simp[Builtin.copy_,run_underlying hu,Builtin.lenOf,Builtin.firstCells,sizeOf,typeInfo,hq,hi,←hn,hl,hst]
theorem szE:(Tryz.prog.info? 133).map (·.size)=some 2:=by kernel_rfl
theorem Xc4(b n c i vb vc:Nat)(cs vs:List Value)(w:World)(hi:i<n)(hroom:n+1≤c)(hm:n≤4000000000)(hvb:vb≠b)
  (hcl:cs.length=n*2)(hvl:vs.length=2)
  (hcs:∀j v,cs[j]? =some v→w.cell? ⟨b,j,none⟩=some v)(hsp:∀j,j<(n+1)*2→(w.cell? ⟨b,j,none⟩).isSome=true)(hfz:∀j,j<(n+1)*2→w.frozen? ⟨b,j,none⟩=false)
  (hvs:∀j v,vs[j]? =some v→w.cell? ⟨vb,j,none⟩=some v)(h1c:∀v∈cs,v.oneCell'=true)(h1v:∀v∈vs,v.oneCell'=true)
  (tA tB:TypeId)(kA kB:Nat)(hsa:w.shape? vb=some (tA,kA))(hsb:w.shape? b=some (tB,kB))(hkB:kB≠0)(hfa:w.frozen? ⟨vb,0,none⟩=false)(hfe:w.frozen? ⟨vb,kA,none⟩=false):
  Calls Tryz.prog 307 #[.slice (some ⟨b,0,none⟩) n c,.int .i64 i,.slice (some ⟨vb,0,none⟩) 1 vc] w fun e w'=>
   e= .returned (.slice (some ⟨b,0,none⟩) (n+1) c)∧w'=(w.drew.setCells b ((i+1)*2) (cs.drop (i*2))).setCells b (i*2) vs:=by
 have ab:¬((i:Int)=(n:Int)):=by omega
 have hsz:=szE
 obtain⟨i0,aa,ac,hzs,hzb⟩:=XdF
 have hszo:∀w,(Go.sizeOf 133).run Tryz.prog w= .ok 2 w:=fun w=>by simp[Go.sizeOf,typeInfo,aa,hzs]
 have hov:∀lb cb,(callFunc 332 #[.slice (some ⟨vb,0,none⟩) 1 vc,.slice (some ⟨b,(i+1)*2,none⟩) lb cb]).run Tryz.prog w= .ok (.value (.bool false)) w:=fun lb cb=>by
  rw[run_callFunc_extern Tryz.func332 (by kernel_rfl) (by kernel_rfl) (by kernel_rfl) (e:=Extern.SlicesOverlaps.overlaps #[38,38] #[4]) (by kernel_rfl),
   Lib.run_overlaps_apart w 38 4 133 Tryz.underlying38 2 hszo ⟨vb,0,none⟩ ⟨b,(i+1)*2,none⟩ 1 vc lb cb hvb tA tB kA kB hsa hsb hkB hfa hfe]
  rfl
 have hdl:(cs.drop (i*2)).length=(n - i)*2:=by rw[List.length_drop,hcl];omega
 have mixed:Tryz.prog.follows .mixedOrders=true:=by kernel_rfl
 have ad:IntKind.i64.wrap ((i:Int)+1)=(i:Int)+1:=by rw[IntKind.wrap_i64];omega
 have ae:(0:Int)≤(i:Int)+1:=by omega
 have hin:i≤n:=by omega
 have htn:((i:Int)+1).toNat=i+1:=by omega
 have hb2:¬(c=i+1):=by omega
 have af:(i:Int)≤(n:Int)+1:=by omega
 have ag:¬(c=i):=by omega
 have hcp1:∀ty dc sc,(Builtin.copy_ #[38,38] ty #[.slice (some ⟨b,(i+1)*2,none⟩) (n - i) dc,.slice (some ⟨b,i*2,none⟩) (n+1 - i) sc]).run Tryz.prog w.drew= .ok (goInt (Nat.min (n+1 - i) (n - i))) (w.drew.setCells b ((i+1)*2) (cs.drop (i*2))):=fun ty dc sc=>
  G3 w.drew _ _ ty 133 2 b ((i+1)*2) (n - i) dc ⟨b,i*2,none⟩ (n+1 - i) sc (cs.drop (i*2)) Tryz.underlying38 hsz (by rw[hdl];simp only[Nat.min_def];split<;>omega)
   (fun j v hj=>by rw[Addr.add_lit];exact hcs (i*2+j) v (by rwa[List.getElem?_drop]at hj))
   (fun j hj=>hsp _ (by omega)) (fun j hj=>hfz _ (by omega)) (fun v hv=>h1c v (List.mem_of_mem_drop hv))
 obtain⟨W1,hW1⟩:∃W1,W1=w.drew.setCells b ((i+1)*2) (cs.drop (i*2)):=⟨_,rfl⟩
 have hsp1:∀k,k<(n+1)*2→(W1.cell? ⟨b,k,none⟩).isSome=true:=fun k hk=>by
  rw[hW1]
  exact S6 (w:=w.drew) hsp (by omega) _ hk
 have hcp2:∀(W:World),(∀x,W.cell? x=W1.cell? x)→(∀x,W.frozen? x=W1.frozen? x)→∀ty dc,(Builtin.copy_ #[38,38] ty #[.slice (some ⟨b,i*2,none⟩) (n+1 - i) dc,.slice (some ⟨vb,0,none⟩) 1 vc]).run Tryz.prog W= .ok (goInt (Nat.min 1 (n+1 - i))) (W.setCells b (i*2) vs):=fun W hWc hWf ty dc=>
  G3 W _ _ ty 133 2 b (i*2) (n+1 - i) dc ⟨vb,0,none⟩ 1 vc vs Tryz.underlying38 hsz (by rw[hvl];simp only[Nat.min_def];split<;>omega)
   (fun j v hj=>by
    rw[Addr.add_lit,hWc,hW1,World.cell?_setCells_out b _ _ _ _ (fun h _=>absurd h hvb),Nat.zero_add]
    exact hvs j v hj)
   (fun j hj=>by rw[hWc];exact hsp1 _ (by omega)) (fun j hj=>by rw[hWf,hW1,World.frozen?_setCells];exact hfz _ (by omega)) h1v
 rw[←hW1]at hcp1
 go_enter Tryz.func307,Tryz.ntmps307
 go_wp2_with (simp only[hov])
 go_region_law_o (refine step_copy_runI rfl _ _ 38 38 rfl _ _ (by simp[Act.eval,Act.put]) (by simp[Act.eval,Act.put]) (hcp1 _ _ _) ?_)
 go_wp2_with (at_builtin;refine wpList_copy_runI _ rfl _ _ 38 38 rfl _ _ rfl rfl (hcp2 _ (fun _=>rfl) (fun _=>rfl) _ _) ?_)
 go_ret
 first|exact⟨rfl,rfl⟩|exact⟨rfl,by rw[hW1]⟩
theorem XiO{need old:Nat}(h:old<need)(hb:need≤1000000000*8):Builtin.nextslicecap need old*24≤281474976710656:=by
 have:=Ui h
 have:=Nat.mul_le_mul_right 24 this
 omega
theorem Xk(b n c vb vc:Nat)(vs:List Value)(w:World)(hroom:n+1≤c)(hm:n≤4000000000)
  (hvl:vs.length=2)(hsp:∀j,j<2→(w.cell? ⟨b,n*2+j,none⟩).isSome=true)(hfz:∀j,j<2→w.frozen? ⟨b,n*2+j,none⟩=false)
  (hvs:∀j v,vs[j]? =some v→w.cell? ⟨vb,j,none⟩=some v)(h1v:∀v∈vs,v.oneCell'=true):
  Calls Tryz.prog 307 #[.slice (some ⟨b,0,none⟩) n c,.int .i64 n,.slice (some ⟨vb,0,none⟩) 1 vc] w fun e w'=>
   e= .returned (.slice (some ⟨b,0,none⟩) (n+1) c)∧w'=w.setCells b (n*2) vs:=by
 obtain⟨i0,aa,ab,hzs,hzb⟩:=XdF
 have hsrc:Go.Src Tryz.prog i0.size 38 (.slice (some ⟨vb,0,none⟩) 1 vc) 1 vs w:=by
  rw[hzs]
  exact Go.Src.ofSlice w Tryz.underlying38 ⟨vb,0,none⟩ 1 vc vs (by omega) (fun j u hj=>by rw[Addr.add_lit,Nat.zero_add];exact hvs j u hj) h1v
 have hrun:∀ty,(Builtin.append_ #[38,38] ty #[.slice (some ⟨b,0,none⟩) n c,.slice (some ⟨vb,0,none⟩) 1 vc]).run Tryz.prog w= .ok (.slice (some ⟨b,0,none⟩) (n+1) c) (w.setCells b (n*2) vs):=fun ty=>by
  have h:=run_append_room_src w 38 38 ty 133 i0 Tryz.underlying38 aa b 0 n c _ 1 vs hsrc hroom (fun j hj=>by rw[hzs,Nat.zero_add];exact hsp j (by omega)) (fun j hj=>by rw[hzs,Nat.zero_add];exact hfz j (by omega))
  rw[hzs,Nat.zero_add]at h
  exact h
 go_enter Tryz.func307,Tryz.ntmps307
 go_wp2_with (at_builtin;refine Lib.wpList_append_run _ rfl _ _ _ _ rfl _ _ rfl rfl _ _ (hrun _) ?_)
 go_ret
 exact⟨rfl,rfl⟩
theorem Ox(base:Option Addr)(n c vb vc:Nat)(cs vs:List Value)(w:World)(hnc:n≤c)(hroom:c<n+1)(hbig:n≤4000000000)
  (hcl:cs.length=n*2)(hvl:vs.length=2)(hnil:base=none→n=0)
  (hcs:∀a,base=some a→∀j v,cs[j]? =some v→w.cell? (a.add j)=some v)
  (hvs:∀j v,vs[j]? =some v→w.cell? ⟨vb,j,none⟩=some v)(h1v:∀v∈vs,v.oneCell'=true):
  Calls Tryz.prog 307 #[.slice base n c,.int .i64 n,.slice (some ⟨vb,0,none⟩) 1 vc] w fun e w'=>
   e= .returned (.slice (some ⟨w.heap.size,0,none⟩) (n+1) (grownCap w (n+1) c 133))∧
   w'=w.drew.alloc (.cells ((cs++vs).toArray++Builtin.zeroCells zE.cells (grownCap w (n+1) c 133 - (n+1))) 133):=by
 obtain⟨i0,aa,ac,hzs,hzb⟩:=XdF
 have hsrc:Go.Src Tryz.prog i0.size 38 (.slice (some ⟨vb,0,none⟩) 1 vc) 1 vs w:=by
  rw[hzs]
  exact Go.Src.ofSlice w Tryz.underlying38 ⟨vb,0,none⟩ 1 vc vs (by omega) (fun j u hj=>by rw[Addr.add_lit,Nat.zero_add];exact hvs j u hj) h1v
 have hold:(Builtin.firstCells i0.size n (.slice base n c)).run Tryz.prog w.drew= .ok cs.toArray w.drew:=by
  rw[hzs]
  cases base with
  |none=>
   have h0:=hnil rfl
   subst h0
   rw[List.length_eq_zero_iff.1 hcl]
   exact run_firstCells_none w.drew 2 0 0 c
  |some a=>exact run_firstCells_some w.drew 2 n a n c cs (by omega) (fun j v hj=>hcs a rfl j v hj)
 have hrun:∀ty,(Builtin.append_ #[38,38] ty #[.slice base n c,.slice (some ⟨vb,0,none⟩) 1 vc]).run Tryz.prog w=_:=fun ty=>
  run_append_grow_src w 38 38 ty 133 i0 _ Tryz.underlying38 aa ac base n c cs hold _ 1 vs hsrc hroom (by omega) (by rw[hzb];exact XiO hroom (by omega))
 go_enter Tryz.func307,Tryz.ntmps307
 cases base with
 |none=>
  have h0:=hnil rfl
  subst h0
  go_wp2_with (at_builtin;refine Lib.wpList_append_run _ rfl _ _ _ _ rfl _ _ rfl rfl _ _ (hrun _) ?_)
  go_ret
  exact⟨rfl,rfl⟩
 |some a=>
  obtain⟨ab,ao,asp⟩:=a
  go_wp2_with (at_builtin;refine Lib.wpList_append_run _ rfl _ _ _ _ rfl _ _ rfl rfl _ _ (hrun _) ?_)
  all_goals (go_ret;exact⟨rfl,rfl⟩)
theorem Xfy(b n c i vb vc:Nat)(cs vs:List Value)(w:World)(hi:i<n)(hnc:n≤c)(hroom:c<n+1)(hbig:n≤4000000000)
  (hcl:cs.length=n*2)(hvl:vs.length=2)
  (hcs:∀j v,cs[j]? =some v→w.cell? ⟨b,j,none⟩=some v)
  (hvs:∀j v,vs[j]? =some v→w.cell? ⟨vb,j,none⟩=some v)(h1c:∀v∈cs,v.oneCell'=true)(h1v:∀v∈vs,v.oneCell'=true):
  Calls Tryz.prog 307 #[.slice (some ⟨b,0,none⟩) n c,.int .i64 i,.slice (some ⟨vb,0,none⟩) 1 vc] w fun e w'=>
   e= .returned (.slice (some ⟨w.heap.size,0,none⟩) (n+1) (grownCap w (n+1) c 133))∧
   w'=(((w.alloc (.cells ((cs.take (i*2)).toArray++Builtin.zeroCells zE.cells (n+1 - i)++Builtin.zeroCells zE.cells (grownCap w (n+1) c 133 - (n+1))) 133)).drew.setCells w.heap.size (i*2) vs).drew).setCells w.heap.size ((i+1)*2) (cs.drop (i*2)):=by
 have mixed:Tryz.prog.follows .mixedOrders=true:=by kernel_rfl
 obtain⟨i0,aa,ab,hzs,hzb⟩:=XdF
 have ac:¬((i:Int)=(n:Int)):=by omega
 have ad:(c:Int)<(n:Int)+1:=by omega
 have hsz:=szE
 have hbw:b<w.heap.size:=block_lt_of_cell (hcs 0 _ (List.getElem?_eq_getElem (by omega)))
 have hvw:vb<w.heap.size:=block_lt_of_cell (hvs 0 _ (List.getElem?_eq_getElem (by omega)))
 have hkk:(n:Int)+1 - (i:Int)=((n+1 - i:Nat):Int):=by omega
 have hik:i+(n+1 - i)=n+1:=by omega
 have hold:(Builtin.firstCells i0.size i (.slice (some ⟨b,0,none⟩) i c)).run Tryz.prog w.drew= .ok (cs.take (i*2)).toArray w.drew:=by
  rw[hzs]
  exact run_firstCells_some w.drew 2 i ⟨b,0,none⟩ i c (cs.take (i*2)) (by rw[List.length_take];omega) (fun j v hj=>by
   rw[Addr.add_lit,Nat.zero_add]
   rw[List.getElem?_take]at hj
   split at hj
   ·exact hcs j v hj
   ·cases hj)
 have hrz:∀ty,(Builtin.append_ #[38,3] ty #[.slice (some ⟨b,0,none⟩) i c,.int .i64 ((n:Int)+1 - (i:Int))]).run Tryz.prog w=
   .ok (.slice (some ⟨w.heap.size,0,none⟩) (n+1) (grownCap w (n+1) c 133)) (w.drew.alloc (.cells ((cs.take (i*2)).toArray++Builtin.zeroCells zE.cells (n+1 - i)++Builtin.zeroCells zE.cells (grownCap w (n+1) c 133 - (n+1))) 133)):=fun ty=>by
  have h:=Lib.run_append_grow_zeros w 38 3 ty 133 i0 _ .i64 .i64 Tryz.underlying38 Tryz.underlying3 aa ab (some ⟨b,0,none⟩) i c (cs.take (i*2)) hold (n+1 - i) (by omega) (by omega) (by omega) (by omega) (by rw[hzb];omega) (by rw[hzb,hik];exact XiO hroom (by omega))
  rw[hik]at h
  rw[hkk]
  exact h
 obtain⟨G,hG⟩:∃G,G=grownCap w (n+1) c 133:=⟨_,rfl⟩
 obtain⟨ROW,hROW⟩:∃ROW:Array Value,ROW=(cs.take (i*2)).toArray++Builtin.zeroCells zE.cells (n+1 - i)++Builtin.zeroCells zE.cells (G - (n+1)):=⟨_,rfl⟩
 rw[←hG]at hrz⊢
 rw[←hROW]at hrz⊢
 have hRl:(n+1)*2≤ROW.size:=by
  rw[hROW]
  simp[Builtin.zeroCells,Value.cells]
  omega
 obtain⟨W1,hW1⟩:∃W1,W1=w.drew.alloc (.cells ROW 133):=⟨_,rfl⟩
 rw[←hW1]at hrz
 have hN:∀j,j<(n+1)*2→(W1.cell? ⟨w.heap.size,j,none⟩).isSome=true:=fun j hj=>by
  rw[hW1,World.cell?_alloc_at (w:=w.drew) ROW _ w.heap.size j rfl,Array.getElem?_eq_getElem (by omega)];rfl
 have hNf:∀j,W1.frozen? ⟨w.heap.size,j,none⟩=false:=fun j=>by rw[hW1];exact World.frozen?_alloc_at (w:=w.drew) ROW _ w.heap.size j rfl
 have hOb:∀j v,w.cell? ⟨b,j,none⟩=some v→W1.cell? ⟨b,j,none⟩=some v:=fun j v h=>by rw[hW1,World.cell?_alloc_past (w:=w.drew) _ b j hbw];exact h
 have hOv:∀j v,w.cell? ⟨vb,j,none⟩=some v→W1.cell? ⟨vb,j,none⟩=some v:=fun j v h=>by rw[hW1,World.cell?_alloc_past (w:=w.drew) _ vb j hvw];exact h
 have hcpA:∀(W:World),(∀x,W.cell? x=W1.cell? x)→(∀x,W.frozen? x=W1.frozen? x)→∀ty dc,(Builtin.copy_ #[38,38] ty #[.slice (some ⟨w.heap.size,i*2,none⟩) (n+1 - i) dc,.slice (some ⟨vb,0,none⟩) 1 vc]).run Tryz.prog W= .ok (goInt (Nat.min 1 (n+1 - i))) (W.setCells w.heap.size (i*2) vs):=fun W hWc hWf ty dc=>
  G3 W _ _ ty 133 2 w.heap.size (i*2) (n+1 - i) dc ⟨vb,0,none⟩ 1 vc vs Tryz.underlying38 hsz (by rw[hvl];simp only[Nat.min_def];split<;>omega)
   (fun j v hj=>by rw[Addr.add_lit,hWc,Nat.zero_add];exact hOv _ v (hvs j v hj))
   (fun j hj=>by rw[hWc];exact hN _ (by omega)) (fun j hj=>by rw[hWf];exact hNf _) h1v
 have hGn:n+1≤G:=by rw[hG];exact grownCap_ge w _ _ _
 have hG63:G≤9223372036854775807:=by
  have:=grownCap_le_maxLen w (n+1) c 133 (by unfold maxLen;omega)
  rw[←hG]at this
  unfold maxLen at this
  omega
 have hGi:¬(G=i):=by omega
 have hGim:¬(G=i+1):=by omega
 have hci:¬(c=i):=by omega
 have hbN:b≠w.heap.size:=by omega
 have hdl:(cs.drop (i*2)).length=(n - i)*2:=by rw[List.length_drop,hcl];omega
 have hcpB:∀(W:World),(∀x,W.cell? x=(W1.setCells w.heap.size (i*2) vs).cell? x)→(∀x,W.frozen? x=(W1.setCells w.heap.size (i*2) vs).frozen? x)→∀ty dc sc,(Builtin.copy_ #[38,38] ty #[.slice (some ⟨w.heap.size,(i+1)*2,none⟩) (n - i) dc,.slice (some ⟨b,i*2,none⟩) (n - i) sc]).run Tryz.prog W= .ok (goInt (Nat.min (n - i) (n - i))) (W.setCells w.heap.size ((i+1)*2) (cs.drop (i*2))):=fun W hWc hWf ty dc sc=>
  G3 W _ _ ty 133 2 w.heap.size ((i+1)*2) (n - i) dc ⟨b,i*2,none⟩ (n - i) sc (cs.drop (i*2)) Tryz.underlying38 hsz (by rw[hdl];simp only[Nat.min_def];split<;>omega)
   (fun j v hj=>by
    rw[Addr.add_lit,hWc,World.cell?_setCells_out _ _ _ _ _ (fun h _=>absurd h hbN)]
    exact hOb _ v (hcs (i*2+j) v (by rwa[List.getElem?_drop]at hj)))
   (fun j hj=>by rw[hWc];exact S6 (w:=W1) hN (by omega) _ (by omega))
   (fun j hj=>by rw[hWf,World.frozen?_setCells];exact hNf _) (fun v hv=>h1c v (List.mem_of_mem_drop hv))
 subst hW1
 have hE1:∀x,((w.alloc (.cells ROW 133)).drew).cell? x=(w.drew.alloc (.cells ROW 133)).cell? x:=fun x=>rfl
 have hE2:∀x,((w.alloc (.cells ROW 133)).drew).frozen? x=(w.drew.alloc (.cells ROW 133)).frozen? x:=fun x=>rfl
 have hF1:∀x,(((w.alloc (.cells ROW 133)).drew.setCells w.heap.size (i*2) vs).drew).cell? x=((w.drew.alloc (.cells ROW 133)).setCells w.heap.size (i*2) vs).cell? x:=fun x=>rfl
 have hF2:∀x,(((w.alloc (.cells ROW 133)).drew.setCells w.heap.size (i*2) vs).drew).frozen? x=((w.drew.alloc (.cells ROW 133)).setCells w.heap.size (i*2) vs).frozen? x:=fun x=>rfl
 have ae:IntKind.i64.wrap ((i:Int)+1)=(i:Int)+1:=by rw[IntKind.wrap_i64];omega
 have af:(0:Int)≤(i:Int)+1:=by omega
 have hin:i≤n:=by omega
 have htn:((i:Int)+1).toNat=i+1:=by omega
 have ag:(i:Int)≤(n:Int):=by omega
 clear hkk hik hold hROW hG hRl
 go_enter Tryz.func307,Tryz.ntmps307
 go_wp2_with (first
  |(at_builtin;refine Lib.wpList_append_run _ rfl _ _ _ _ rfl _ _ rfl rfl _ _ (hrz _) ?_)
  |(at_builtin;refine wpList_copy_runI _ rfl _ _ 38 38 rfl _ _ rfl rfl (hcpA _ hE1 hE2 _ _) ?_)
  |(at_builtin;refine wpList_copy_runI _ rfl _ _ 38 38 rfl _ _ rfl rfl (hcpB _ (fun _=>rfl) (fun _=>rfl) _ _ _) ?_))
 go_region_law_o (refine step_copy_runI rfl _ _ 38 38 rfl (.slice (some ⟨w.heap.size,(i+1)*2,none⟩) (n - i) (G - (i+1))) (.slice (some ⟨b,i*2,none⟩) (n - i) (c - i)) (by simp[Act.eval,Act.put]) (by simp[Act.eval,Act.put]) (hcpB _ hF1 hF2 3 (G - (i+1)) (c - i)) ?_)
 go_wp2
 go_ret
 exact⟨rfl,rfl⟩
theorem Wrote.trans{w w1 w2:World}{b:Nat}{cs c1 c2:Array Value}{t:TypeId}{fr:Nat×Nat}(h:Wrote w w1 b cs c1 t fr)(k:Wrote w1 w2 b c1 c2 t fr):Wrote w w2 b cs c2 t fr:=
 ⟨k.at_,k.size.trans h.size,fun x hx=>(k.others x hx).trans (h.others x hx),k.hsize.trans h.hsize,k.os.trans h.os,k.output.trans h.output,k.tape.trans h.tape⟩
theorem Wrote.ofDrew{w w1:World}{b:Nat}{cs c1:Array Value}{t:TypeId}{fr:Nat×Nat}(h:Wrote w.drew w1 b cs c1 t fr):Wrote w w1 b cs c1 t fr:=
 ⟨h.at_,h.size,h.others,h.hsize,h.os,h.output,h.tape⟩
theorem Xff{c:Ctx}{E:Env}(hM:Mem c E){r n sz:Nat}{xs:List (List D)}{v:Value}(hr:E.rt r=some (.row sz false xs))(hp:E.pres r)(hv:RelAV E (.ref r 0 n) v)(hn:n=xs.length)(hsz:0<sz):
  (n=0∧∃a,v= .slice a 0 0)∨∃b cap cs t fr,v= .slice (some ⟨b,0,none⟩) n cap∧E.β r=some b∧E.w.heap[b]? =some (.cells cs t fr)∧n≤cap∧cap*sz≤cs.size∧Hn cs.size fr∧X7 sz fr∧(∀(i:Nat) x,xs[i]? =some x→x.length=sz)∧
   (∀(i:Nat) x (j:Nat) y,xs[i]? =some x→x[j]? =some y→∃u,cs[i*sz+j]? =some u∧RelD E.w E.S y u)∧
   (cs.toList.take (n*sz)).length=n*sz∧(∀(k:Nat),k<n*sz→(cs.toList.take (n*sz))[k]? =cs[k]?)∧(∀u∈cs.toList.take (n*sz),u.oneCell'=true):=by
 cases hv with
 |dref r off len v h1 ho=>rw[hr]at h1;cases h1
 |refz r off R sz0 a h1 hk h2=>exact .inl ⟨rfl,a,rfl⟩
 |ref r off len R sz0 b cap t0 N h1 hk h2 h3 h4 h5 h6=>
  rw[hr]at h1
  obtain rfl:=Option.some.inj h1
  simp only[Root.kind,Kind.row.injEq]at hk
  subst hk
  rcases hM.roots r _ hp hr with⟨hb',_⟩|⟨b',cs,t,fr,hb',hh,hxl,hxs,hxr,hfz⟩
  ·rw[h3]at hb';cases hb'
  rw[h3]at hb'
  obtain rfl:=Option.some.inj hb'
  rcases hfz with⟨hf,_⟩|⟨_,hnS,hfr⟩
  ·cases hf
  have hN:N=cs.size:=by
   unfold World.shape? at h4
   rw[hh]at h4
   exact(Prod.mk.inj (Option.some.inj h4)).2.symm
  subst hN
  rw[Nat.zero_add]at h6
  have hle:n*sz≤cs.size:=Nat.le_trans (Nat.mul_le_mul_right _ h5) h6
  have hget:∀(k:Nat),k<n*sz→(cs.toList.take (n*sz))[k]? =cs[k]? :=fun k hk=>by rw[List.getElem?_take,if_pos hk,Array.getElem?_toList]
  refine .inr ⟨b,cap,cs,t,fr,by rw[Nat.zero_mul],h3,hh,h5,h6,hfr.1,hfr.2,hxl,hxr,by rw[List.length_take,Array.length_toList];omega,hget,?_⟩
  intro u hu
  obtain⟨k,hk⟩:=List.getElem?_of_mem hu
  have hkl:k<n*sz:=by
   have:=(List.getElem?_eq_some_iff.1 hk).1
   rw[List.length_take,Array.length_toList]at this
   omega
  rw[hget k hkl]at hk
  have hi:k/sz<xs.length:=by rw[←hn];exact(Nat.div_lt_iff_lt_mul hsz).2 hkl
  have hj:k% sz<sz:=Nat.mod_lt _ hsz
  have hx:=List.getElem?_eq_getElem hi
  have hxl':=hxl _ _ hx
  obtain⟨u',hu',hrel⟩:=hxr (k/sz) _ (k% sz) _ hx (List.getElem?_eq_getElem (by rw[hxl'];exact hj))
  have e:k/sz*sz+k% sz=k:=by rw[Nat.mul_comm];exact Nat.div_add_mod k sz
  rw[e,hk]at hu'
  rw[Option.some.inj hu']
  exact hrel.one
theorem Xhc{c:Ctx}{E:Env}(hM:Mem c E){r n sz:Nat}{xs:List (List D)}{v:Value}(hr:E.rt r=some (.row sz false xs))(hp:E.pres r)(hv:RelAV E (.ref r 0 n) v)(hn:n=xs.length)(h0:0<n)(hsz:0<sz):
  ∃b cap cs t fr,v= .slice (some ⟨b,0,none⟩) n cap∧E.β r=some b∧E.w.heap[b]? =some (.cells cs t fr)∧n≤cap∧cap*sz≤cs.size∧Hn cs.size fr∧X7 sz fr∧(∀(i:Nat) x,xs[i]? =some x→x.length=sz)∧
   (∀(i:Nat) x (j:Nat) y,xs[i]? =some x→x[j]? =some y→∃u,cs[i*sz+j]? =some u∧RelD E.w E.S y u)∧
   (cs.toList.take (n*sz)).length=n*sz∧(∀(k:Nat),k<n*sz→(cs.toList.take (n*sz))[k]? =cs[k]?)∧(∀u∈cs.toList.take (n*sz),u.oneCell'=true):=
 (Xff hM hr hp hv hn hsz).resolve_left fun h=>by omega
theorem T1{w:World}{b k:Nat}{cs:Array Value}{t:TypeId}{fr:Nat×Nat}(hh:w.heap[b]? =some (.cells cs t fr)):w.cell? ⟨b,k,none⟩=cs[k]? :=by
 simp[World.cell?,hh]
theorem Xhs{E:Env}{k:IntKind}{n:Int}{v:Value}(h:RelAV E (.d (.sc (.int k n))) v):v= .int k n:=by
 cases h with
 |d _ _ h=>cases h with|sc=>rfl
theorem Xg2{E:Env}{x y z:AV}{vs:Array Value}(h:XaP E [x,y,z] vs):∃u v t,vs= #[u,v,t]∧RelAV E x u∧RelAV E y v∧RelAV E z t:=by
 obtain⟨hs,hr⟩:=h
 have:vs.size=3:=hs
 obtain⟨l⟩:=vs
 match l,this with
 |[u,v,t],_=>exact⟨u,v,t,rfl,hr 0 x rfl,hr 1 y rfl,hr 2 z rfl⟩
theorem XcN{w:World}{S:Nat→Prop}{β:Nat→Option Nat}{r0:List Root}{R:Root}:Fresh (Ev w S β r0) (Bd w S β r0 [R]) r0.length [R]:=by
 refine⟨Nat.le_refl _,?_,?_⟩
 ·intro k R' hk
  show(r0++[R])[r0.length+k]? =some R'
  rw[List.getElem?_append_right (by omega)]
  simpa using hk
 ·intro k hk hp
  have:r0.length+k<r0.length:=hp
  omega
theorem Xeu{xs:List (List D)}{n:Nat}{i j:Int}(hn:n=xs.length)(h0:0≤i)(hi:i<n)(hj:j=i+1)(hm:n≤4000000000):CallOk Tryz.prog 308 [.ref 0 0 n,.d (.sc (.int .i64 i)),.d (.sc (.int .i64 j))] [.row 2 false xs] ⟨.ref 1 0 (xs.eraseIdx i.toNat).length,[.row 2 false (xs.eraseIdx i.toNat)],[(0,.dead)]⟩:=by
 intro w S β vs hM hA
 obtain⟨vl,vi,vj,rfl,h1,h2,h3⟩:=Xg2 hA
 obtain rfl:=Xhs h2
 obtain rfl:=Xhs h3
 obtain⟨b,cap,cs,t,fr,rfl,hb,hh,hnc,hcs,hfr,-,hxl,hxr,hvl,hvg,hone⟩:=Xhc hM (r:=0) rfl (show(0:Nat)<1 by decide) h1 hn (by omega) (by decide)
 have hh':w.heap[b]? =some (.cells cs t fr):=hh
 obtain⟨i,rfl⟩:∃k:Nat,i=k:=⟨i.toNat,by omega⟩
 obtain⟨j,rfl⟩:∃k:Nat,j=k:=⟨j.toNat,by omega⟩
 have hjn:j=i+1:=by omega
 have hin:i<n:=by omega
 have hcn:n*2≤cs.size:=by omega
 rw[Int.toNat_natCast]
 refine(delE b n cap i j w (cs.toList.take (n*2)) hin hjn hnc hm hvl hone (fun k v hk=>by
   have hkl:k<n*2:=by rw[←hvl];exact(List.getElem?_eq_some_iff.1 hk).1
   rw[hvg k hkl]at hk
   rw[T1 hh'];exact hk) (fun k hk=>Fq hh' hfr (by omega))).mono ?_
 rintro e w' ⟨rfl,rfl⟩
 have hdl:((cs.toList.take (n*2)).drop (j*2)).length=(n - j)*2:=by rw[List.length_drop,hvl];omega
 obtain⟨c1,aa,ab⟩:=Ch b t fr ((cs.toList.take (n*2)).drop (j*2)) (i*2) w.drew cs hh' (by rw[hdl];omega)
 obtain⟨c2,ac,ad⟩:=Ch b t fr [.string ⟨#[]⟩,.int .i64 0] ((n - 1)*2) _ c1 aa.at_ (by rw[aa.size];simp;omega)
 have hlen:(xs.eraseIdx i).length=n - 1:=by rw[List.length_eraseIdx,if_pos (by omega)];omega
 obtain⟨E',e1,e2⟩:=XbU (sz:=2) (cap:=cap) (ys:=xs.eraseIdx i) (nb:=1) hM (r:=0) rfl (show(0:Nat)<1 by decide) XcN hb hh ((Wrote.ofDrew aa).trans ac)
  (by
   intro k x hk
   rw[List.getElem?_eraseIdx]at hk
   split at hk<;>exact hxl _ _ hk) hcs (by omega) (by
   intro k x f y hk hf
   have ae:k<n - 1:=by rw[←hlen];exact(List.getElem?_eq_some_iff.1 hk).1
   have hxs:∃q,xs[q]? =some x∧q=(if k<i then k else k+1):=by
    rw[List.getElem?_eraseIdx]at hk
    split at hk
    ·rename_i h;exact⟨k,hk,by rw[if_pos h]⟩
    ·rename_i h;exact⟨k+1,hk,by rw[if_neg h]⟩
   obtain⟨q,hq,hqk⟩:=hxs
   have af:f<2:=by rw[←hxl q x hq];exact(List.getElem?_eq_some_iff.1 hf).1
   obtain⟨u,hu,hrel⟩:=hxr q x f y hq hf
   refine⟨u,?_,hrel⟩
   rw[ad,if_neg (by simp;omega),ab,hdl]
   split at hqk
   ·subst hqk
    rw[if_neg (by omega)];exact hu
   ·subst hqk
    rw[if_pos (by omega),List.getElem?_drop,hvg _ (by omega),show j*2+(k*2+f - i*2)=(k+1)*2+f by omega]
    exact hu)
 rw[hlen]at e2
 exact⟨_,E',rfl,e1,by rw[hlen];exact e2⟩
theorem Grow.ofDrew{w w':World}{o:Obj}(g:Grow w.drew w' o):Grow w w' o:=⟨g.heap,g.os,g.output,g.tape⟩
theorem Grow.drew{w w':World}{o:Obj}(g:Grow w w' o):Grow w w'.drew o:=⟨g.heap,g.os,g.output,g.tape⟩
theorem Vm{w:World}{b k:Nat}{cs:Array Value}{t:TypeId}{fr:Nat×Nat}(hh:w.heap[b]? =some (.cells cs t fr))(h:X7 2 fr):w.frozen? ⟨b,k,none⟩=false:=by
 obtain rfl:fr=(0,0):=h.resolve_left (by decide)
 simp[World.frozen?,hh]
theorem T5{w:World}{S:Nat→Prop}{xs:List (List D)}{v:List D}{i n:Nat}{cs':Array Value}{vals vs:List Value}(hn:n=xs.length)(hi:i≤n)(hxl:∀(i:Nat) x,xs[i]? =some x→x.length=2)(hv:v.length=2)
  (hxr:∀(i:Nat) x (j:Nat) y,xs[i]? =some x→x[j]? =some y→∃u,vals[i*2+j]? =some u∧RelD w S y u)(hvr:∀(j:Nat) y,v[j]? =some y→∃u,vs[j]? =some u∧RelD w S y u)
  (hc:∀k f,k<n+1→f<2→cs'[k*2+f]? =if k<i then vals[k*2+f]? else if k=i then vs[f]? else vals[(k - 1)*2+f]?):
  (∀(k:Nat) x,(xs.take i++v::xs.drop i)[k]? =some x→x.length=2)∧∀(k:Nat) x (j:Nat) y,(xs.take i++v::xs.drop i)[k]? =some x→x[j]? =some y→∃u,cs'[k*2+j]? =some u∧RelD w S y u:=by
 have key:∀(k:Nat) x,(xs.take i++v::xs.drop i)[k]? =some x→(k<i∧xs[k]? =some x)∨(k=i∧x=v)∨(i<k∧xs[k - 1]? =some x):=by
  intro k x hk
  have hl:(xs.take i).length=i:=by rw[List.length_take];omega
  by_cases h:k<i
  ·rw[List.getElem?_append_left (by omega),List.getElem?_take,if_pos h]at hk
   exact .inl ⟨h,hk⟩
  ·rw[List.getElem?_append_right (by omega),hl]at hk
   by_cases h':k=i
   ·subst h'
    rw[Nat.sub_self]at hk
    exact .inr (.inl ⟨rfl,(Option.some.inj hk).symm⟩)
   ·obtain⟨m,hm⟩:∃m,k - i=m+1:=⟨k - i - 1,by omega⟩
    rw[hm,List.getElem?_cons_succ,List.getElem?_drop,show i+m=k - 1 by omega]at hk
    exact .inr (.inr ⟨by omega,hk⟩)
 refine⟨fun k x hk=>?_,fun k x j y hk hy=>?_⟩
 ·rcases key k x hk with⟨_,h⟩|⟨_,h⟩|⟨_,h⟩
  ·exact hxl _ _ h
  ·rw[h];exact hv
  ·exact hxl _ _ h
 ·rcases key k x hk with⟨h,hx⟩|⟨h,hx⟩|⟨h,hx⟩
  ·have hkn:=(List.getElem?_eq_some_iff.1 hx).1
   have hj:j<2:=by rw[←hxl _ _ hx];exact(List.getElem?_eq_some_iff.1 hy).1
   rw[hc k j (by omega) hj,if_pos h]
   exact hxr _ _ _ _ hx hy
  ·subst hx h
   have hj:j<2:=by rw[←hv];exact(List.getElem?_eq_some_iff.1 hy).1
   rw[hc k j (by omega) hj,if_neg (by omega),if_pos rfl]
   exact hvr _ _ hy
  ·have hkn:=(List.getElem?_eq_some_iff.1 hx).1
   have hj:j<2:=by rw[←hxl _ _ hx];exact(List.getElem?_eq_some_iff.1 hy).1
   rw[hc k j (by omega) hj,if_neg (by omega),if_neg (by omega)]
   exact hxr _ _ _ _ hx hy
theorem Xfe{xs:List (List D)}{v:List D}{n i:Nat}(hn:n=xs.length)(hin:i≤n)(hm:n≤4000000000):CallOk Tryz.prog 307 [.ref 0 0 n,.d (.sc (.int .i64 i)),.ref 1 0 1] [.row 2 false xs,.row 2 false [v]]
  ⟨.ref 2 0 (xs.take i++v::xs.drop i).length,[.row 2 false (xs.take i++v::xs.drop i)],[(0,.dead)]⟩:=by
 intro w S β vs hM hA
 obtain⟨vl,vi,vv,rfl,h1,h2,h3⟩:=Xg2 hA
 obtain rfl:=Xhs h2
 obtain⟨vb,vc,cv,tv,frv,rfl,hbv,hhv,hvc,hcv,hfrv,hplv,hvxl,hvxr,hvvl,hvvg,hvone⟩:=Xhc hM (r:=1) rfl (show(1:Nat)<2 by decide) h3 rfl (by decide) (by decide)
 have hhv':w.heap[vb]? =some (.cells cv tv frv):=hhv
 have hlen:(xs.take i++v::xs.drop i).length=n+1:=by simp;omega
 have ac:v.length=2:=hvxl 0 v rfl
 have hvr:∀(j:Nat) y,v[j]? =some y→∃u,(cv.toList.take (1*2))[j]? =some u∧RelD w S y u:=by
  intro j y hy
  have hj:j<2:=by rw[←ac];exact(List.getElem?_eq_some_iff.1 hy).1
  obtain⟨u,hu,hrel⟩:=hvxr 0 v j y rfl hy
  rw[Nat.zero_mul,Nat.zero_add]at hu
  exact⟨u,by rw[hvvg j (by omega)];exact hu,hrel⟩
 have hvs:∀j u,(cv.toList.take (1*2))[j]? =some u→w.cell? ⟨vb,j,none⟩=some u:=fun k u hk=>by
  have hkl:k<1*2:=by rw[←hvvl];exact(List.getElem?_eq_some_iff.1 hk).1
  rw[hvvg k hkl]at hk
  rw[T1 hhv'];exact hk
 generalize hvsd:cv.toList.take (1*2)=vs at hvr hvs hvvl hvone
 have hvl2:vs.length=2:=hvvl
 rcases Xff hM (r:=0) rfl (show(0:Nat)<2 by decide) h1 hn (by decide)with⟨h0,a,rfl⟩|⟨b,cap,cs,t,fr,rfl,hb,hh,hnc,hcs,hfr,hpl,hxl,hxr,hvl,hvg,hone⟩
 ·obtain rfl:xs=[]:=List.eq_nil_of_length_eq_zero (by omega)
  obtain rfl:i=0:=by omega
  subst h0
  refine(Ox a 0 0 vb vc [] vs w (by omega) (by omega) (by omega) rfl hvl2 (fun _=>rfl) (fun a _ j v h=>by simp at h) hvs hvone).mono ?_
  rintro e w' ⟨rfl,rfl⟩
  have hge:=grownCap_ge w (0+1) 0 133
  obtain⟨k1,k2⟩:=T5 (w:=w) (S:=S) (xs:=[]) (v:=v) (i:=0) (n:=0) (cs':=(([]++vs).toArray++Builtin.zeroCells zE.cells (grownCap w (0+1) 0 133 - (0+1)))) (vals:=[]) (vs:=vs) rfl (by omega) (by simp) ac (by simp) hvr (by
   intro k f hk hf
   obtain rfl:k=0:=by omega
   rw[if_neg (by omega),if_pos rfl,Nat.zero_mul,Nat.zero_add,Array.getElem?_append_left (by simp;omega)]
   simp)
  obtain⟨E',e1,e2⟩:=Xg6 (sz:=2) (cap:=grownCap w (0+1) 0 133) (nb:=2) hM (r:=0) rfl (show(0:Nat)<2 by decide) XcN (Grow.alloc w.drew _).ofDrew k1 (by
   rw[Array.size_append,F6]
   simp[Value.cells,hvl2]
   omega) (by rw[hlen];exact hge) k2
  rw[hlen]at e2
  exact⟨_,E',rfl,e1,by rw[hlen];exact e2⟩
 have hh':w.heap[b]? =some (.cells cs t fr):=hh
 have hvals:∀j u,(cs.toList.take (n*2))[j]? =some u→w.cell? ⟨b,j,none⟩=some u:=fun k u hk=>by
  have hkl:k<n*2:=by rw[←hvl];exact(List.getElem?_eq_some_iff.1 hk).1
  rw[hvg k hkl]at hk
  rw[T1 hh'];exact hk
 have hxr':∀(i:Nat) x (j:Nat) y,xs[i]? =some x→x[j]? =some y→∃u,(cs.toList.take (n*2))[i*2+j]? =some u∧RelD w S y u:=by
  intro q x f y hq hf
  have hqn:q<xs.length:=(List.getElem?_eq_some_iff.1 hq).1
  have af:f<2:=by rw[←hxl q x hq];exact(List.getElem?_eq_some_iff.1 hf).1
  obtain⟨u,hu,hrel⟩:=hxr q x f y hq hf
  exact⟨u,by rw[hvg _ (by omega)];exact hu,hrel⟩
 have hvgn:∀k,k<n*2→cs[k]? =(cs.toList.take (n*2))[k]? :=fun k hk=>(hvg k hk).symm
 generalize hvd:cs.toList.take (n*2)=vals at hvals hxr' hvgn hvl hone
 have hvb:vb≠b:=by
  rintro rfl
  have:=hM.inj 0 1 _ _ vb (show(0:Nat)<2 by decide) (show(1:Nat)<2 by decide) rfl (by simp) rfl (by simp) hb hbv
  cases this
 have hnew:∀{cs':Array Value} {w':World} {G:Nat},Grow w w' (.cells cs' 133 (0,0))→n+1≤G→G*2≤cs'.size→(∀k f,k<n+1→f<2→cs'[k*2+f]? =if k<i then vals[k*2+f]? else if k=i then vs[f]? else vals[(k - 1)*2+f]?)→
   ∃v' E',Ending.returned (.slice (some ⟨w.heap.size,0,none⟩) (n+1) G)=Ending.returned v'∧E'.w=w'∧OutRel (Ev w S β [.row 2 false xs,.row 2 false [v]]) (Bd w S β [.row 2 false xs,.row 2 false [v]] [.row 2 false (xs.take i++v::xs.drop i)]) 2 ⟨.ref 2 0 (xs.take i++v::xs.drop i).length,[.row 2 false (xs.take i++v::xs.drop i)],[(0,.dead)]⟩ v' E':=by
  intro cs' w' G g hG hGs hc
  obtain⟨k1,k2⟩:=T5 (w:=w) (S:=S) hn hin hxl ac hxr' hvr hc
  obtain⟨E',e1,e2⟩:=Xg6 (sz:=2) (cap:=G) (nb:=2) hM (r:=0) rfl (show(0:Nat)<2 by decide) XcN g k1 hGs (by rw[hlen];exact hG) k2
  rw[hlen]at e2
  exact⟨_,E',rfl,e1,by rw[hlen];exact e2⟩
 have hown:∀{cs':Array Value} {w':World},Wrote w w' b cs cs' t fr→n+1≤cap→(∀k f,k<n+1→f<2→cs'[k*2+f]? =if k<i then vals[k*2+f]? else if k=i then vs[f]? else vals[(k - 1)*2+f]?)→
   ∃v' E',Ending.returned (.slice (some ⟨b,0,none⟩) (n+1) cap)=Ending.returned v'∧E'.w=w'∧OutRel (Ev w S β [.row 2 false xs,.row 2 false [v]]) (Bd w S β [.row 2 false xs,.row 2 false [v]] [.row 2 false (xs.take i++v::xs.drop i)]) 2 ⟨.ref 2 0 (xs.take i++v::xs.drop i).length,[.row 2 false (xs.take i++v::xs.drop i)],[(0,.dead)]⟩ v' E':=by
  intro cs' w' g hG hc
  obtain⟨k1,k2⟩:=T5 (w:=w) (S:=S) hn hin hxl ac hxr' hvr hc
  obtain⟨E',e1,e2⟩:=XbU (sz:=2) (cap:=cap) (nb:=2) hM (r:=0) rfl (show(0:Nat)<2 by decide) XcN hb hh g k1 hcs (by rw[hlen];exact hG) k2
  rw[hlen]at e2
  exact⟨_,E',rfl,e1,by rw[hlen];exact e2⟩
 by_cases hroom:n+1≤cap
 ·by_cases hie:i=n
  ·subst hie
   refine(Xk b i cap vb vc vs w hroom hm hvl2 (fun j hj=>by rw[T1 hh',Array.getElem?_eq_getElem (by omega)];rfl) (fun j hj=>Fq hh' hfr (by omega)) hvs hvone).mono ?_
   rintro e w' ⟨rfl,rfl⟩
   obtain⟨c1,aa,ab⟩:=Ch b t fr vs (i*2) w cs hh' (by omega)
   refine hown aa hroom ?_
   intro k f hk hf
   rw[ab]
   by_cases h:k<i
   ·rw[if_pos h,if_neg (by omega)]
    exact hvgn _ (by omega)
   ·rw[if_neg h,if_pos (by omega),if_pos (by omega),show k*2+f - i*2=f by omega]
  ·have hdl:(vals.drop (i*2)).length=(n - i)*2:=by rw[List.length_drop,hvl];omega
   refine(Xc4 b n cap i vb vc vals vs w (by omega) hroom hm hvb hvl hvl2 hvals (fun j hj=>by rw[T1 hh',Array.getElem?_eq_getElem (by omega)];rfl) (fun j hj=>Fq hh' hfr (by omega)) hvs hone hvone tv t cv.size cs.size
    (by simp[World.shape?,hhv']) (by simp[World.shape?,hh']) (by omega) (Vm hhv' hplv) (Vm hhv' hplv)).mono ?_
   rintro e w' ⟨rfl,rfl⟩
   obtain⟨c1,aa,ab⟩:=Ch b t fr (vals.drop (i*2)) ((i+1)*2) w.drew cs hh' (by rw[hdl];omega)
   obtain⟨c2,ad,ae⟩:=Ch b t fr vs (i*2) _ c1 aa.at_ (by rw[aa.size];omega)
   refine hown ((Wrote.ofDrew aa).trans ad) hroom ?_
   intro k f hk hf
   rw[ae,ab,hdl,hvl2]
   by_cases h:k<i
   ·rw[if_pos h,if_neg (by omega),if_neg (by omega)]
    exact hvgn _ (by omega)
   ·rw[if_neg h]
    by_cases h':k=i
    ·rw[if_pos h',if_pos (by omega),show k*2+f - i*2=f by omega]
    ·rw[if_neg h',if_neg (by omega),if_pos (by omega),List.getElem?_drop,show i*2+(k*2+f - (i+1)*2)=(k - 1)*2+f by omega]
 ·have hge:=grownCap_ge w (n+1) cap 133
  by_cases hie:i=n
  ·subst hie
   refine(Ox (some ⟨b,0,none⟩) i cap vb vc vals vs w hnc (by omega) hm hvl hvl2 (fun h=>by cases h) (fun a ha j v h=>by
    obtain rfl:=Option.some.inj ha
    rw[Addr.add_lit,Nat.zero_add]
    exact hvals j v h) hvs hvone).mono ?_
   rintro e w' ⟨rfl,rfl⟩
   refine hnew (Grow.alloc w.drew _).ofDrew hge ?_ ?_
   ·rw[Array.size_append,F6]
    simp[Value.cells,hvl2,hvl]
    omega
   ·intro k f hk hf
    rw[Array.getElem?_append_left (by simp;omega),List.getElem?_toArray]
    by_cases h:k<i
    ·rw[if_pos h,List.getElem?_append_left (by omega)]
    ·rw[if_neg h,if_pos (by omega),List.getElem?_append_right (by omega),hvl,show k*2+f - i*2=f by omega]
  ·have hdl:(vals.drop (i*2)).length=(n - i)*2:=by rw[List.length_drop,hvl];omega
   have htl:(vals.take (i*2)).length=i*2:=by rw[List.length_take,hvl];omega
   refine(Xfy b n cap i vb vc vals vs w (by omega) hnc (by omega) hm hvl hvl2 hvals hvs hone hvone).mono ?_
   rintro e w' ⟨rfl,rfl⟩
   generalize hROW:(vals.take (i*2)).toArray++Builtin.zeroCells zE.cells (n+1 - i)++Builtin.zeroCells zE.cells (grownCap w (n+1) cap 133 - (n+1))=ROW
   have hRs:ROW.size=grownCap w (n+1) cap 133*2:=by
    rw[←hROW,Array.size_append,Array.size_append,F6,F6]
    simp[Value.cells,htl]
    omega
   have hR:∀k,k<i*2→ROW[k]? =vals[k]? :=by
    intro k hk
    rw[←hROW,Array.append_assoc,Array.getElem?_append_left (by simp;omega),List.getElem?_toArray,List.getElem?_take,if_pos hk]
   have g0:=(Grow.alloc w (.cells ROW 133)).drew
   obtain⟨c1,aa,ab⟩:=Ch w.heap.size 133 (0,0) vs (i*2) _ ROW g0.new (by omega)
   obtain⟨c2,ad,ae⟩:=Ch w.heap.size 133 (0,0) (vals.drop (i*2)) ((i+1)*2) _ c1 (show((w.alloc (.cells ROW 133)).drew.setCells w.heap.size (i*2) vs).drew.heap[w.heap.size]? =_ from aa.at_) (by rw[aa.size,hdl];omega)
   refine hnew (((g0.wrote aa).drew).wrote ad) hge (by rw[ad.size,aa.size,hRs];exact Nat.le_refl _) ?_
   intro k f hk hf
   rw[ae,ab,hdl,hvl2]
   by_cases h:k<i
   ·rw[if_pos h,if_neg (by omega),if_neg (by omega)]
    exact hR _ (by omega)
   ·rw[if_neg h]
    by_cases h':k=i
    ·rw[if_pos h',if_neg (by omega),if_pos (by omega),show k*2+f - i*2=f by omega]
    ·rw[if_neg h',if_pos (by omega),List.getElem?_drop,show i*2+(k*2+f - (i+1)*2)=(k - 1)*2+f by omega]
end
section
open Go Go.Proofs
set_option maxRecDepth 20000
set_option maxHeartbeats 4000000
def Xap:List (Nat×TyRow):=[ty3,ty5,ty9,Xc3,Xha,Xd8,Xde]
theorem Zc:By Tryz.prog Xap:=By.of (by kernel_rfl)
theorem Ef:Setup Tryz.prog Xap:=⟨Zc,mixed⟩
open Go.RowKit
def H3(x:Nat):Bool:=decide (97≤x∧x≤122∨48≤x∧x≤57∨x=46∨x=45)
def Bg(t:ByteArray):Bool:=t.data.toList.all (fun c=>H3 c.toNat)&&decide (1≤t.size∧t.size≤20)
theorem Kr{t:ByteArray}{j:Nat}(hj:j<t.size):t.data.toList[j]? =some t[j]:=by
 rw[Array.getElem?_toList]
 exact Array.getElem?_eq_getElem hj
theorem Md{t:ByteArray}{j:Nat}(hj:j<t.size)(h:H3 (t[j]).toNat=false):false=Bg t:=by
 symm
 unfold Bg
 rw[Bool.and_eq_false_iff]
 left
 rw[Bool.eq_false_iff]
 intro ha
 have:=List.all_eq_true.1 ha t[j] (List.mem_of_getElem? (Kr hj))
 rw[h]at this
 cases this
theorem Mz{t:ByteArray}{b:Bool}(h:∀(j:Nat) (hj:j<t.size),H3 (t[j]).toNat=true)(hb:b=decide (1≤t.size∧t.size≤20)):b=Bg t:=by
 unfold Bg
 rw[List.all_eq_true.2,hb,Bool.true_and]
 intro c hc
 obtain⟨j,hj⟩:=List.getElem?_of_mem hc
 have hl:j<t.size:=by
  have:=(List.getElem?_eq_some_iff.1 hj).1
  rwa[Array.length_toList]at this
 rw[Kr hl]at hj
 rw[←Option.some.inj hj]
 exact h j hl
theorem Sv{t:ByteArray}(h:Bg t=true):1≤t.size∧t.size≤20:=by
 unfold Bg at h
 rw[Bool.and_eq_true,decide_eq_true_eq]at h
 exact h.2
theorem Tz:∀(l m:List UInt8) (acc:Nat),Lib.decFrom acc (l++m)=(Lib.decFrom acc l).bind fun a=>Lib.decFrom a m
 |[],_,_=>rfl
 |c::l,m,acc=>by
  simp only[List.cons_append,Lib.decFrom]
  cases Lib.digitVal c with
  |none=>rfl
  |some d=>exact Tz l m _
theorem Rw{n:Nat}(h:n<10):Lib.digitVal (UInt8.ofNat (48+n))=some n:=by
 have e:(UInt8.ofNat (48+n)).toNat=48+n:=by rw[UInt8.toNat_ofNat',Nat.mod_eq_of_lt (by omega)]
 unfold Lib.digitVal
 rw[e,if_pos (by omega)]
 congr 1
 omega
theorem Pz(u:Nat):Lib.decFrom 0 (Lib.decDigits u)=some u:=by
 induction u using Nat.strongRecOn with
 |_ u ih=>
  by_cases h:u<10
  ·rw[Lib.decDigits,dif_pos h]
   simp only[Lib.decFrom,Rw h]
   congr 1
   omega
  ·rw[Lib.decDigits,dif_neg h,Tz,ih (u/10) (by omega)]
   simp only[Option.bind_some,Lib.decFrom,Rw (show u% 10<10 by omega)]
   congr 1
   omega
def A6(t:ByteArray):Int×Bool:=match Lib.decFrom 0 t.data.toList with
 |some n=>if n≤1000000000∧Bw (n:Int)=t then((n:Int),true)else(0,false)
 |none=>(0,false)
theorem S3{t:ByteArray}{m:Nat}(h:Lib.decFrom 0 t.data.toList=some m):A6 t=if m≤1000000000∧Bw (m:Int)=t then((m:Int),true)else(0,false):=by
 unfold A6
 rw[h]
theorem Xg3{t:ByteArray}{j:Nat}(hj:j<t.size)(h:¬(48≤(t[j]).toNat∧(t[j]).toNat≤57)):(0,false)=A6 t:=by
 unfold A6
 split
 ·rename_i n hn
  obtain⟨d,hd⟩:=Lib.digit_of_decFrom _ _ _ hn j _ (Kr hj)
  unfold Lib.digitVal at hd
  rw[if_neg h]at hd
  cases hd
 ·rfl
theorem XbS{n:Int}{t:ByteArray}(e:Bw n=t)(h0:0≤n)(h:n≤1000000000):1≤t.size∧t.size≤10:=by
 rw[←e]
 unfold Bw Lib.itoa
 rw[B2,if_neg (by omega)]
 exact Gy 9 n.toNat (by omega)
theorem XfU{t:ByteArray}(h:10<t.size):(0,false)=A6 t:=by
 unfold A6
 split
 ·rename_i n hn
  rw[if_neg]
  rintro⟨h1,h2⟩
  have:=XbS h2 (by omega) (by omega)
  omega
 ·rfl
theorem Xgf{n:Int}(h0:0≤n)(h:n≤1000000000):A6 (Bw n)=(n,true):=by
 have e:Lib.decFrom 0 (Bw n).data.toList=some n.toNat:=by
  unfold Bw Lib.itoa
  rw[Nq,if_neg (by omega)]
  exact Pz _
 rw[S3 e,if_pos ⟨by omega,by rw[Int.toNat_of_nonneg h0]⟩,Int.toNat_of_nonneg h0]
theorem Vk:∀(l:List UInt8) (acc n:Nat),Lib.decFrom acc l=some n→acc≤n
 |[],acc,n,h=>by simp only[Lib.decFrom,Option.some.injEq]at h;omega
 |c::l,acc,n,h=>by
  simp only[Lib.decFrom]at h
  split at h
  ·have:=Vk l _ n h
   omega
  ·cases h
theorem Zf:∀(l:List UInt8) (acc n:Nat),Lib.decFrom acc l=some n→n≤1000000000→Lib.parseUint10 acc l= .ok n
 |[],acc,n,h,_=>by simp only[Lib.decFrom,Option.some.injEq]at h;rw[h];rfl
 |c::l,acc,n,h,hn=>by
  simp only[Lib.decFrom,Lib.digitVal]at h
  unfold Lib.parseUint10
  by_cases hc:48≤c.toNat∧c.toNat≤57
  ·rw[if_pos hc]at h⊢
   have:=Vk l _ n h
   rw[if_neg (by omega),if_neg (by omega)]
   exact Zf l _ n h hn
  ·rw[if_neg hc]at h
   cases h
theorem XfW{l:List UInt8}{n:Nat}(h:Lib.decFrom 0 l=some n)(hl:l≠[])(hn:n≤1000000000):Lib.atoiAll l= .ok n:=by
 cases l with
 |nil=>exact absurd rfl hl
 |cons c r=>
  obtain⟨d,hd⟩:=Lib.digit_of_decFrom _ _ _ h 0 c rfl
  unfold Lib.digitVal at hd
  have hc:48≤c.toNat∧c.toNat≤57:=by
   by_cases hc:48≤c.toNat∧c.toNat≤57
   ·exact hc
   ·rw[if_neg hc]at hd;cases hd
  have h45:¬c.toNat=45:=by omega
  unfold Lib.atoiAll
  simp only[if_neg (show¬(c.toNat=43∨c.toNat=45)by omega),Lib.parseMag,if_neg (show¬(c::r=[])by simp),Zf _ _ _ h hn]
  rw[if_neg (by omega),if_neg (by omega),if_neg h45]
theorem Xet(t:ByteArray):A6 t=match Lib.atoiAll t.data.toList with
  | .ok v=>if Bi v=true∧Bw v=t then(v,true)else(0,false)
  |_=>(0,false):=by
 cases hd:Lib.decFrom 0 t.data.toList with
 |some n=>
  rw[S3 hd]
  by_cases hc:n≤1000000000∧Bw (n:Int)=t
  ·have hne:t.data.toList≠[]:=by
    intro e
    have:=(XbS hc.2 (by omega) (by omega)).1
    have hs:t.data.toList.length=t.size:=Array.length_toList
    rw[e]at hs
    simp at hs
    omega
   rw[if_pos hc,XfW hd hne hc.1]
   simp only[]
   rw[if_pos ⟨by unfold Bi;exact decide_eq_true (by omega),hc.2⟩]
  ·rw[if_neg hc]
   split
   ·rename_i v hv
    rw[if_neg]
    rintro⟨h1,h2⟩
    unfold Bi at h1
    rw[decide_eq_true_eq]at h1
    have e:Lib.decFrom 0 t.data.toList=some v.toNat:=by
     rw[←h2]
     unfold Bw Lib.itoa
     rw[Nq,if_neg (by omega)]
     exact Pz _
    rw[hd]at e
    have e2:=Option.some.inj e
    exact hc ⟨by omega,by rw[e2,Int.toNat_of_nonneg h1.1];exact h2⟩
   ·rfl
 |none=>
  have e0:A6 t=(0,false):=by unfold A6;rw[hd]
  rw[e0]
  split
  ·rename_i v hv
   rw[if_neg]
   rintro⟨h1,h2⟩
   unfold Bi at h1
   rw[decide_eq_true_eq]at h1
   have e:Lib.decFrom 0 t.data.toList=some v.toNat:=by
    rw[←h2]
    unfold Bw Lib.itoa
    rw[Nq,if_neg (by omega)]
    exact Pz _
   rw[hd]at e
   cases e
  ·rfl
variable {name text a:ByteArray} {o l:List Aj} {oa:Int} {ob oc:Bool} {xl xo:List (List D)} {no:Nat}
theorem Mq{o:Bool}(hs:name.size≤1000000000)(hr:Bg name=o):Fn Tryz.prog 248 [S name] [] ⟨B o,[],[]⟩:=by
 refine Fn.go Ef Tryz.func248 fun P hP Q hQ=>?_
 conv=>cbv
 refine .go fun v1 ah=>?_
 conv=>cbv
 refine LoopW.lp (κ:=Int) Ef hP [] [0,6] (fun i7=>[(7,I i7)]) (fun i7=>[])
  (fun i7=>0≤i7∧i7≤name.size∧∀(j:Nat) (hj:j<name.size),j<i7.toNat→H3 (name[j]).toNat=true)
  (fun i7=>(name.size - i7).toNat) (0) ⟨by omega,by omega,fun j _ h=>by simp at h⟩ ⟨rfl,trivial⟩ rfl ?_
 rintro i7 J ⟨h0,h1,hb⟩ hJ
 conv=>cbv
 refine .lss (fun h2=>?_) fun h2=>?_
 conv=>cbv
 refine .go i7.toNat fun hjv3 v3 ad bv3=>?_
 conv=>cbv
 refine .geq (fun h4=>?_) fun h4=>?_
 conv=>cbv
 refine .leq (fun h5=>?_) fun h5=>?_
 conv=>cbv
 refine .add fun v6 ai=>?_
 conv=>cbv
 exact .go [] (v6) (hJ _ ⟨by omega,by omega,fun j hj h=>if e:j=i7.toNat then by subst e;unfold H3;rw[decide_eq_true_eq];omega else hb j hj (by omega)⟩ mlt)
 conv=>cbv
 refine .geq (fun h6=>?_) fun h6=>?_
 conv=>cbv
 refine .leq (fun h7=>?_) fun h7=>?_
 conv=>cbv
 refine .add fun v8 aa=>?_
 conv=>cbv
 exact .go [] (v8) (hJ _ ⟨by omega,by omega,fun j hj h=>if e:j=i7.toNat then by subst e;unfold H3;rw[decide_eq_true_eq];omega else hb j hj (by omega)⟩ mlt)
 conv=>cbv
 refine .eql (fun h8=>?_) fun h8=>?_
 conv=>cbv
 refine .add fun v9 ac=>?_
 conv=>cbv
 exact .go [] (v9) (hJ _ ⟨by omega,by omega,fun j hj h=>if e:j=i7.toNat then by subst e;unfold H3;rw[decide_eq_true_eq];omega else hb j hj (by omega)⟩ mlt)
 conv=>cbv
 refine .eql (fun h9=>?_) fun h9=>?_
 conv=>cbv
 refine .add fun ae ag=>?_
 conv=>cbv
 exact .go [] (ae) (hJ _ ⟨by omega,by omega,fun j hj h=>if e:j=i7.toNat then by subst e;unfold H3;rw[decide_eq_true_eq];omega else hb j hj (by omega)⟩ mlt)
 conv=>cbv
 have e:false=Bg name:=(by exact Md (show i7.toNat<name.size by omega) (by unfold H3;rw[decide_eq_false_iff_not];omega))
 rw[hr]at e
 subst e
 exact hQ _ _ (.b rfl rfl)
 conv=>cbv
 refine .eql (fun h7=>?_) fun h7=>?_
 conv=>cbv
 refine .add fun v8 aa=>?_
 conv=>cbv
 exact .go [] (v8) (hJ _ ⟨by omega,by omega,fun j hj h=>if e:j=i7.toNat then by subst e;unfold H3;rw[decide_eq_true_eq];omega else hb j hj (by omega)⟩ mlt)
 conv=>cbv
 refine .eql (fun h8=>?_) fun h8=>?_
 conv=>cbv
 refine .add fun v9 ac=>?_
 conv=>cbv
 exact .go [] (v9) (hJ _ ⟨by omega,by omega,fun j hj h=>if e:j=i7.toNat then by subst e;unfold H3;rw[decide_eq_true_eq];omega else hb j hj (by omega)⟩ mlt)
 conv=>cbv
 have e:false=Bg name:=(by exact Md (show i7.toNat<name.size by omega) (by unfold H3;rw[decide_eq_false_iff_not];omega))
 rw[hr]at e
 subst e
 exact hQ _ _ (.b rfl rfl)
 conv=>cbv
 refine .geq (fun h5=>?_) fun h5=>?_
 conv=>cbv
 refine .leq (fun h6=>?_) fun h6=>?_
 conv=>cbv
 refine .add fun v7 af=>?_
 conv=>cbv
 exact .go [] (v7) (hJ _ ⟨by omega,by omega,fun j hj h=>if e:j=i7.toNat then by subst e;unfold H3;rw[decide_eq_true_eq];omega else hb j hj (by omega)⟩ mlt)
 conv=>cbv
 refine .eql (fun h7=>?_) fun h7=>?_
 conv=>cbv
 refine .add fun v8 aa=>?_
 conv=>cbv
 exact .go [] (v8) (hJ _ ⟨by omega,by omega,fun j hj h=>if e:j=i7.toNat then by subst e;unfold H3;rw[decide_eq_true_eq];omega else hb j hj (by omega)⟩ mlt)
 conv=>cbv
 refine .eql (fun h8=>?_) fun h8=>?_
 conv=>cbv
 refine .add fun v9 ac=>?_
 conv=>cbv
 exact .go [] (v9) (hJ _ ⟨by omega,by omega,fun j hj h=>if e:j=i7.toNat then by subst e;unfold H3;rw[decide_eq_true_eq];omega else hb j hj (by omega)⟩ mlt)
 conv=>cbv
 have e:false=Bg name:=(by exact Md (show i7.toNat<name.size by omega) (by unfold H3;rw[decide_eq_false_iff_not];omega))
 rw[hr]at e
 subst e
 exact hQ _ _ (.b rfl rfl)
 conv=>cbv
 refine .eql (fun h6=>?_) fun h6=>?_
 conv=>cbv
 refine .add fun v7 af=>?_
 conv=>cbv
 exact .go [] (v7) (hJ _ ⟨by omega,by omega,fun j hj h=>if e:j=i7.toNat then by subst e;unfold H3;rw[decide_eq_true_eq];omega else hb j hj (by omega)⟩ mlt)
 conv=>cbv
 refine .eql (fun h7=>?_) fun h7=>?_
 conv=>cbv
 refine .add fun v8 aa=>?_
 conv=>cbv
 exact .go [] (v8) (hJ _ ⟨by omega,by omega,fun j hj h=>if e:j=i7.toNat then by subst e;unfold H3;rw[decide_eq_true_eq];omega else hb j hj (by omega)⟩ mlt)
 conv=>cbv
 have e:false=Bg name:=(by exact Md (show i7.toNat<name.size by omega) (by unfold H3;rw[decide_eq_false_iff_not];omega))
 rw[hr]at e
 subst e
 exact hQ _ _ (.b rfl rfl)
 conv=>cbv
 refine .go fun v3 ad=>?_
 conv=>cbv
 generalize ab:Bh v3 1 20=r4
 refine .dd hP (Eb ab) ?_
 cases r4
 simp only[Bh,decide_eq_true_eq,decide_eq_false_iff_not]at ab
 conv=>cbv
 have e:false=Bg name:=(by exact Mz (fun j hj=>hb j hj (by omega)) (by symm;rw[decide_eq_false_iff_not];omega))
 rw[hr]at e
 subst e
 exact hQ _ _ (.b rfl rfl)
 simp only[Bh,decide_eq_true_eq,decide_eq_false_iff_not]at ab
 conv=>cbv
 have e:true=Bg name:=(by exact Mz (fun j hj=>hb j hj (by omega)) (by symm;rw[decide_eq_true_eq];omega))
 rw[hr]at e
 subst e
 exact hQ _ _ (.b rfl rfl)
theorem Mp{o:Bool}(hs:name.size≤1000000000)(hr:Bg name=o):Fn Tryz.prog 242 [S name] [] ⟨B o,[],[]⟩:=by
 refine Fn.go Ef Tryz.func242 fun P hP Q hQ=>?_
 conv=>cbv
 refine LoopW.lp (κ:=Int) Ef hP [] [0] (fun i3=>[(3,I i3)]) (fun i3=>[])
  (fun i3=>0≤i3∧i3≤name.size∧∀(j:Nat) (hj:j<name.size),j<i3.toNat→H3 (name[j]).toNat=true)
  (fun i3=>(name.size - i3).toNat) (0) ⟨by omega,by omega,fun j _ h=>by simp at h⟩ ⟨rfl,trivial⟩ rfl ?_
 rintro i3 J ⟨h0,h1,hb⟩ hJ
 conv=>cbv
 refine .go fun v1 ae=>?_
 conv=>cbv
 refine .lss (fun h2=>?_) fun h2=>?_
 conv=>cbv
 refine .go i3.toNat fun hjv3 v3 ad bv3=>?_
 conv=>cbv
 refine .id fun v4 af=>?_
 conv=>cbv
 generalize aa:A8 v4 97 122=r5
 refine .dd hP (Cy aa) ?_
 cases r5
 simp only[A8,decide_eq_true_eq,decide_eq_false_iff_not]at aa
 conv=>cbv
 generalize ab:A8 v4 48 57=r6
 refine .dd hP (Cy ab) ?_
 cases r6
 simp only[A8,decide_eq_true_eq,decide_eq_false_iff_not]at ab
 conv=>cbv
 refine .neq (fun h7=>?_) fun h7=>?_
 conv=>cbv
 refine .neq (fun h8=>?_) fun h8=>?_
 conv=>cbv
 have e:false=Bg name:=(by exact Md (show i3.toNat<name.size by omega) (by unfold H3;rw[decide_eq_false_iff_not];omega))
 rw[hr]at e
 subst e
 exact hQ _ _ (.b rfl rfl)
 conv=>cbv
 refine .add fun v9 ag=>?_
 conv=>cbv
 exact .go [] (v9) (hJ _ ⟨by omega,by omega,fun j hj h=>if e:j=i3.toNat then by subst e;unfold H3;rw[decide_eq_true_eq];omega else hb j hj (by omega)⟩ mlt)
 conv=>cbv
 refine .add fun v8 ah=>?_
 conv=>cbv
 exact .go [] (v8) (hJ _ ⟨by omega,by omega,fun j hj h=>if e:j=i3.toNat then by subst e;unfold H3;rw[decide_eq_true_eq];omega else hb j hj (by omega)⟩ mlt)
 simp only[A8,decide_eq_true_eq,decide_eq_false_iff_not]at ab
 conv=>cbv
 refine .add fun v7 ai=>?_
 conv=>cbv
 exact .go [] (v7) (hJ _ ⟨by omega,by omega,fun j hj h=>if e:j=i3.toNat then by subst e;unfold H3;rw[decide_eq_true_eq];omega else hb j hj (by omega)⟩ mlt)
 simp only[A8,decide_eq_true_eq,decide_eq_false_iff_not]at aa
 conv=>cbv
 refine .add fun v6 aj=>?_
 conv=>cbv
 exact .go [] (v6) (hJ _ ⟨by omega,by omega,fun j hj h=>if e:j=i3.toNat then by subst e;unfold H3;rw[decide_eq_true_eq];omega else hb j hj (by omega)⟩ mlt)
 conv=>cbv
 refine .go fun v3 ad=>?_
 conv=>cbv
 generalize ac:A8 v3 1 20=r4
 refine .dd hP (Cy ac) ?_
 cases r4
 simp only[A8,decide_eq_true_eq,decide_eq_false_iff_not]at ac
 conv=>cbv
 have e:false=Bg name:=(by exact Mz (fun j hj=>hb j hj (by omega)) (by symm;rw[decide_eq_false_iff_not];omega))
 rw[hr]at e
 subst e
 exact hQ _ _ (.b rfl rfl)
 simp only[A8,decide_eq_true_eq,decide_eq_false_iff_not]at ac
 conv=>cbv
 have e:true=Bg name:=(by exact Mz (fun j hj=>hb j hj (by omega)) (by symm;rw[decide_eq_true_eq];omega))
 rw[hr]at e
 subst e
 exact hQ _ _ (.b rfl rfl)
theorem Oq(hs:text.size≤1000000000)(hr:A6 text=(oa,ob)):Fn Tryz.prog 300 [S text] [] ⟨.tup [I oa,B ob],[],[]⟩:=by
 refine Fn.go Ef Tryz.func300 fun P hP Q hQ=>?_
 conv=>cbv
 refine .go fun v1 aj=>?_
 conv=>cbv
 refine .gtr (fun h2=>?_) fun h2=>?_
 conv=>cbv
 have e:(0,false)=A6 text:=(by exact XfU (by omega))
 rw[hr]at e
 simp only[Prod.mk.injEq]at e
 obtain⟨rfl,rfl⟩:=e
 refine hQ _ _ ?_
 exact .many (.inl rfl) rfl rfl (.d rfl rfl (.d rfl rfl (.nil)))
 conv=>cbv
 refine LoopW.lp (κ:=Int×Int) Ef hP [] [0] (fun(i4,i5)=>[(4,I i4),(5,I i5)]) (fun(i4,i5)=>[])
  (fun(i4,i5)=>0≤i5∧i5≤text.size∧∃m:Nat,i4=m∧Lib.decFrom 0 (text.data.toList.take i5.toNat)=some m∧m<10^i5.toNat)
  (fun(i4,i5)=>(text.size - i5).toNat) (0,0) ⟨by omega,by omega,0,rfl,rfl,by simp⟩ ⟨rfl,rfl,trivial⟩ rfl ?_
 rintro⟨i4,i5⟩ J ⟨h0,h1,m,hm,hd,hlt⟩ hJ
 have hp:=Nat.pow_le_pow_right (n:=10) (by decide) (show i5.toNat≤10 by omega)
 have ac:(10:Nat)^10=10000000000:=by decide
 rw[ac]at hp
 conv=>cbv
 refine .go fun v3 ak=>?_
 conv=>cbv
 refine .lss (fun h4=>?_) fun h4=>?_
 conv=>cbv
 refine .go i5.toNat fun hjv5 v5 al bv5=>?_
 conv=>cbv
 refine .lss (fun h6=>?_) fun h6=>?_
 conv=>cbv
 have e:(0,false)=A6 text:=(by exact Xg3 (show i5.toNat<text.size by omega) (by omega))
 rw[hr]at e
 simp only[Prod.mk.injEq]at e
 obtain⟨rfl,rfl⟩:=e
 refine hQ _ _ ?_
 exact .many (.inl rfl) rfl rfl (.d rfl rfl (.d rfl rfl (.nil)))
 conv=>cbv
 refine .go i5.toNat fun hjv7 v7 am bv7=>?_
 conv=>cbv
 refine .gtr (fun h8=>?_) fun h8=>?_
 conv=>cbv
 have e:(0,false)=A6 text:=(by exact Xg3 (show i5.toNat<text.size by omega) (by omega))
 rw[hr]at e
 simp only[Prod.mk.injEq]at e
 obtain⟨rfl,rfl⟩:=e
 refine hQ _ _ ?_
 exact .many (.inl rfl) rfl rfl (.d rfl rfl (.d rfl rfl (.nil)))
 conv=>cbv
 refine .mul fun v9 an=>?_
 conv=>cbv
 refine .go i5.toNat fun hjv10 ao ae bv10=>?_
 conv=>cbv
 refine .id fun ap af=>?_
 conv=>cbv
 refine .add fun aq ag=>?_
 conv=>cbv
 refine .sub fun ad ah=>?_
 conv=>cbv
 refine .add fun aa ai=>?_
 conv=>cbv
 have hdt:=Lib.decFrom_take _ _ _ _ _ ((text[i5.toNat]).toNat - 48) hd (Kr (show i5.toNat<text.size by omega)) (by unfold Lib.digitVal;rw[if_pos (by omega)])
 exact .go [] (ad,aa) (hJ _ ⟨by omega,by omega,m*10+((text[i5.toNat]).toNat - 48),by omega,by rw[show aa.toNat=i5.toNat+1 by omega];exact hdt,by rw[show aa.toNat=i5.toNat+1 by omega,Nat.pow_succ];omega⟩ mlt)
 conv=>cbv
 refine .gtr (fun h5=>?_) fun h5=>?_
 conv=>cbv
 have e:(0,false)=A6 text:=(by rw[List.take_of_length_le (by rw[Array.length_toList];show text.size≤_;omega)]at hd;rw[S3 hd,if_neg (by omega)])
 rw[hr]at e
 simp only[Prod.mk.injEq]at e
 obtain⟨rfl,rfl⟩:=e
 refine hQ _ _ ?_
 exact .many (.inl rfl) rfl rfl (.d rfl rfl (.d rfl rfl (.nil)))
 conv=>cbv
 generalize ab:Bw i4=r6
 refine .dd hP (Y6 (by unfold Xv;omega) ab) ?_
 conv=>cbv
 refine .neq (fun h7=>?_) fun h7=>?_
 conv=>cbv
 have e:(0,false)=A6 text:=(by rw[List.take_of_length_le (by rw[Array.length_toList];show text.size≤_;omega)]at hd;rw[S3 hd,if_neg];rintro⟨_,h⟩;exact h7 (by rw[←ab,hm];exact h))
 rw[hr]at e
 simp only[Prod.mk.injEq]at e
 obtain⟨rfl,rfl⟩:=e
 refine hQ _ _ ?_
 exact .many (.inl rfl) rfl rfl (.d rfl rfl (.d rfl rfl (.nil)))
 conv=>cbv
 have e:(i4,true)=A6 text:=(by rw[List.take_of_length_le (by rw[Array.length_toList];show text.size≤_;omega)]at hd;rw[S3 hd,if_pos ⟨by omega,by rw[←hm,ab];exact h7⟩,hm])
 rw[hr]at e
 simp only[Prod.mk.injEq]at e
 obtain⟨rfl,rfl⟩:=e
 refine hQ _ _ ?_
 exact .many (.inl rfl) rfl rfl (.d rfl rfl (.d rfl rfl (.nil)))
theorem Yt{w:World}(hG:Globs.ok w fun b=>b<w.heap.size){n:Int}{o:ByteArray}(hn:Xv n)(hr:Bw n=o):Calls Tryz.prog 144 #[.int .i64 n] w fun e w'=>e= .returned (.string o)∧Below w.heap.size w w':=by
 refine(Xad (n:=n) hn hr).ok.callsV hG ⟨rfl,?_⟩
 intro j y hy
 match j,hy with
 |0,hy=>cases hy;exact .d _ _ (.sc _ rfl)
theorem Xhl{l:List UInt8}{v:Int}(h:Lib.atoiAll l= .ok v):Xv v:=by
 cases l with
 |nil=>cases h
 |cons c r=>
  unfold Lib.atoiAll at h
  simp only at h
  unfold Xv
  split at h
  ·cases h
  ·cases h
  ·split at h
   ·cases h
   ·split at h
    ·cases h
    ·simp only[Lib.NumEnd.ok.injEq]at h
     split at h<;>omega
set_option maxHeartbeats 1000000 in
set_option maxRecDepth 100000 in
theorem V4{text:ByteArray}(hs:text.size≤1000000000){w:World}(hG:Globs.ok w fun b=>b<w.heap.size):Calls Tryz.prog 251 #[.string text] w fun e w'=>
  e= .returned (.tuple #[.int .i64 (A6 text).1,.bool (A6 text).2])∧Below w.heap.size w w':=by
 have hG2:∀{w:World},(Globs.ok w fun b=>b<w.heap.size)→G9 w 2:=fun h=>Xhn h
 have hG3:∀{w:World},(Globs.ok w fun b=>b<w.heap.size)→G9 w 3:=fun h=>XhZ h
 rw[Xet]
 cases ha:Lib.atoiAll text.data.toList
 ·rename_i v
  dsimp only
  have hv:=Xhl ha
  have hp:=fun w=>Tryz.strconv_Atoi_ok text (by omega) v ha w
  cases hn:Bi v with
  |false=>
   simp only[Bool.false_eq_true,false_and,if_false]
   go_enter Tryz.func251,Tryz.ntmps251
   go_wp2_with (first
    |(go_at_call 305;refine(hp _).mono ?_;rintro e w1 ⟨rfl,hb⟩;have aa:Below w.heap.size w w1:=(by rcases hb with rfl|⟨t,rfl⟩;exact Below.refl _ _;exact Lib.bytesWorld_below _ _ _);clear hb;have hG1:=Ha hG aa)
    |(go_at_call 173;refine(Ti hG1 hn).mono ?_;rintro e w2 ⟨rfl,hb2⟩;have hG2_:=Ha hG1 hb2))
   go_ret2
   exact⟨rfl,aa.trans (hb2.mono aa.size)⟩
  |true=>
   obtain⟨o,ho⟩:∃o,Bw v=o:=⟨_,rfl⟩
   by_cases he:o=text
   ·simp only[ho,he,true_and,if_true]
    subst he
    go_enter Tryz.func251,Tryz.ntmps251
    go_wp2_with (first
     |(go_at_call 305;refine(hp _).mono ?_;rintro e w1 ⟨rfl,hb⟩;have aa:Below w.heap.size w w1:=(by rcases hb with rfl|⟨t,rfl⟩;exact Below.refl _ _;exact Lib.bytesWorld_below _ _ _);clear hb;have hG1:=Ha hG aa)
     |(go_at_call 173;refine(Ti hG1 hn).mono ?_;rintro e w2 ⟨rfl,hb2⟩;have hG2_:=Ha hG1 hb2)
     |(go_at_call 144;refine(Yt hG2_ hv ho).mono ?_;rintro e w3 ⟨rfl,ab⟩))
    go_ret2
    exact⟨rfl,(aa.trans (hb2.mono aa.size)).trans (ab.mono (aa.trans (hb2.mono aa.size)).size)⟩
   ·simp only[ho,he,and_false,if_false]
    have ac:=Xik he
    go_enter Tryz.func251,Tryz.ntmps251
    go_wp2_with (first
     |(go_at_call 305;refine(hp _).mono ?_;rintro e w1 ⟨rfl,hb⟩;have aa:Below w.heap.size w w1:=(by rcases hb with rfl|⟨t,rfl⟩;exact Below.refl _ _;exact Lib.bytesWorld_below _ _ _);clear hb;have hG1:=Ha hG aa)
     |(go_at_call 173;refine(Ti hG1 hn).mono ?_;rintro e w2 ⟨rfl,hb2⟩;have hG2_:=Ha hG1 hb2)
     |(go_at_call 144;refine(Yt hG2_ hv ho).mono ?_;rintro e w3 ⟨rfl,ab⟩))
    go_ret2
    exact⟨rfl,(aa.trans (hb2.mono aa.size)).trans (ab.mono (aa.trans (hb2.mono aa.size)).size)⟩
 ·dsimp only
  obtain⟨ev,h1,h2⟩:=hG2 hG
  have hp:=Tryz.strconv_Atoi_syntax text (by omega) ha ev w h1 h2
  go_enter Tryz.func251,Tryz.ntmps251
  go_wp2_with (go_at_call 305;refine hp.mono ?_;rintro e w1 ⟨N,rfl,-,-,aa⟩)
  go_ret2
  exact⟨rfl,aa⟩
 ·dsimp only
  obtain⟨ev,h1,h2⟩:=hG3 hG
  have hp:=Tryz.strconv_Atoi_range text (by omega) ha ev w h1 h2
  go_enter Tryz.func251,Tryz.ntmps251
  go_wp2_with (go_at_call 305;refine hp.mono ?_;rintro e w1 ⟨N,rfl,-,-,aa⟩)
  go_ret2
  exact⟨rfl,aa⟩
theorem Xr(hs:text.size≤1000000000)(hr:A6 text=(oa,ob)):Fn Tryz.prog 251 [S text] [] ⟨.tup [I oa,B ob],[],[]⟩:=by
 refine⟨D5 Tryz.func251 rfl rfl,CallOk.ofCallsT rfl rfl fun E vs hS hG hA=>?_⟩
 obtain⟨u,rfl,h1⟩:=XhL hA
 rw[Nv h1]
 have h2:=V4 hs (Globs.step hS (fun _ _=>rfl) hG)
 rw[hr]at h2
 exact h2
def H5(s:ByteArray):Int:=Lib.indexByte s.data.toList 58
def Jp(s:ByteArray):ByteArray×ByteArray×Bool:=if 0≤H5 s then(s.extract 0 (H5 s).toNat,s.extract ((H5 s).toNat+1) s.size,true)else(s,tx [],false)
theorem Qq(c:UInt8):∀l:List UInt8,-1≤Lib.indexByte l c∧Lib.indexByte l c<l.length
 |[]=>by simp[Lib.indexByte]
 |b::l=>by
  have:=Qq c l
  unfold Lib.indexByte
  rw[List.length_cons]
  split
  ·omega
  ·split
   ·omega
   ·omega
theorem Uo{s:ByteArray}{i:Int}(e:H5 s=i): -1≤i∧i<s.size:=by
 rw[←e]
 exact Qq 58 s.data.toList
theorem Io{s:ByteArray}{o:Int}(hr:H5 s=o):Fn Tryz.prog 330 [S s,S (tx [58])] [] ⟨I o,[],[]⟩:=by
 refine⟨D5 Tryz.func330 rfl rfl,CallOk.ofCalls fun E vs hS hA=>?_⟩
 obtain⟨u,v,rfl,h1,h2⟩:=XiB hA
 rw[Nv h1,Nv h2]
 refine(Tryz.stringslite_Index_one s 58 E.w).mono ?_
 rintro e w' ⟨rfl,rfl⟩
 refine⟨_,rfl,Below.refl _ _,?_⟩
 show RelD _ _ (.sc (.int .i64 o)) (.int .i64 (H5 s))
 rw[hr]
 exact .sc _ rfl
theorem Jc{oa:ByteArray}{ob:ByteArray}(hs:a.size≤1000000000)(hr:Jp a=(oa,ob,oc)):Fn Tryz.prog 304 [S a,S (tx [58])] [] ⟨.tup [S oa,S ob,B oc],[],[]⟩:=by
 refine Fn.go Ef Tryz.func304 fun P hP Q hQ=>?_
 conv=>cbv
 generalize aa:H5 a=r1
 refine .dd hP (Io aa) ?_
 conv=>cbv
 have hb:=Uo aa
 refine .geq (fun h2=>?_) fun h2=>?_
 conv=>cbv
 refine .hi fun s3 ab=>?_
 conv=>cbv
 refine .go fun v4 ac=>?_
 conv=>cbv
 have ae:v4=1:=by rw[ac];rfl
 refine .add fun v5 af=>?_
 conv=>cbv
 refine .lo fun s6 ad=>?_
 conv=>cbv
 have e:(s3,s6,true)=Jp a:=(by unfold Jp;rw[aa,if_pos (by omega),ab,ad,show v5.toNat=r1.toNat+1 by omega])
 rw[hr]at e
 simp only[Prod.mk.injEq]at e
 obtain⟨rfl,rfl,rfl⟩:=e
 refine hQ _ _ ?_
 exact .many (.inl rfl) rfl rfl (.d rfl rfl (.d rfl rfl (.d rfl rfl (.nil))))
 conv=>cbv
 have e:(a,(tx []),false)=Jp a:=(by unfold Jp;rw[aa,if_neg (by omega)])
 rw[hr]at e
 simp only[Prod.mk.injEq]at e
 obtain⟨rfl,rfl,rfl⟩:=e
 refine hQ _ _ ?_
 exact .many (.inl rfl) rfl rfl (.d rfl rfl (.d rfl rfl (.d rfl rfl (.nil))))
theorem Xn{oa:ByteArray}{ob:ByteArray}(hs:a.size≤1000000000)(hr:Jp a=(oa,ob,oc)):Fn Tryz.prog 250 [S a,S (tx [58])] [] ⟨.tup [S oa,S ob,B oc],[],[]⟩:=by
 refine Fn.go Ef Tryz.func250 fun P hP Q hQ=>?_
 conv=>cbv
 rcases aa:Jp a with⟨ab,ac,ad⟩
 refine .dd hP (Jc (by omega) aa) ?_
 conv=>cbv
 have e:(ab,ac,ad)=Jp a:=(by exact aa.symm)
 rw[hr]at e
 simp only[Prod.mk.injEq]at e
 obtain⟨rfl,rfl,rfl⟩:=e
 refine hQ _ _ ?_
 exact .many (.inl rfl) rfl rfl (.d rfl rfl (.d rfl rfl (.d rfl rfl (.nil))))
def Cq{α:Type}(l:List α):List α:=l
theorem Mc{α:Type}{c:α→List D}{l:List α}{x:List (List D)}{v:Bool}(hl:l.map c=x)(hv:v=x.isEmpty)(h:v=true):[]=l:=by
 rw[h,←hl]at hv
 cases l with
 |nil=>rfl
 |cons=>cases hv
theorem Cb(hl:l.map Ae=xl)(hn:l.length≤4000000000)(hr:Cq l=o)(ho:o.map Ae=xo):Fn Tryz.prog 176 [.d (.row 2 xl)] [] ⟨.d (.row 2 xo),[],[]⟩:=by
 refine Fn.go Ef Tryz.func176 fun P hP Q hQ=>?_
 conv=>cbv
 refine .go fun v1 ab=>?_
 conv=>cbv
 refine⟨fun h2=>?_,?_⟩
 have e:[]=Cq l:=(by unfold Cq;exact Mc hl ab h2)
 rw[hr]at e
 subst e
 exact hQ _ _ (.r rfl rfl rfl (by rw[←ho];rfl))
 refine .row0 hl fun ad z3 ac aa=>?_
 conv=>cbv
 have e:l=Cq l:=(by rfl)
 rw[hr]at e
 subst e
 exact hQ _ _ (.r rfl rfl (by rw[←aa,List.length_map];first|omega|(simp;omega)) (by rw[←aa,←ho]))
theorem Iy(hl:l.map Ae=xl)(hn:l.length≤4000000000)(hr:Cq l=o)(ho:o.map Ae=xo)(hno:no=o.length):Fn Tryz.prog 176 [.d (.row 2 xl)] [] ⟨.ref 0 0 no,[.row 2 false xo],[]⟩:=by
 refine Fn.goR Ef Tryz.func176 fun P hP Q hQ=>?_
 conv=>cbv
 refine .go fun v1 aa=>?_
 conv=>cbv
 refine⟨fun h2=>?_,?_⟩
 have e:[]=Cq l:=(by unfold Cq;exact Mc hl aa h2)
 rw[hr]at e
 subst e
 obtain rfl:[]=xo:=by first|(rw[←ho];done)|(rw[←ho];rfl)
 obtain rfl:0=no:=by first|omega|(rw[hno];simp;done)|(rw[hno];simp;omega)
 exact hQ _ _ (.of [1] (.inl rfl) rfl rfl rfl rfl)
 refine .row0 hl fun ab z3 ad ac=>?_
 conv=>cbv
 have e:l=Cq l:=(by rfl)
 rw[hr]at e
 subst e
 obtain rfl:z3=xo:=by rw[←ac,←ho]
 obtain rfl:ab=no:=by first|omega|(rw[hno];simp;done)|(rw[hno];simp;omega)
 exact hQ _ _ (.of [2] (.inl rfl) rfl rfl rfl rfl)
theorem Kg{l:List Bs}{o:List Bs}(hl:l.map A5=xl)(hn:l.length≤4000000000)(hr:Cq l=o)(ho:o.map A5=xo):Fn Tryz.prog 195 [.d (.row 3 xl)] [] ⟨.d (.row 3 xo),[],[]⟩:=by
 refine Fn.go Ef Tryz.func195 fun P hP Q hQ=>?_
 conv=>cbv
 refine .go fun v1 ab=>?_
 conv=>cbv
 refine⟨fun h2=>?_,?_⟩
 have e:[]=Cq l:=(by unfold Cq;exact Mc hl ab h2)
 rw[hr]at e
 subst e
 exact hQ _ _ (.r rfl rfl rfl (by rw[←ho];rfl))
 refine .row0 hl fun ad z3 ac aa=>?_
 conv=>cbv
 have e:l=Cq l:=(by rfl)
 rw[hr]at e
 subst e
 exact hQ _ _ (.r rfl rfl (by rw[←aa,List.length_map];first|omega|(simp;omega)) (by rw[←aa,←ho]))
theorem J4{l:List Bs}{o:List Bs}(hl:l.map A5=xl)(hn:l.length≤4000000000)(hr:Cq l=o)(ho:o.map A5=xo)(hno:no=o.length):Fn Tryz.prog 195 [.d (.row 3 xl)] [] ⟨.ref 0 0 no,[.row 3 false xo],[]⟩:=by
 refine Fn.goR Ef Tryz.func195 fun P hP Q hQ=>?_
 conv=>cbv
 refine .go fun v1 aa=>?_
 conv=>cbv
 refine⟨fun h2=>?_,?_⟩
 have e:[]=Cq l:=(by unfold Cq;exact Mc hl aa h2)
 rw[hr]at e
 subst e
 obtain rfl:[]=xo:=by first|(rw[←ho];done)|(rw[←ho];rfl)
 obtain rfl:0=no:=by first|omega|(rw[hno];simp;done)|(rw[hno];simp;omega)
 exact hQ _ _ (.of [1] (.inl rfl) rfl rfl rfl rfl)
 refine .row0 hl fun ab z3 ad ac=>?_
 conv=>cbv
 have e:l=Cq l:=(by rfl)
 rw[hr]at e
 subst e
 obtain rfl:z3=xo:=by rw[←ac,←ho]
 obtain rfl:ab=no:=by first|omega|(rw[hno];simp;done)|(rw[hno];simp;omega)
 exact hQ _ _ (.of [2] (.inl rfl) rfl rfl rfl rfl)
theorem Il{l:List ByteArray}{o:List ByteArray}(hl:l.map cS=xl)(hn:l.length≤4000000000)(hr:Cq l=o)(ho:o.map cS=xo):Fn Tryz.prog 196 [.d (.row 1 xl)] [] ⟨.d (.row 1 xo),[],[]⟩:=by
 refine Fn.go Ef Tryz.func196 fun P hP Q hQ=>?_
 conv=>cbv
 refine .go fun v1 ab=>?_
 conv=>cbv
 refine⟨fun h2=>?_,?_⟩
 have e:[]=Cq l:=(by unfold Cq;exact Mc hl ab h2)
 rw[hr]at e
 subst e
 exact hQ _ _ (.r rfl rfl rfl (by rw[←ho];rfl))
 refine .row0 hl fun ad z3 ac aa=>?_
 conv=>cbv
 have e:l=Cq l:=(by rfl)
 rw[hr]at e
 subst e
 exact hQ _ _ (.r rfl rfl (by rw[←aa,List.length_map];first|omega|(simp;omega)) (by rw[←aa,←ho]))
theorem H4{l:List ByteArray}{o:List ByteArray}(hl:l.map cS=xl)(hn:l.length≤4000000000)(hr:Cq l=o)(ho:o.map cS=xo)(hno:no=o.length):Fn Tryz.prog 196 [.d (.row 1 xl)] [] ⟨.ref 0 0 no,[.row 1 false xo],[]⟩:=by
 refine Fn.goR Ef Tryz.func196 fun P hP Q hQ=>?_
 conv=>cbv
 refine .go fun v1 aa=>?_
 conv=>cbv
 refine⟨fun h2=>?_,?_⟩
 have e:[]=Cq l:=(by unfold Cq;exact Mc hl aa h2)
 rw[hr]at e
 subst e
 obtain rfl:[]=xo:=by first|(rw[←ho];done)|(rw[←ho];rfl)
 obtain rfl:0=no:=by first|omega|(rw[hno];simp;done)|(rw[hno];simp;omega)
 exact hQ _ _ (.of [1] (.inl rfl) rfl rfl rfl rfl)
 refine .row0 hl fun ab z3 ad ac=>?_
 conv=>cbv
 have e:l=Cq l:=(by rfl)
 rw[hr]at e
 subst e
 obtain rfl:z3=xo:=by rw[←ac,←ho]
 obtain rfl:ab=no:=by first|omega|(rw[hno];simp;done)|(rw[hno];simp;omega)
 exact hQ _ _ (.of [2] (.inl rfl) rfl rfl rfl rfl)
theorem Lq{l:List Int}{o:List Int}(hl:l.map cI=xl)(hn:l.length≤4000000000)(hr:Cq l=o)(ho:o.map cI=xo):Fn Tryz.prog 231 [.d (.row 1 xl)] [] ⟨.d (.row 1 xo),[],[]⟩:=by
 refine Fn.go Ef Tryz.func231 fun P hP Q hQ=>?_
 conv=>cbv
 refine .go fun v1 ab=>?_
 conv=>cbv
 refine⟨fun h2=>?_,?_⟩
 have e:[]=Cq l:=(by unfold Cq;exact Mc hl ab h2)
 rw[hr]at e
 subst e
 exact hQ _ _ (.r rfl rfl rfl (by rw[←ho];rfl))
 refine .row0 hl fun ad z3 ac aa=>?_
 conv=>cbv
 have e:l=Cq l:=(by rfl)
 rw[hr]at e
 subst e
 exact hQ _ _ (.r rfl rfl (by rw[←aa,List.length_map];first|omega|(simp;omega)) (by rw[←aa,←ho]))
theorem K5{l:List Int}{o:List Int}(hl:l.map cI=xl)(hn:l.length≤4000000000)(hr:Cq l=o)(ho:o.map cI=xo)(hno:no=o.length):Fn Tryz.prog 231 [.d (.row 1 xl)] [] ⟨.ref 0 0 no,[.row 1 false xo],[]⟩:=by
 refine Fn.goR Ef Tryz.func231 fun P hP Q hQ=>?_
 conv=>cbv
 refine .go fun v1 aa=>?_
 conv=>cbv
 refine⟨fun h2=>?_,?_⟩
 have e:[]=Cq l:=(by unfold Cq;exact Mc hl aa h2)
 rw[hr]at e
 subst e
 obtain rfl:[]=xo:=by first|(rw[←ho];done)|(rw[←ho];rfl)
 obtain rfl:0=no:=by first|omega|(rw[hno];simp;done)|(rw[hno];simp;omega)
 exact hQ _ _ (.of [1] (.inl rfl) rfl rfl rfl rfl)
 refine .row0 hl fun ab z3 ad ac=>?_
 conv=>cbv
 have e:l=Cq l:=(by rfl)
 rw[hr]at e
 subst e
 obtain rfl:z3=xo:=by rw[←ac,←ho]
 obtain rfl:ab=no:=by first|omega|(rw[hno];simp;done)|(rw[hno];simp;omega)
 exact hQ _ _ (.of [2] (.inl rfl) rfl rfl rfl rfl)
end
section
open Go Go.Proofs
set_option maxRecDepth 20000
set_option maxHeartbeats 4000000
def N9:List (Nat×TyRow):=[ty3,ty5,ty9,Xde,XbM]
theorem Zn:By Tryz.prog N9:=By.of (by kernel_rfl)
theorem K9:Setup Tryz.prog N9:=⟨Zn,mixed⟩
def Hb{α:Type}(l:List α)(i:Int)(m:List α):List α:=l.take i.toNat++m++l.drop i.toNat
def Lr{α:Type}(l:List α)(i j:Int):List α:=l.eraseIdx i.toNat
variable {l o oa:List Aj} {xl xo xoa:List (List D)} {nl no:Nat} {i:Int} {name:ByteArray} {ob:Bool}
theorem Fi{m:List Aj}{xm:List (List D)}{nm:Nat}(hl:l.map Ae=xl)(hnl:nl=l.length)(hm:m.map Ae=xm)(hnm:nm=m.length)
  (hp:(0≤i∧i≤l.length)∧l.length≤4000000000∧nm=1)(hr:Hb l i m=o)(ho:o.map Ae=xo)(hno:no=o.length):Fn Tryz.prog 307 [.ref 0 0 nl,I i,.ref 1 0 nm] [.row 2 false xl,.row 2 false xm] ⟨.ref 2 0 no,[.row 2 false xo],[(0,.dead)]⟩:=by
 obtain⟨⟨h0,h1⟩,h2,h3⟩:=hp
 subst h3
 refine⟨D5 Tryz.func307 rfl rfl,?_⟩
 obtain⟨i,rfl⟩:∃k:Nat,i=k:=⟨i.toNat,by omega⟩
 match m,hnm with
 |[x],_=>
  subst hm ho hno hr hl
  have h:=Xfe (xs:=l.map Ae) (v:=Ae x) (n:=nl) (i:=i) (by simpa using hnl) (by omega) (by omega)
  have e:(Hb l i [x]).map Ae=(l.map Ae).take i++Ae x::(l.map Ae).drop i:=by
   unfold Hb
   simp
  have e2:(Hb l i [x]).length=((l.map Ae).take i++Ae x::(l.map Ae).drop i).length:=by rw[←e,List.length_map]
  rw[e,e2]
  exact h
theorem I2{j:Int}(hl:l.map Ae=xl)(hnl:nl=l.length)
  (hp:(0≤i∧i<l.length)∧j=i+1∧l.length≤4000000000)(hr:Lr l i j=o)(ho:o.map Ae=xo)(hno:no=o.length):Fn Tryz.prog 308 [.ref 0 0 nl,I i,I j] [.row 2 false xl] ⟨.ref 1 0 no,[.row 2 false xo],[(0,.dead)]⟩:=by
 obtain⟨⟨h0,h1⟩,h2,h3⟩:=hp
 refine⟨D5 Tryz.func308 rfl rfl,?_⟩
 subst ho hno hr hl
 have h:=Xeu (xs:=l.map Ae) (n:=nl) (i:=i) (j:=j) (by simpa using hnl) h0 (by omega) h2 (by omega)
 have e:(Lr l i j).map Ae=(l.map Ae).eraseIdx i.toNat:=by
  unfold Lr
  apply List.ext_getElem?
  intro k
  simp only[List.getElem?_map,List.getElem?_eraseIdx]
  split<;>rfl
 have e2:(Lr l i j).length=((l.map Ae).eraseIdx i.toNat).length:=by rw[←e,List.length_map]
 rw[e,e2]
 exact h
def I4(e:Aj)(name:ByteArray):Bool:=!(ltB e.name_ name||decide (e.name_=name))
def B4(l:List Aj)(name:ByteArray):Int:=Ub (fun e=>I4 e name) l
def Sd(l:List Aj)(name:ByteArray)(id:Int):List Aj:=
 if 0≤A7 l name then l.set (A7 l name).toNat ⟨(l.getD (A7 l name).toNat ⟨tx [],0⟩).name_,id⟩
 else Hb l (if B4 l name<0 then l.length else B4 l name) [⟨name,id⟩]
def Gs(l:List Aj)(name:ByteArray):List Aj×Bool:=
 if A7 l name<0∨Bg name=false then([],false)else(Lr l (A7 l name) (A7 l name+1),true)
theorem XhK{enam:ByteArray}{eid:Int}{o:Bool}(hr:I4 (⟨enam,eid⟩:Aj) name=o):Fn Tryz.prog 306 [.agg [S enam,I eid],.ptr 0 0 0] [.box 9 [S name]] ⟨B o,[],[]⟩:=by
 refine Fn.goR K9 Tryz.func306 fun P hP Q hQ=>?_
 conv=>cbv
 refine .gtr fun b1 aa=>?_
 conv=>cbv
 have e:b1=I4 (⟨enam,eid⟩:Aj) name:=(by unfold I4;exact aa)
 rw[hr]at e
 subst e
 exact hQ _ _ (.of [] (.inl rfl) rfl rfl rfl rfl)
theorem Ps{o:Int}(hl:l.map Ae=xl)(hnl:nl=l.length)(hn:l.length<2^40)(hr:B4 l name=o):Fn Tryz.prog 301 [.ref 0 0 nl,.clo 306 [.ptr 1 0 0]] [.row 2 false xl,.box 9 [S name]] ⟨I o,[],[]⟩:=by
 refine Fn.goR K9 Tryz.func301 fun P hP Q hQ=>?_
 conv=>cbv
 refine .go fun v1 ah=>?_
 conv=>cbv
 refine LoopW.lp (κ:=Int) K9 hP [] [0,1,7] (fun i8=>[(8,I i8)]) (fun i8=>[])
  (fun i8=>0≤i8∧i8≤l.length∧∀(j:Nat) (hj:j<l.length),j<i8.toNat→I4 l[j] name=false)
  (fun i8=>(l.length - i8).toNat) (0) ⟨by omega,by omega,fun j _ h=>by simp at h⟩ ⟨rfl,trivial⟩ rfl ?_
 rintro i8 J ⟨h0,h1,hb⟩ hJ
 conv=>cbv
 refine .lss (fun h2=>?_) fun h2=>?_
 conv=>cbv
 refine .go i8.toNat fun p3 ae af=>?_
 conv=>cbv
 refine .go hl fun ag ⟨aa,ac⟩ ad=>?_
 conv=>cbv
 subst ae
 generalize ab:I4 (⟨aa,ac⟩:Aj) name=r5
 refine .bx [1] [] hP (XhK ab) rfl rfl rfl rfl ?_
 cases r5
 conv=>cbv
 refine .add fun v6 ai=>?_
 conv=>cbv
 exact .go [] (v6) (hJ _ ⟨by omega,by omega,fun j hj h=>if e:j=i8.toNat then by subst e;rw[←ad];exact ab else hb j hj (by omega)⟩ mlt)
 conv=>cbv
 have e:i8=B4 l name:=(by exact Nz (p:=fun x=>I4 x name) h0 (by omega) (ad▸ab) hb)
 rw[hr]at e
 subst e
 exact hQ _ _ (.of [] (.inl rfl) rfl rfl rfl rfl)
 conv=>cbv
 have e:(-1)=B4 l name:=(by exact Iv (p:=fun x=>I4 x name) fun j hj=>hb j hj (by omega))
 rw[hr]at e
 subst e
 exact hQ _ _ (.of [] (.inl rfl) rfl rfl rfl rfl)
theorem Zj:Setup Tryz.prog ((1000013,D2 Tryz.prog 1000013)::N9):=(Setup.mark 1000013 K9)
theorem XiJ{id:Int}(hl:l.map Ae=xl)(hnl:nl=l.length)(hn:l.length≤4000000000)(hr:Sd l name id=o)(ho:o.map Ae=xo)(hno:no=o.length):Fn Tryz.prog 252 [.ref 0 0 nl,S name,I id] [.row 2 false xl] ⟨.ref 1 0 no,[.row 2 false xo],[(0,.dead)]⟩:=by
 refine Fn.goR Zj Tryz.func252 fun P hP Q hQ=>?_
 conv=>cbv
 refine JoinW.jn (κ:=(List (List D))×Nat) Zj hP [0] [0,2,4] (fun(ab,ac)=>[]) (fun(ab,ac)=>[(3,.row 2 false ab)])
  (fun(ab,ac)=>∃(w3:List Aj),w3.map Ae=ab∧ac=w3.length∧w3=l∧A7 w3 name<0) (fun Jj hJj=>?_) ?_
 conv=>cbv
 generalize aa:A7 l name=r1
 refine .lnt hP (Mb hl (by omega) aa) (.ref rfl (by rw[←hl,List.length_map];first|omega|(simp;omega)) (.d rfl .nil)) ?_
 conv=>cbv
 have hb:=Hg aa
 refine .geq (fun h2=>?_) fun h2=>?_
 conv=>cbv
 refine .go r1.toNat fun p3 ai am=>?_
 conv=>cbv
 refine .go (⟨(l.getD p3 ⟨tx [],0⟩).name_,id⟩:Aj) hl (by omega) (by rw[←gD (show p3<l.length by omega)];rfl) (Nat.le_refl 2) fun z4 aj=>?_
 conv=>cbv
 have e:(l.set p3 (⟨(l.getD p3 ⟨tx [],0⟩).name_,id⟩:Aj))=Sd l name id:=(by unfold Sd;rw[aa,if_pos (by omega),ai])
 rw[hr]at e
 subst e
 obtain rfl:z4=xo:=by rw[←aj,←ho]
 obtain rfl:nl=no:=by first|omega|(rw[hno];simp;done)|(rw[hno];simp;omega)
 exact hQ _ _ (.of [3] (.inl rfl) rfl rfl rfl rfl)
 conv=>cbv
 exact .go [3] (xl,nl) (hJj _ ⟨_,hl,Q7,rfl,by rw[aa];omega⟩)
 rintro⟨ab,ac⟩ ⟨w3,ad,an,hwl,hneg⟩
 have hwn:w3.length=l.length:=by rw[hwl]
 conv=>cbv
 generalize aa:B4 w3 name=r1
 refine .bx [3,1] [] hP (Ps ad (by first|rfl|omega|(simp;omega)) (by omega) aa) rfl rfl rfl rfl ?_
 conv=>cbv
 have hb:=XcB (p:=fun e=>I4 e name) aa
 refine .lss (fun h2=>?_) fun h2=>?_
 conv=>cbv
 refine .go fun v3 ao=>?_
 conv=>cbv
 generalize ae:Hb w3 v3 [(⟨name,id⟩:Aj)]=l4
 generalize af:l4.map Ae=ak
 obtain⟨nl4,hnl4⟩:∃m,m=l4.length:=⟨_,rfl⟩
 refine .bx [3,4] [] hP (Fi ad (by first|rfl|omega|(simp;omega)) rfl (by first|rfl|omega|(simp;omega)) (by omega) ae af hnl4) rfl rfl rfl rfl ?_
 conv=>cbv
 have e:l4=Sd l name id:=(by rw[←hwl];unfold Sd;rw[if_neg (by omega),aa,if_pos (by omega),show((w3.length:Nat):Int)=v3 by omega];exact ae.symm)
 rw[hr]at e
 subst e
 obtain rfl:ak=xo:=by rw[←af,←ho]
 obtain rfl:nl4=no:=by first|omega|(rw[hno];simp;done)|(rw[hno];simp;omega)
 exact hQ _ _ (.of [5] (.inl rfl) rfl rfl rfl rfl)
 conv=>cbv
 generalize ag:Hb w3 r1 [(⟨name,id⟩:Aj)]=l3
 generalize ah:l3.map Ae=al
 obtain⟨nl3,hnl3⟩:∃m,m=l3.length:=⟨_,rfl⟩
 refine .bx [3,4] [] hP (Fi ad (by first|rfl|omega|(simp;omega)) rfl (by first|rfl|omega|(simp;omega)) (by omega) ag ah hnl3) rfl rfl rfl rfl ?_
 conv=>cbv
 have e:l3=Sd l name id:=(by rw[←hwl];unfold Sd;rw[if_neg (by omega),aa,if_neg (by omega)];exact ag.symm)
 rw[hr]at e
 subst e
 obtain rfl:al=xo:=by rw[←ah,←ho]
 obtain rfl:nl3=no:=by first|omega|(rw[hno];simp;done)|(rw[hno];simp;omega)
 exact hQ _ _ (.of [5] (.inl rfl) rfl rfl rfl rfl)
theorem V1:Setup Tryz.prog ((1000016,D2 Tryz.prog 1000016)::N9):=(Setup.mark 1000016 K9)
theorem XgW{noa:Nat}(hl:l.map Ae=xl)(hnl:nl=l.length)(hn:l.length≤4000000000)(hs:name.size≤1000000000)(hr:Gs l name=(oa,ob))(hoa:oa.map Ae=xoa)(hnoa:noa=oa.length):Fn Tryz.prog 253 [.ref 0 0 nl,S name] [.row 2 false xl] ⟨.tup [.ref 1 0 noa,B ob],[.row 2 false xoa],[(0,.dead)]⟩:=by
 refine Fn.goR V1 Tryz.func253 fun P hP Q hQ=>?_
 conv=>cbv
 generalize ab:A7 l name=r1
 refine .lnt hP (Mb hl (by omega) ab) (.ref rfl (by rw[←hl,List.length_map];first|omega|(simp;omega)) (.d rfl .nil)) ?_
 conv=>cbv
 have hb:=Hg ab
 refine JoinW.jn (κ:=(List (List D))×Nat) V1 hP [0] [0,6] (fun(ac,ad)=>[]) (fun(ac,ad)=>[(2,.row 2 false ac)])
  (fun(ac,ad)=>∃(w2:List Aj),w2.map Ae=ac∧ad=w2.length∧w2=l∧0≤r1∧Bg name=true) (fun Jj hJj=>?_) ?_
 conv=>cbv
 refine .lss (fun h2=>?_) fun h2=>?_
 conv=>cbv
 have e:([],false)=Gs l name:=(by unfold Gs;rw[ab,if_pos (.inl h2)])
 rw[hr]at e
 simp only[Prod.mk.injEq]at e
 obtain⟨rfl,rfl⟩:=e
 obtain rfl:[]=xoa:=by first|(rw[←hoa];done)|(rw[←hoa];rfl)
 obtain rfl:0=noa:=by first|omega|(rw[hnoa];simp;done)|(rw[hnoa];simp;omega)
 exact hQ _ _ (.of [3] (.inl rfl) rfl rfl rfl rfl)
 conv=>cbv
 generalize aa:Bg name=r3
 refine .dd hP (Mq (by omega) aa) ?_
 cases r3
 conv=>cbv
 have e:([],false)=Gs l name:=(by unfold Gs;rw[ab,if_pos (.inr aa)])
 rw[hr]at e
 simp only[Prod.mk.injEq]at e
 obtain⟨rfl,rfl⟩:=e
 obtain rfl:[]=xoa:=by first|(rw[←hoa];done)|(rw[←hoa];rfl)
 obtain rfl:0=noa:=by first|omega|(rw[hnoa];simp;done)|(rw[hnoa];simp;omega)
 exact hQ _ _ (.of [3] (.inl rfl) rfl rfl rfl rfl)
 conv=>cbv
 exact .go [2] (xl,nl) (hJj _ ⟨_,hl,Q7,rfl,by omega,aa⟩)
 rintro⟨ac,ad⟩ ⟨w2,af,ai,hwl,aj,hnm⟩
 have hwn:w2.length=l.length:=by rw[hwl]
 conv=>cbv
 refine .add fun v2 ag=>?_
 conv=>cbv
 generalize aa:Lr w2 r1 v2=l3
 generalize ae:l3.map Ae=ah
 obtain⟨nl3,hnl3⟩:∃m,m=l3.length:=⟨_,rfl⟩
 refine .bx [2] [] hP (I2 af (by first|rfl|omega|(simp;omega)) (by omega) aa ae hnl3) rfl rfl rfl rfl ?_
 conv=>cbv
 have e:(l3,true)=Gs l name:=(by unfold Gs;rw[ab,if_neg (by rintro(h|h);omega;rw[hnm]at h;cases h),←aa,ag,hwl])
 rw[hr]at e
 simp only[Prod.mk.injEq]at e
 obtain⟨rfl,rfl⟩:=e
 obtain rfl:ah=xoa:=by rw[←ae,←hoa]
 obtain rfl:nl3=noa:=by first|omega|(rw[hnoa];simp;done)|(rw[hnoa];simp;omega)
 exact hQ _ _ (.of [3] (.inl rfl) rfl rfl rfl rfl)
theorem Xd0{o:Int}(hl:l.map Ae=xl)(hn:l.length≤4000000000)(hr:Cg l name=o):Fn Tryz.prog 254 [.d (.row 2 xl),S name] [] ⟨I o,[],[]⟩:=by
 refine Fn.go K9 Tryz.func254 fun P hP Q hQ=>?_
 conv=>cbv
 generalize aa:A7 l name=r1
 refine .dd hP (Mb hl (by omega) aa) ?_
 conv=>cbv
 have hb:=Hg aa
 refine .lss (fun h2=>?_) fun h2=>?_
 conv=>cbv
 have e:0=Cg l name:=(by unfold Cg;rw[aa,if_pos (by omega)])
 rw[hr]at e
 subst e
 exact hQ _ _ (.i rfl rfl)
 conv=>cbv
 refine .go r1.toNat hl fun ae ⟨ac,ab⟩ ad=>?_
 conv=>cbv
 have e:ab=Cg l name:=(by unfold Cg;rw[aa,if_neg (by omega),←gD (show r1.toNat<l.length by omega),←ad])
 rw[hr]at e
 subst e
 exact hQ _ _ (.i rfl rfl)
def Ay(l:List Aj)(step:ByteArray):List Aj×Bool:=
 if step=tx []then([],false)else
 let nm:=(Jp (step.extract 1 step.size)).1
 let rest:=(Jp (step.extract 1 step.size)).2.1
 let has:=(Jp (step.extract 1 step.size)).2.2
 if step.data.toList.head?=some 43 then
  (if has=false∨(A6 rest).2=false∨Bg nm=false then([],false)else(Sd l nm (A6 rest).1,true))
 else if step.data.toList.head?=some 45 then Gs l (step.extract 1 step.size)
 else if step.data.toList.head?=some 62 then
  (if has=false∨(Gs l nm).2=false∨Bg rest=false∨nm=rest then([],false)else(Sd (Gs l nm).1 rest (Cg l nm),true))
 else([],false)
theorem Jk{t:ByteArray}(h:0<t.size):t.data.toList.head?=some t[0]:=by
 rw[List.head?_eq_getElem?]
 exact Kr h
theorem Xb3{t:ByteArray}(h:t≠tx []):0<t.size:=by
 rcases Nat.eq_zero_or_pos t.size with h0|h0
 ·exfalso
  apply h
  have hl:t.data.toList.length=t.size:=Array.length_toList
  rw[h0]at hl
  have h1:=List.eq_nil_of_length_eq_zero hl
  apply ByteArray.ext
  exact Array.toList_inj.1 (by rw[h1];rfl)
 ·exact h0
theorem Xgk{b:UInt8}{v:Int}{n:Nat}(hv:v=(b.toNat:Int))(h:v=(n:Int))(hn:n<256):b=UInt8.ofNat n:=by
 apply UInt8.toNat_inj.1
 rw[UInt8.toNat_ofNat',Nat.mod_eq_of_lt (by omega)]
 omega
theorem XfZ{b:UInt8}{v:Int}{n:Nat}(hv:v=(b.toNat:Int))(h:v≠(n:Int))(hn:n<256):b≠UInt8.ofNat n:=by
 rintro rfl
 apply h
 rw[hv,UInt8.toNat_ofNat',Nat.mod_eq_of_lt (by omega)]
section
variable {l:List Aj} {step a b:ByteArray} {c:Bool}
theorem XcA(h:step=tx []):Ay l step=([],false):=by
 unfold Ay
 rw[if_pos h]
theorem Ki(h:step≠tx [])(hh:step.data.toList.head?=some 43)(hc:Jp (step.extract 1 step.size)=(a,b,c)):Ay l step=if c=false∨(A6 b).2=false∨Bg a=false then([],false)else(Sd l a (A6 b).1,true):=by
 unfold Ay
 rw[if_neg h,hc,if_pos hh]
theorem Vi(h:step≠tx [])(hh:step.data.toList.head?=some 45):Ay l step=Gs l (step.extract 1 step.size):=by
 unfold Ay
 rw[if_neg h,if_neg (by rw[hh];decide),if_pos hh]
theorem Kk(h:step≠tx [])(hh:step.data.toList.head?=some 62)(hc:Jp (step.extract 1 step.size)=(a,b,c)):Ay l step=if c=false∨(Gs l a).2=false∨Bg b=false∨a=b then([],false)else(Sd (Gs l a).1 b (Cg l a),true):=by
 unfold Ay
 rw[if_neg h,hc,if_neg (by rw[hh];decide),if_neg (by rw[hh];decide),if_pos hh]
theorem Ym{x:UInt8}(h:step≠tx [])(hh:step.data.toList.head?=some x)(h1:x≠43)(h2:x≠45)(h3:x≠62):Ay l step=([],false):=by
 unfold Ay
 have k:∀y,x≠y→¬step.data.toList.head?=some y:=fun y hy e=>hy (by rw[hh]at e;exact Option.some.inj e)
 rw[if_neg h,if_neg (k _ h1),if_neg (k _ h2),if_neg (k _ h3)]
end
theorem Xd1{s a b:ByteArray}{c:Bool}(e:Jp s=(a,b,c)):a.size≤s.size∧b.size≤s.size:=by
 unfold Jp at e
 split at e
 ·simp only[Prod.mk.injEq]at e
  obtain⟨rfl,rfl,rfl⟩:=e
  rw[ByteArray.size_extract,ByteArray.size_extract]
  omega
 ·simp only[Prod.mk.injEq]at e
  obtain⟨rfl,rfl,rfl⟩:=e
  exact⟨Nat.le_refl _,by rw[B2];exact Nat.zero_le _⟩
theorem Tn{l a:List Aj}{n:ByteArray}{b:Bool}(e:Gs l n=(a,b)):a.length≤l.length:=by
 unfold Gs at e
 split at e
 ·simp only[Prod.mk.injEq]at e
  rw[←e.1]
  exact Nat.zero_le _
 ·simp only[Prod.mk.injEq]at e
  rw[←e.1]
  unfold Lr
  rw[List.length_eraseIdx]
  split<;>omega
theorem Xb0{l a:List Aj}{n:ByteArray}{i:Int}(e:Sd l n i=a):a.length≤l.length+1:=by
 rw[←e]
 unfold Sd Hb
 split
 ·rw[List.length_set];omega
 ·simp only[List.length_append,List.length_take,List.length_drop,List.length_cons,List.length_nil]
  omega
theorem O4{l a:List Aj}{s:ByteArray}{b:Bool}(e:Ay l s=(a,b)):a.length≤l.length+1:=by
 unfold Ay at e
 have h0:∀{b:Bool},(([]:List Aj),false)=(a,b)→a.length≤l.length+1:=fun h=>by
  simp only[Prod.mk.injEq]at h
  rw[←h.1];exact Nat.zero_le _
 split at e
 ·exact h0 e
 ·dsimp only at e
  split at e
  ·split at e
   ·exact h0 e
   ·simp only[Prod.mk.injEq]at e
    exact Xb0 e.1
  ·split at e
   ·have:=Tn e;omega
   ·split at e
    ·split at e
     ·exact h0 e
     ·simp only[Prod.mk.injEq]at e
      have h1:=Xb0 e.1
      have h2:=Tn (l:=l) (n:=(Jp (s.extract 1 s.size)).1) (a:=(Gs l (Jp (s.extract 1 s.size)).1).1) (b:=(Gs l (Jp (s.extract 1 s.size)).1).2) rfl
      omega
    ·exact h0 e
theorem Pn{step:ByteArray}(hl:l.map Ae=xl)(hn:l.length≤4000000000)(hs:step.size≤1000000000)(hr:Ay l step=(oa,ob))(hoa:oa.map Ae=xoa):Fn Tryz.prog 179 [.d (.row 2 xl),S step] [] ⟨.tup [.d (.row 2 xoa),B ob],[],[]⟩:=by
 refine Fn.go K9 Tryz.func179 fun P hP Q hQ=>?_
 conv=>cbv
 refine .eql (fun h1=>?_) fun h1=>?_
 conv=>cbv
 have e:([],false)=Ay l step:=(by exact(XcA h1).symm)
 rw[hr]at e
 simp only[Prod.mk.injEq]at e
 obtain⟨rfl,rfl⟩:=e
 refine hQ _ _ ?_
 exact .many (.inl rfl) rfl rfl (.ref rfl rfl (by rw[←hoa];rfl) (.d rfl rfl (.nil)))
 conv=>cbv
 have hps:=Xb3 h1
 refine .lo fun s2 ax=>?_
 conv=>cbv
 have a9:s2.size≤step.size:=by rw[ax,ByteArray.size_extract];omega
 rcases al:Jp s2 with⟨ae,am,ao⟩
 have hcb:=Xd1 al
 have hcu:Jp (step.extract 1 step.size)=(ae,am,ao):=by rw[ax]at al;exact al
 refine .dd hP (Xn (by omega) al) ?_
 conv=>cbv
 generalize ay:Cq l=l4
 have aa:l4=l:=ay.symm
 have a6:l4.length=l.length:=by rw[aa]
 generalize af:l4.map Ae=ba
 obtain⟨nl4,hnl4⟩:∃m,m=l4.length:=⟨_,rfl⟩
 refine .ddA hP (Iy hl (by omega) ay af hnl4) rfl rfl rfl (af▸Ra (fun _=>rfl) l4) ?_
 conv=>cbv
 refine .go 0 fun hjv5 v5 ad bv5=>?_
 conv=>cbv
 refine .eql (fun h6=>?_) fun h6=>?_
 conv=>cbv
 have hh:step.data.toList.head?=some 43:=(Jk hps).trans (congrArg some (Xgk (n:=43) ad (by omega) (by decide)))
 rcases ap:A6 am with⟨a1,a2⟩
 refine .dd hP (Xr (by omega) ap) ?_
 conv=>cbv
 cases ao
 conv=>cbv
 have e:([],false)=Ay l step:=(by rw[Ki h1 hh hcu,if_pos (.inl rfl)])
 rw[hr]at e
 simp only[Prod.mk.injEq]at e
 obtain⟨rfl,rfl⟩:=e
 refine hQ _ _ ?_
 exact .many (.inl rfl) rfl rfl (.ref rfl rfl (by rw[←hoa];rfl) (.d rfl rfl (.nil)))
 conv=>cbv
 cases a2
 conv=>cbv
 have e:([],false)=Ay l step:=(by rw[Ki h1 hh hcu,ap,if_pos (.inr (.inl rfl))])
 rw[hr]at e
 simp only[Prod.mk.injEq]at e
 obtain⟨rfl,rfl⟩:=e
 refine hQ _ _ ?_
 exact .many (.inl rfl) rfl rfl (.ref rfl rfl (by rw[←hoa];rfl) (.d rfl rfl (.nil)))
 conv=>cbv
 generalize aq:Bg ae=r8
 refine .dd hP (Mq (by omega) aq) ?_
 cases r8
 conv=>cbv
 have e:([],false)=Ay l step:=(by rw[Ki h1 hh hcu,if_pos (.inr (.inr aq))])
 rw[hr]at e
 simp only[Prod.mk.injEq]at e
 obtain⟨rfl,rfl⟩:=e
 refine hQ _ _ ?_
 exact .many (.inl rfl) rfl rfl (.ref rfl rfl (by rw[←hoa];rfl) (.d rfl rfl (.nil)))
 conv=>cbv
 generalize ab:Sd l4 ae a1=l9
 generalize ar:l9.map Ae=bb
 obtain⟨nl9,hnl9⟩:∃m,m=l9.length:=⟨_,rfl⟩
 refine .bx [1] [] hP (XiJ af (by first|rfl|omega|(simp;omega)) (by omega) ab ar hnl9) rfl rfl rfl rfl ?_
 conv=>cbv
 have e:(l9,true)=Ay l step:=(by rw[Ki h1 hh hcu,ap,if_neg (by rw[aq];simp),←ab,aa])
 rw[hr]at e
 simp only[Prod.mk.injEq]at e
 obtain⟨rfl,rfl⟩:=e
 refine hQ _ _ ?_
 exact .many (.inl rfl) rfl rfl (.ref rfl (by rw[←ar,List.length_map];first|omega|(simp;omega)) (by rw[←ar,←hoa]) (.d rfl rfl (.nil)))
 conv=>cbv
 refine .eql (fun h7=>?_) fun h7=>?_
 conv=>cbv
 have hh:step.data.toList.head?=some 45:=(Jk hps).trans (congrArg some (Xgk (n:=45) ad (by omega) (by decide)))
 refine .lo fun s8 az=>?_
 conv=>cbv
 have bc:s8.size≤step.size:=by rw[az,ByteArray.size_extract];omega
 rcases ab:Gs l4 s8 with⟨au,a3⟩
 generalize ag:au.map Ae=a7
 obtain⟨nr9a,hnr9a⟩:∃m,m=au.length:=⟨_,rfl⟩
 refine .bx [1] [] hP (XgW af (by first|rfl|omega|(simp;omega)) (by omega) (by omega) ab ag hnr9a) rfl rfl rfl rfl ?_
 conv=>cbv
 have e:(au,a3)=Ay l step:=(by rw[Vi h1 hh];rw[az,aa]at ab;exact ab.symm)
 rw[hr]at e
 simp only[Prod.mk.injEq]at e
 obtain⟨rfl,rfl⟩:=e
 refine hQ _ _ ?_
 exact .many (.inl rfl) rfl rfl (.ref rfl (by rw[←ag,List.length_map];first|omega|(simp;omega)) (by rw[←ag,←hoa]) (.d rfl rfl (.nil)))
 conv=>cbv
 refine .eql (fun h8=>?_) fun h8=>?_
 conv=>cbv
 have hh:step.data.toList.head?=some 62:=(Jk hps).trans (congrArg some (Xgk (n:=62) ad (by omega) (by decide)))
 generalize ab:Cg l ae=r9
 refine .dd hP (Xd0 hl (by omega) ab) ?_
 conv=>cbv
 rcases ac:Gs l4 ae with⟨ah,a0⟩
 have hdl:=Tn ac
 generalize ai:ah.map Ae=a4
 obtain⟨nr10a,hnr10a⟩:∃m,m=ah.length:=⟨_,rfl⟩
 refine .bx [1] [] hP (XgW af (by first|rfl|omega|(simp;omega)) (by omega) (by omega) ac ai hnr10a) rfl rfl rfl rfl ?_
 conv=>cbv
 cases ao
 conv=>cbv
 have e:([],false)=Ay l step:=(by rw[Kk h1 hh hcu,if_pos (.inl rfl)])
 rw[hr]at e
 simp only[Prod.mk.injEq]at e
 obtain⟨rfl,rfl⟩:=e
 refine hQ _ _ ?_
 exact .many (.inl rfl) rfl rfl (.ref rfl rfl (by rw[←hoa];rfl) (.d rfl rfl (.nil)))
 conv=>cbv
 cases a0
 conv=>cbv
 have e:([],false)=Ay l step:=(by rw[Kk h1 hh hcu,←aa,ac,if_pos (.inr (.inl rfl))])
 rw[hr]at e
 simp only[Prod.mk.injEq]at e
 obtain⟨rfl,rfl⟩:=e
 refine hQ _ _ ?_
 exact .many (.inl rfl) rfl rfl (.ref rfl rfl (by rw[←hoa];rfl) (.d rfl rfl (.nil)))
 conv=>cbv
 generalize aj:Bg am=a5
 refine .dd hP (Mq (by omega) aj) ?_
 cases a5
 conv=>cbv
 have e:([],false)=Ay l step:=(by rw[Kk h1 hh hcu,if_pos (.inr (.inr (.inl aj)))])
 rw[hr]at e
 simp only[Prod.mk.injEq]at e
 obtain⟨rfl,rfl⟩:=e
 refine hQ _ _ ?_
 exact .many (.inl rfl) rfl rfl (.ref rfl rfl (by rw[←hoa];rfl) (.d rfl rfl (.nil)))
 conv=>cbv
 refine .eql (fun h12=>?_) fun h12=>?_
 conv=>cbv
 have e:([],false)=Ay l step:=(by rw[Kk h1 hh hcu,if_pos (.inr (.inr (.inr h12)))])
 rw[hr]at e
 simp only[Prod.mk.injEq]at e
 obtain⟨rfl,rfl⟩:=e
 refine hQ _ _ ?_
 exact .many (.inl rfl) rfl rfl (.ref rfl rfl (by rw[←hoa];rfl) (.d rfl rfl (.nil)))
 conv=>cbv
 generalize an:Sd ah am r9=aw
 generalize ak:aw.map Ae=a8
 obtain⟨nl13,hnl13⟩:∃m,m=aw.length:=⟨_,rfl⟩
 refine .bx [2] [] hP (XiJ ai (by first|rfl|omega|(simp;omega)) (by omega) an ak hnl13) rfl rfl rfl rfl ?_
 conv=>cbv
 have e:(aw,true)=Ay l step:=(by rw[Kk h1 hh hcu,if_neg (by rw[←aa,ac,aj];simp;exact h12),ab,←an,←aa,ac])
 rw[hr]at e
 simp only[Prod.mk.injEq]at e
 obtain⟨rfl,rfl⟩:=e
 refine hQ _ _ ?_
 exact .many (.inl rfl) rfl rfl (.ref rfl (by rw[←ak,List.length_map];first|omega|(simp;omega)) (by rw[←ak,←hoa]) (.d rfl rfl (.nil)))
 conv=>cbv
 have e:([],false)=Ay l step:=(by rw[Ym h1 (Jk hps) (XfZ (n:=43) ad h6 (by decide)) (XfZ (n:=45) ad h7 (by decide)) (XfZ (n:=62) ad h8 (by decide))])
 rw[hr]at e
 simp only[Prod.mk.injEq]at e
 obtain⟨rfl,rfl⟩:=e
 refine hQ _ _ ?_
 exact .many (.inl rfl) rfl rfl (.ref rfl rfl (by rw[←hoa];rfl) (.d rfl rfl (.nil)))
end
end Go.Proofs.YtgdmjbcllgmepaaGreatDoor.Ab
