/- What functions of the program come to, for all arguments in the given bounds. -/
import Derived.Test.YtgdmjbcllgmepaaGreatDoorWlch10
import Derived.Below
import Derived.ProofKit
import Derived.Test.YtgdmjbcllgmepaaGreatDoorWlZ9
import Derived.Lib.AtoiErrMem
import Derived.Lib.SlicesS
import Derived.Lib.ItoaNum
import Derived.Lib.AppendIntMem
import Derived.Shelf.Spec.SlicesInsertGrow
set_option linter.unusedVariables false
set_option linter.unusedSimpArgs false
namespace Go.Proofs.YtgdmjbcllgmepaaGreatDoor.Ab
section
open Go Go.Proofs
set_option maxRecDepth 20000
set_option maxHeartbeats 4000000
def Xal:List (Nat×TyRow):=[ty2,ty3,ty4,ty5,ty9,Xca,Xhx,XhD]
theorem Y7:Ck Tryz.prog Xal:=Ck.of (by kernel_rfl)
theorem Kx:Setup Tryz.prog Xal:=⟨Y7,mixed⟩
def dig(n:Nat):UInt8:=if n% 16<10 then UInt8.ofNat (48+n% 16)else UInt8.ofNat (87+n% 16)
def Vc:Nat→Nat→List UInt8
 |0,_=>[]
 |k+1,n=>Vc k (n/16)++[dig n]
def Yd(n:Nat):List UInt8:=if h:n<16 then[dig n]else Yd (n/16)++[dig n]
termination_by n
decreasing_by omega
theorem Oo{n:Nat}(h:n<16):Yd n=[dig n]:=by rw[Yd,dif_pos h]
theorem Xt{n:Nat}(h:¬n<16):Yd n=Yd (n/16)++[dig n]:=by rw[Yd,dif_neg h]
theorem Xek:dig 0=48:=rfl
theorem Xr:∀(k:Nat),Vc k 0=List.replicate k 48
 |0=>rfl
 |k+1=>by rw[Vc,Nat.zero_div,Xr k,Xek,List.replicate_succ']
theorem Nt:∀(k n:Nat),(Vc k n).length=k
 |0,_=>rfl
 |k+1,n=>by rw[Vc,List.length_append,Nt];rfl
theorem Xfj:∀(k n:Nat),n<16^ (k+1)→Vc (k+1) n=List.replicate (k+1 - (Yd n).length) 48++Yd n∧1≤(Yd n).length∧(Yd n).length≤k+1
 |0,n,h=>by
  have h:n<16:=by simpa using h
  rw[Oo h]
  simp[Vc]
 |k+1,n,h=>by
  by_cases hn:n<16
  ·rw[Oo hn,Vc,Nat.div_eq_of_lt hn,Xr]
   simp
  ·have h2:n/16<16^ (k+1):=by rw[Nat.pow_succ]at h;omega
   obtain⟨i1,i2,i3⟩:=Xfj k (n/16) h2
   rw[Xt hn,Vc,i1,List.length_append,List.length_singleton,List.append_assoc]
   refine⟨?_,by omega,by omega⟩
   congr 2
   omega
def Ax(n:Int):ByteArray:=if 0≤n∧n≤1000000000 then tx (115::(Vc 8 n.toNat++[46,115,101,103]))else tx []
theorem Mc{n:Int}{o:ByteArray}(e:Ax n=o):o.size≤13:=by
 rw[←e]
 unfold Ax
 split
 ·rw[A7,List.length_cons,List.length_append,Nt];simp
 ·simp[A7]
theorem digL:∀(j:Nat) (h:j<(⟨⟨[48,49,50,51,52,53,54,55,56,57,97,98,99,100,101,102]⟩⟩:ByteArray).size),(⟨⟨[48,49,50,51,52,53,54,55,56,57,97,98,99,100,101,102]⟩⟩:ByteArray)[j]=dig j:=by
 have key:∀j:Fin 16,(⟨⟨[48,49,50,51,52,53,54,55,56,57,97,98,99,100,101,102]⟩⟩:ByteArray)[j.val]'j.isLt=dig j.val:=by decide
 intro j h
 exact key ⟨j,h⟩
theorem Z2(n:Nat):dig (n% 16)=dig n:=by unfold dig;rw[Nat.mod_mod]
theorem and15(a:Int):Nq .and .i64 a 15=a% 16:=Hg (k:=4) (by omega)
theorem Xg7{x:Nat}(h:x<18446744073709551616):Nq .and .u64 (x:Int) 15=((x% 16:Nat):Int):=by
 show IntKind.u64.wrap ((BitVec.ofInt 64 (x:Int)&&&BitVec.ofInt 64 ((15:Nat):Int)).toNat:Int)=_
 rw[BitVec.toNat_and,Hp (by omega),Hp (by omega),Fk,show(15:Nat)=2^4 - 1 from rfl,Nat.and_two_pow_sub_one_eq_mod]
 omega
theorem digF:∀(j:Nat) (hj:j<16) (h:j<(⟨⟨[48,49,50,51,52,53,54,55,56,57,97,98,99,100,101,102,103,104,105,106,107,108,109,110,111,112,113,114,115,116,117,118,119,120,121,122]⟩⟩:ByteArray).size),(⟨⟨[48,49,50,51,52,53,54,55,56,57,97,98,99,100,101,102,103,104,105,106,107,108,109,110,111,112,113,114,115,116,117,118,119,120,121,122]⟩⟩:ByteArray)[j]=dig j:=by
 have key:∀j:Fin 16,(⟨⟨[48,49,50,51,52,53,54,55,56,57,97,98,99,100,101,102,103,104,105,106,107,108,109,110,111,112,113,114,115,116,117,118,119,120,121,122]⟩⟩:ByteArray)[j.val]'(Nat.lt_of_lt_of_le j.isLt (by decide))=dig j.val:=by decide
 intro j hj h
 exact key ⟨j,hj⟩
theorem Xc3{v:Int}{n:Nat}(h:v=((dig n).toNat:Int)):[D.sc (.int .u8 v)]=cB (dig n):=by rw[h];rfl
theorem XaN{α:Type}{l:List α}{p:Nat}{x:α}(h:p<l.length):(l.set p x).drop p=x::l.drop (p+1):=by
 rw[List.drop_eq_getElem_cons (by rw[List.length_set];exact h),List.getElem_set_self]
 congr 1
 rw[List.drop_set_of_lt (by omega)]
def Hx:Bool:=true
def Me(_:Int):Int:=4
def Jz(u:Int):List UInt8×ByteArray:=([],tx (Yd u.toNat))
def Gf(n:Int):ByteArray:=tx (Yd n.toNat)
def P6(n:Int):ByteArray:=tx (List.replicate n.toNat 48)
theorem tz64{w:World}(h:Lib.TabIs Tryz.prog w "math/bits.deBruijn64tab" .u8 O7):Calls Tryz.prog 368 #[.int .u64 16] w fun e w'=>e= .returned (.int .i64 4)∧w'=w:=by
 have hq:IntKind.u64.wrap (bits BinOp.and IntKind.u64 16 (IntKind.u64.wrap (-16))*285870213051353865)/288230376151711744=15:=by decide+kernel
 have hc:w.cell? ⟨5,15,none⟩=some (.int .u8 4):=h.cell gn5 15 (by decide)
 go_enter Tryz.func368,Tryz.ntmps368
 go_wp2
 go_ret
 exact⟨rfl,rfl⟩
theorem tz{w:World}(h:Lib.TabIs Tryz.prog w "math/bits.deBruijn64tab" .u8 O7):Calls Tryz.prog 360 #[.int .u64 16] w fun e w'=>e= .returned (.int .i64 4)∧w'=w:=by
 go_enter Tryz.func360,Tryz.ntmps360
 go_wp2_with (first
  |(go_at_call 368;refine(tz64 h).mono ?_;rintro e w' ⟨rfl,rfl⟩)
  |go_in)
 go_ret
 exact⟨rfl,rfl⟩
variable {o:ByteArray} {n:Int}
theorem I3{x o:Int}(hx:x=16)(hr:Me x=o):Fn Tryz.prog 360 [.d (.sc (.int .u64 x))] [] ⟨I o,[],[]⟩:=by
 refine⟨E3 Tryz.func360 rfl rfl,CallOk.ofCallsG fun E vs hS hG hA=>?_⟩
 obtain⟨u,rfl,h1⟩:=XfL hA
 rw[O3 h1,hx]
 refine(tz (Xf6 hG)).mono ?_
 rintro e w' ⟨rfl,rfl⟩
 exact⟨_,rfl,⟨rfl,rfl,rfl,Nat.le_refl _,fun _ _=>rfl⟩,by rw[←hr];exact .sc _ rfl⟩
theorem Ka(hr:Ax n=o):Fn Tryz.prog 157 [I n] [] ⟨S o,[],[]⟩:=by
 refine Fn.go Kx Tryz.func157 fun P hP Q hQ=>?_
 conv=>cbv
 generalize ac:Bf n 0 1000000000=r1
 refine .dd hP (Dx ac) ?_
 cases r1
 simp only[Bf,decide_eq_true_eq,decide_eq_false_iff_not]at ac
 conv=>cbv
 have e:(tx [])=Ax n:=(by unfold Ax;rw[if_neg (by omega)])
 rw[hr]at e
 subst e
 exact hQ _ _ (.s rfl rfl)
 simp only[Bf,decide_eq_true_eq,decide_eq_false_iff_not]at ac
 conv=>cbv
 refine LoopW.lp (κ:=Int×(List (List D))×Nat) Kx hP [0] [0] (fun(i4,aa,ab)=>[(3,.ref 1 0 ab),(4,I i4)]) (fun(i4,aa,ab)=>[(1,.row 1 false aa)])
  (fun(i4,aa,ab)=>∃(w1:List UInt8),w1.map cB=aa∧ab=w1.length∧-1≤i4∧i4≤7∧w1=Vc (7 - i4).toNat (n.toNat/16^ (i4+1).toNat))
  (fun(i4,aa,ab)=>(i4+1).toNat) (7,[],0) ⟨[],rfl,rfl,by omega,by omega,rfl⟩ ⟨rfl,rfl,trivial⟩ rfl ?_
 rintro⟨i4,aa,ab⟩ J ⟨w1,ad,an,h0,h1,hw⟩ hJ
 have hwl:w1.length=(7 - i4).toNat:=by rw[hw,Nt]
 have hsz:(⟨⟨[48,49,50,51,52,53,54,55,56,57,97,98,99,100,101,102]⟩⟩:ByteArray).size=16:=rfl
 conv=>cbv
 refine .geq (fun h2=>?_) fun h2=>?_
 conv=>cbv
 refine .mul fun v3 ap=>?_
 conv=>cbv
 refine .go fun v4 af=>?_
 conv=>cbv
 have e4:v4=v3:=by rw[af,Fk];omega
 refine .shr fun v5 ag=>?_
 conv=>cbv
 refine .and fun v6 ah=>?_
 conv=>cbv
 have e5:v5=((n.toNat/16^i4.toNat:Nat):Int):=by
  have e2:(2:Int)^v4.toNat=((16^i4.toNat:Nat):Int):=by
   rw[show v4.toNat=4*i4.toNat by omega,Int.pow_mul,Int.natCast_pow]
   rfl
  rw[ag,e2,Int.natCast_ediv,Int.toNat_of_nonneg (by omega)]
 have e6:v6=((n.toNat/16^i4.toNat% 16:Nat):Int):=by rw[ah,and15,e5];omega
 have aq:n.toNat/16^i4.toNat% 16<16:=Nat.mod_lt _ (by omega)
 refine .go v6.toNat fun hjv7 v7 ai bv7=>?_
 conv=>cbv
 have e7:[D.sc (.int .u8 v7)]=cB (dig (n.toNat/16^i4.toNat)):=Xc3 (by rw[ai,digL,e6,Int.toNat_natCast,Z2])
 refine .one (dig (n.toNat/16^i4.toNat)) ad e7 fun aj z8 ao ak=>?_
 conv=>cbv
 refine .sub fun v9 ar=>?_
 conv=>cbv
 exact .go [3] (v9,z8,aj) (hJ _ ⟨_,ak,Jy,by omega,by omega,by rw[hw,show(7 - v9).toNat=(7 - i4).toNat+1 by omega,Vc,show(v9+1).toNat=i4.toNat by omega,Nat.div_div_eq_div_mul,←Nat.pow_succ,show(i4+1).toNat=i4.toNat+1 by omega]⟩ mlt)
 conv=>cbv
 refine .go ad fun s3 ae=>?_
 conv=>cbv
 have au:s3.size=w1.length:=by rw[ae,A7]
 refine .litL 1 fun s4 al aw=>?_
 conv=>cbv
 refine .litR 4 fun s5 am ax=>?_
 conv=>cbv
 have e:s5=Ax n:=(by unfold Ax;rw[if_pos (by omega),am,al,ae,hw,show i4= -1 by omega];show tx [115]++tx _++tx [46,115,101,103]=_;rw[Ce,Ce];simp)
 rw[hr]at e
 subst e
 exact hQ _ _ (.s rfl rfl)
theorem Gy{o:Bool}(hr:Hx=o):Fn Tryz.prog 359 [I 16] [] ⟨B o,[],[]⟩:=by
 refine Fn.go Kx Tryz.func359 fun P hP Q hQ=>?_
 conv=>cbv
 refine .sub fun v1 aa=>?_
 conv=>cbv
 refine .and fun v2 ab=>?_
 conv=>cbv
 refine .eql (fun h3=>?_) fun h3=>?_
 conv=>cbv
 have e:true=Hx:=(by rfl)
 rw[hr]at e
 subst e
 exact hQ _ _ (.b rfl rfl)
 conv=>cbv
 have e:false=Hx:=(by exfalso;apply h3;rw[ab,aa];rfl)
 rw[hr]at e
 subst e
 exact hQ _ _ (.b rfl rfl)
theorem Hn{u:Int}{oa:List UInt8}{xoa:List (List D)}{ob:ByteArray}(hu:0≤u∧u<4294967296)(hr:Jz u=(oa,ob))(hoa:oa.map cB=xoa):Fn Tryz.prog 338 [.d (.row 1 []),.d (.sc (.int .u64 u)),I 16,B false,B false] [] ⟨.tup [.d (.row 1 xoa),S ob],[],[]⟩:=by
 refine Fn.go Kx Tryz.func338 fun P hP Q hQ=>?_
 conv=>cbv
 refine .lss (fun h1=>?_) fun h1=>?_
 omega
 conv=>cbv
 refine .eql (fun h2=>?_) fun h2=>?_
 omega
 conv=>cbv
 refine .gtr (fun h3=>?_) fun h3=>?_
 omega
 conv=>cbv
 refine .go 65 hP (by kernel_rfl) fun z4 ay=>?_
 conv=>cbv
 generalize ai:Hx=r5
 refine .dd hP (Gy ai) ?_
 cases r5
 cases ai
 conv=>cbv
 refine .go fun v6 az=>?_
 conv=>cbv
 generalize aj:Me v6=r7
 refine .dd hP (I3 (by rw[az,Fk];rfl) aj) ?_
 conv=>cbv
 refine .go fun v8 a1=>?_
 conv=>cbv
 refine .go fun v9 a2=>?_
 conv=>cbv
 refine .go fun bj ak=>?_
 conv=>cbv
 refine .subW fun a6 al=>?_
 conv=>cbv
 refine LoopW.lp (κ:=Int×Int×(List (List D))) Kx hP [] [0,3,4,10,11,12,14,15,16] (fun(i1,aa,ab)=>[(1,.d (.sc (.int .u64 i1))),(13,I aa)]) (fun(i1,aa,ab)=>[(1,.row 1 false ab)])
  (fun(i1,aa,ab)=>∃(w1:List UInt8),w1.map cB=ab∧∃k:Nat,i1=((u.toNat/16^k:Nat):Int)∧aa=65 - (k:Int)∧k≤7∧w1.length=65∧Yd u.toNat=Yd (u.toNat/16^k)++w1.drop (65 - k))
  (fun(i1,aa,ab)=>(aa).toNat) (u,65,z4) ⟨(List.replicate 65 (0:UInt8)),ay,0,by simp;omega,rfl,by omega,by simp,by simp⟩ ⟨rfl,rfl,trivial⟩ rfl ?_
 rintro⟨i1,aa,ab⟩ J ⟨w1,am,k,af,bf,hk,hwl,hx⟩ hJ
 have e7:r7=4:=aj.symm
 have e8:v8=4:=by rw[a1,Fk,e7];rfl
 have e9:v9=16:=by rw[a2,Fk];rfl
 have a7:a6=15:=by rw[al,ak,Fk,Fk];rfl
 have hlt:u.toNat/16^k≤u.toNat:=Nat.div_le_self _ _
 have a8:16≤u.toNat/16^k→k<7:=by
  intro h
  rcases Nat.lt_or_ge k 7 with h7|h7
  ·exact h7
  ·obtain rfl:k=7:=by omega
   omega
 have hnx:u.toNat/16^ (k+1)=u.toNat/16^k/16:=by rw[Nat.pow_succ,←Nat.div_div_eq_div_mul]
 generalize hq:u.toNat/16^k=q at*
 conv=>cbv
 refine .geq (fun h12=>?_) fun h12=>?_
 conv=>cbv
 refine .sub fun ag an=>?_
 conv=>cbv
 refine .and fun ac ad=>?_
 conv=>cbv
 have h7:=a8 (by omega)
 have ah:ac=((q% 16:Nat):Int):=by rw[ad,a7,af,Xg7 (by omega)]
 have bg:q% 16<16:=Nat.mod_lt _ (by omega)
 refine .go ac.toNat (hj:=by show ac.toNat<36;omega) fun hjv15 ba ao bv15=>?_
 conv=>cbv
 refine .go hP Tryz.underlying283 (by kernel_rfl) fun ap bh=>?_
 conv=>cbv
 have bb:[D.sc (.int .u8 ba)]=cB (dig q):=Xc3 (by rw[ao,digF _ (by omega),ah,Int.toNat_natCast,Z2])
 refine .all (dig q) am bb fun bc aq=>?_
 conv=>cbv
 refine .shrW fun bd ar=>?_
 conv=>cbv
 exact .go [] (bd,ag,bc) (hJ _ ⟨_,aq,k+1,by rw[ar,e8,af,Int.fdiv_eq_ediv_of_nonneg _ (by decide),hnx];show(q:Int)/16=_;omega,by omega,by omega,by rw[List.length_set];exact hwl,by rw[hx,Xt (show¬q<16 by omega),List.append_assoc,hnx,show 65 - (k+1)=ap by omega,XaN (by omega),show ap+1=65 - k by omega];rfl⟩ mlt)
 conv=>cbv
 refine .sub fun ag an=>?_
 conv=>cbv
 refine .go i1.toNat (hj:=by show i1.toNat<36;omega) fun hjv14 ac ad bv14=>?_
 conv=>cbv
 refine .go hP Tryz.underlying283 (by kernel_rfl) fun au bi=>?_
 conv=>cbv
 have ah:[D.sc (.int .u8 ac)]=cB (dig q):=Xc3 (by rw[ad,digF _ (by omega),af,Int.toNat_natCast])
 refine .all (dig q) am ah fun bk ae=>?_
 conv=>cbv
 refine .lo hP ae Tryz.underlying283 (by kernel_rfl) fun on17 bl hon17 aw=>?_
 conv=>cbv
 refine .off ae fun be ax=>?_
 conv=>cbv
 have e:([],be)=Jz u:=(by unfold Jz;rw[ax,hx,Oo (show q<16 by omega),hon17,aw,show ag.toNat=au by omega,XaN (by omega),show au+1=65 - k by omega,List.take_of_length_le (by simp;omega)];rfl)
 rw[hr]at e
 simp only[Prod.mk.injEq]at e
 obtain⟨rfl,rfl⟩:=e
 refine hQ _ _ ?_
 exact .many (.inl rfl) rfl rfl (.ref rfl rfl (by rw[←hoa];rfl) (.d rfl rfl (.nil)))
theorem Hv(hn:0≤n∧n≤1000000000)(hr:Gf n=o):Fn Tryz.prog 314 [I n,I 16] [] ⟨S o,[],[]⟩:=by
 refine Fn.go Kx Tryz.func314 fun P hP Q hQ=>?_
 conv=>cbv
 refine .eql (fun h1=>?_) fun h1=>?_
 omega
 conv=>cbv
 refine .go fun v2 aa=>?_
 conv=>cbv
 refine .lss (fun h3=>?_) fun h3=>?_
 omega
 conv=>cbv
 rcases ab:Jz v2 with⟨ad,ae⟩
 generalize ac:ad.map cB=af
 refine .dd hP (Hn (by rw[aa,Fk];omega) ab ac) ?_
 conv=>cbv
 have e:ae=Gf n:=(by have e2:v2=n:=(by rw[aa,Fk];omega);unfold Gf;rw[←e2];exact(congrArg Prod.snd ab).symm)
 rw[hr]at e
 subst e
 exact hQ _ _ (.s rfl rfl)
theorem Mm(hn:0≤n∧n≤1000000000)(hr:Gf n=o):Fn Tryz.prog 266 [I n,I 16] [] ⟨S o,[],[]⟩:=by
 refine Fn.go Kx Tryz.func266 fun P hP Q hQ=>?_
 conv=>cbv
 generalize aa:Gf n=r1
 refine .dd hP (Hv hn aa) ?_
 conv=>cbv
 have e:r1=Gf n:=(by exact aa.symm)
 rw[hr]at e
 subst e
 exact hQ _ _ (.s rfl rfl)
theorem Pj{c:Int}(hc:0≤c∧c≤8)(hr:P6 c=o):Fn Tryz.prog 267 [S (tx [48]),I c] [] ⟨S o,[],[]⟩:=by
 refine⟨E3 Tryz.func267 rfl rfl,CallOk.ofCalls fun E vs hS hA=>?_⟩
 obtain⟨u,v,rfl,h1,h2⟩:=args2 hA
 rw[O3 h1,O3 h2]
 obtain⟨k,rfl⟩:=Int.eq_ofNat_of_zero_le hc.1
 refine(Tryz.strings_Repeat (tx [48]) k E.w (by omega) (by rw[A7];simp;omega)).mono ?_
 rintro e w' ⟨rfl,hb⟩
 refine⟨_,rfl,hb,?_⟩
 have:(⟨(Lib.repeatL (tx [48]).data.toList k).toArray⟩:ByteArray)=o:=by
  rw[←hr]
  unfold P6 tx
  congr 2
  rw[Int.toNat_natCast]
  have key:∀k,Lib.repeatL (tx [48]).data.toList k=List.replicate k 48:=by
   intro k
   induction k with
   |zero=>rfl
   |succ k ih=>show[48]++Lib.repeatL _ k=_;rw[ih];rfl
  exact key k
 rw[this]
 exact .sc _ rfl
theorem J3(hr:Ax n=o):Fn Tryz.prog 203 [I n] [] ⟨S o,[],[]⟩:=by
 refine Fn.go Kx Tryz.func203 fun P hP Q hQ=>?_
 conv=>cbv
 generalize aa:Be n=r1
 refine .dd hP (Ey aa) ?_
 cases r1
 simp only[Be,decide_eq_true_eq,decide_eq_false_iff_not]at aa
 conv=>cbv
 have e:(tx [])=Ax n:=(by unfold Ax;rw[if_neg (by omega)])
 rw[hr]at e
 subst e
 exact hQ _ _ (.s rfl rfl)
 simp only[Be,decide_eq_true_eq,decide_eq_false_iff_not]at aa
 conv=>cbv
 generalize ab:Gf n=r2
 refine .dd hP (Mm aa ab) ?_
 conv=>cbv
 obtain⟨p1,p2,p3⟩:=Xfj 7 n.toNat (by omega)
 have z2:r2.size=(Yd n.toNat).length:=by rw[←ab];exact A7
 refine .go fun v3 ag=>?_
 conv=>cbv
 refine .sub fun v4 ah=>?_
 conv=>cbv
 generalize ac:P6 v4=r5
 refine .dd hP (Pj (by omega) ac) ?_
 conv=>cbv
 have z5:r5.size=v4.toNat:=by rw[←ac];unfold P6;rw[A7,List.length_replicate]
 refine .litL 1 fun s6 ad ai=>?_
 conv=>cbv
 refine .go fun s7 ae aj=>?_
 conv=>cbv
 refine .litR 4 fun s8 af ak=>?_
 conv=>cbv
 have e:s8=Ax n:=(by unfold Ax;rw[if_pos (by omega),af,ae,ad,←ac,←ab,p1];unfold P6 Gf;show tx [115]++tx _++tx _++tx [46,115,101,103]=_;rw[Ce,Ce,Ce,show v4.toNat=7+1 - (Yd n.toNat).length by omega];simp)
 rw[hr]at e
 subst e
 exact hQ _ _ (.s rfl rfl)
end
section
open Go Go.Proofs
set_option maxRecDepth 20000
set_option maxHeartbeats 4000000
def X1:List (Nat×TyRow):=[ty3,ty5,ty9,Xcd]
theorem Vy:Ck Tryz.prog X1:=Ck.of (by kernel_rfl)
theorem Lu:Setup Tryz.prog X1:=⟨Vy,mixed⟩
open Go.RowKit
theorem CallOk.callsV{P:Program}{f:FuncId}{as0:List AV}{val:Value}(h:CallOk P f as0 [] ⟨.d (.sc val),[],[]⟩){w:World}(hG:Globs.ok w fun b=>b<w.heap.size){vs:Array Value}
  (hA:Zg (Ba w (fun b=>b<w.heap.size) (fun _=>none) [] []) as0 vs):Calls P f vs w fun e w'=>e= .returned val∧Below w.heap.size w w':=by
 have hM:Mem (E5 w (fun b=>b<w.heap.size) (fun _=>none) []) (Ba w (fun b=>b<w.heap.size) (fun _=>none) [] []):={
  os:=rfl
  output:=rfl
  tape:=rfl
  size:=Nat.le_refl _
  keep:=fun _ _ _=>rfl
  shape:=fun _ _ h=>h
  s0:=fun _ h=>h
  slt:=fun _ h=>h
  glob:=hG
  snew:=fun _ h=>.inl h
  blt:=fun r b h=>absurd h (Nat.not_lt_zero r)
  bown:=fun r R b h=>absurd h (Nat.not_lt_zero r)
  bkeep:=fun r R h=>absurd h (Nat.not_lt_zero r)
  inj:=fun r r' R R' b h=>absurd h (Nat.not_lt_zero r)
  roots:=fun r R h=>absurd h (Nat.not_lt_zero r)}
 refine(h _ _ _ _ hM hA).mono ?_
 rintro e w' ⟨v,E',rfl,rfl,o⟩
 refine⟨?_,⟨o.mem.os,o.mem.tape,o.mem.output,o.mem.size,fun b hb=>o.mem.keep b hb (fun hn=>?_)⟩⟩
 ·have:=o.rel
  have h2:=O3 this
  rw[h2]
 ·obtain⟨r,R,h1,-⟩:=hn
  simp at h1
theorem De{w w':World}(hG:Globs.ok w fun b=>b<w.heap.size)(hb:Below w.heap.size w w'):Globs.ok w' fun b=>b<w'.heap.size:=
 Globs.step (fun b h=>Nat.lt_of_lt_of_le h hb.size) (fun b h=>hb.block b h) hG
theorem Xdu{w:World}(hG:Globs.ok w fun b=>b<w.heap.size)(n:Int):Calls Tryz.prog 203 #[.int .i64 n] w fun e w'=>e= .returned (.string (Ax n))∧Below w.heap.size w w':=by
 refine(J3 (n:=n) rfl).ok.callsV hG ⟨rfl,?_⟩
 intro j y hy
 match j,hy with
 |0,hy=>cases hy;exact .d _ _ (.sc _ rfl)
def Cq(n:Int):ByteArray:=if 0≤n∧n≤1000000000 then Ax n++tx [46,116,109,112]else tx []
def Gu(c:UInt8):Nat:=if 48≤c.toNat∧c.toNat≤57 then c.toNat - 48 else if 97≤c.toNat∧c.toNat≤102 then c.toNat - 87 else 16
def Ek:Nat→List UInt8→Option Nat
 |acc,[]=>some acc
 |acc,c::l=>if Gu c<16 then Ek (16*acc+Gu c) l else none
theorem Mx:∀(l:List UInt8) (acc:Nat) (c:UInt8),Ek acc (l++[c])=(Ek acc l).bind fun a=>if Gu c<16 then some (16*a+Gu c)else none
 |[],acc,c=>by
  show(if Gu c<16 then Ek _ []else none)=_
  rfl
 |b::l,acc,c=>by
  rw[List.cons_append,Ek,Ek]
  split
  ·exact Mx l _ c
  ·rfl
theorem Q4:∀(l m:List UInt8) (acc:Nat),Ek acc l=none→Ek acc (l++m)=none
 |[],m,acc,h=>by cases h
 |b::l,m,acc,h=>by
  rw[Ek]at h
  rw[List.cons_append,Ek]
  split
  ·rename_i hb;rw[if_pos hb]at h;exact Q4 l m _ h
  ·rfl
theorem Xbw(n:Nat):Gu (dig n)=n% 16:=by
 have key:∀i:Fin 16,Gu (dig i.val)=i.val:=by decide
 have:=key ⟨n% 16,Nat.mod_lt _ (by omega)⟩
 rw[Z2]at this
 exact this
theorem S8:∀(k n:Nat),n<16^k→Ek 0 (Vc k n)=some n
 |0,n,h=>by
  have:n=0:=by simpa using h
  subst this;rfl
 |k+1,n,h=>by
  rw[Vc,Mx,S8 k (n/16) (by rw[Nat.pow_succ]at h;omega),Option.bind_some,Xbw,if_pos (Nat.mod_lt _ (by omega))]
  congr 1
  omega
def mid(name:ByteArray):List UInt8:=(name.data.toList.drop 1).take 8
def Bq(name:ByteArray):Int×Int:=
 match Ek 0 (mid name)with
 |some n=>if name.size=13∧Ax (n:Int)=name then(1,(n:Int))else if name.size=17∧Cq (n:Int)=name then(2,(n:Int))else(0,0)
 |none=>(0,0)
theorem XdA{n:Int}(h:0≤n∧n≤1000000000):Ax n=tx (115::(Vc 8 n.toNat++[46,115,101,103])):=if_pos h
theorem Xgr{n:Int}(h:0≤n∧n≤1000000000):(Ax n).size=13:=by
 rw[XdA h,A7,List.length_cons,List.length_append,Nt];rfl
theorem Xfs{n:Int}(h:0≤n∧n≤1000000000):(Cq n).size=17:=by
 unfold Cq
 rw[if_pos h,ByteArray.size_append,Xgr h];rfl
theorem Xg8{n:Int}{l:List UInt8}:mid (tx (115::(Vc 8 n.toNat++l)))=Vc 8 n.toNat:=by
 unfold mid tx
 show((115::(Vc 8 n.toNat++l)).drop 1).take 8=_
 rw[List.drop_succ_cons,List.drop_zero,List.take_left' (Nt 8 n.toNat)]
theorem Xfp{n:Int}{l:List UInt8}(h:0≤n∧n≤1000000000):Ek 0 (mid (tx (115::(Vc 8 n.toNat++l))))=some n.toNat:=by
 rw[Xg8,S8 8 n.toNat (by omega)]
theorem XaM{n:Int}(h:0≤n∧n≤1000000000):Bq (Ax n)=(1,n):=by
 have hh:Ek 0 (mid (Ax n))=some n.toNat:=by rw[XdA h];exact Xfp h
 unfold Bq
 rw[hh]
 dsimp only
 rw[Int.toNat_of_nonneg h.1,if_pos ⟨Xgr h,rfl⟩]
theorem V7{n:Int}(h:0≤n∧n≤1000000000):Bq (Cq n)=(2,n):=by
 have hh:Ek 0 (mid (Cq n))=some n.toNat:=by
  unfold Cq
  rw[if_pos h,XdA h,Ce,List.cons_append,List.append_assoc];exact Xfp h
 unfold Bq
 rw[hh]
 dsimp only
 rw[Int.toNat_of_nonneg h.1,if_neg (by rw[Xfs h];simp),if_pos ⟨Xfs h,rfl⟩]
theorem Zl{n:Int}{name:ByteArray}(e:Ax n=name)(h:name.size≠0):0≤n∧n≤1000000000:=by
 rcases Decidable.em (0≤n∧n≤1000000000)with h1|h1
 ·exact h1
 ·exfalso;apply h;rw[←e];unfold Ax;rw[if_neg h1];rfl
theorem XaQ{n:Int}{name:ByteArray}(e:Cq n=name)(h:name.size≠0):0≤n∧n≤1000000000:=by
 rcases Decidable.em (0≤n∧n≤1000000000)with h1|h1
 ·exact h1
 ·exfalso;apply h;rw[←e];unfold Cq;rw[if_neg h1];rfl
theorem Ot{name:ByteArray}(h:∀n,Ek 0 (mid name)=some n→Ax (n:Int)≠name∧Cq (n:Int)≠name):Bq name=(0,0):=by
 unfold Bq
 split
 ·rename_i n hn
  rw[if_neg (fun hh=>(h n hn).1 hh.2),if_neg (fun hh=>(h n hn).2 hh.2)]
 ·rfl
theorem Wk{name:ByteArray}(h:¬(13≤name.size∧name.size≤17)):Bq name=(0,0):=by
 unfold Bq
 split
 ·rw[if_neg (fun hh=>h (by omega)),if_neg (fun hh=>h (by omega))]
 ·rfl
theorem V0{name:ByteArray}(h:Ek 0 (mid name)=none):Bq name=(0,0):=by
 unfold Bq
 rw[h]
theorem Xeo{c:UInt8}(h:Gu c<16):Ea c=Gu c:=by
 have key:∀i:Fin 256,Gu (UInt8.ofNat i.val)<16→Ea (UInt8.ofNat i.val)=Gu (UInt8.ofNat i.val):=by decide+kernel
 have e:UInt8.ofNat c.toNat=c:=by simp
 have:=key ⟨c.toNat,c.toNat_lt⟩
 rw[e]at this
 exact this h
theorem U5:∀(l:List UInt8) (acc n:Nat),Ek acc l=some n→Fh acc l=some n
 |[],acc,n,h=>h
 |c::l,acc,n,h=>by
  rw[Ek]at h
  split at h
  ·rename_i hc
   rw[Fh,Xeo hc,if_pos hc]
   exact U5 l _ n h
  ·cases h
theorem S4:∀(l:List UInt8) (acc n:Nat),Fh acc l=some n→n<(acc+1)*16^l.length
 |[],acc,n,h=>by cases h;simp
 |c::l,acc,n,h=>by
  rw[Fh]at h
  split at h
  ·have:=S4 l _ n h
   rw[List.length_cons,Nat.pow_succ]
   refine Nat.lt_of_lt_of_le this ?_
   have h2:(16*acc+Ea c+1)*16^l.length≤(16*(acc+1))*16^l.length:=Nat.mul_le_mul_right _ (by omega)
   refine Nat.le_trans h2 (Nat.le_of_eq ?_)
   rw[Nat.mul_comm 16 (acc+1),Nat.mul_assoc,Nat.mul_comm 16]
  ·cases h
theorem CallOk.ofCallsT{P:Program}{f:FuncId}{as0:List AV}{v1 v2:Value}(o1:v1.oneCell'=true)(o2:v2.oneCell'=true)(h:∀(E:Env) (vs:Array Value),(∀b,E.S b→b<E.w.heap.size)→Globs.ok E.w E.S→Zg E as0 vs→Calls P f vs E.w fun e w'=>e= .returned (.tuple #[v1,v2])∧Below E.w.heap.size E.w w'):CallOk P f as0 [] ⟨.tup [.d (.sc v1),.d (.sc v2)],[],[]⟩:=by
 intro w S β vs hM hA
 refine(h (Ba w S β [] []) vs hM.slt hM.glob hA).mono ?_
 rintro e w' ⟨he,hb⟩
 have hb:Below w.heap.size w w':=hb
 have st:Step (Ba w S β [] []) {Ba w S β [] []with w:=w'}:=⟨fun r R hR=>⟨R,hR,.inr rfl⟩,fun _ h=>h,fun _ _=>rfl,fun _ h=>h,fun b hS=>hb.block b (hM.slt b hS),fun b s hs=>J0 hb hs⟩
 refine⟨.tuple #[v1,v2],{Ba w S β [] []with w:=w'},he,rfl,?_,st,?_,?_,hb.size,.tup _ _ rfl ?_⟩
 ·exact{
   os:=hb.os.trans hM.os
   output:=hb.output.trans hM.output
   tape:=hb.tape.trans hM.tape
   size:=hb.size
   keep:=fun b hlt hn=>hb.block b hlt
   shape:=fun b s hs=>J0 hb hs
   s0:=hM.s0
   slt:=fun b hS=>Nat.lt_of_lt_of_le (hM.slt b hS) hb.size
   glob:=Globs.step st.S st.heap hM.glob
   snew:=hM.snew
   blt:=fun r b hp hβ=>absurd hp (Nat.not_lt_zero r)
   bown:=fun r R b hp=>absurd hp (Nat.not_lt_zero r)
   bkeep:=fun r R hlt hp=>absurd hp (Nat.not_lt_zero r)
   inj:=fun r r' R R' b hp=>absurd hp (Nat.not_lt_zero r)
   roots:=fun r R hp=>absurd hp (Nat.not_lt_zero r)}
 ·rfl
 ·intro r
  constructor
  ·exact fun h=>.inl h
  ·rintro(h|⟨_,h⟩)
   ·exact h
   ·exact absurd h (by simp)
 ·intro j y hy
  match j,hy with
  |0,hy=>cases hy;exact .d _ _ (.sc _ o1)
  |1,hy=>cases hy;exact .d _ _ (.sc _ o2)
variable {n:Int} {o:ByteArray}
theorem XbD(hr:Cq n=o):Fn Tryz.prog 202 [I n] [] ⟨S o,[],[]⟩:=by
 refine Fn.go Lu Tryz.func202 fun P hP Q hQ=>?_
 conv=>cbv
 generalize aa:Be n=r1
 refine .dd hP (Ey aa) ?_
 cases r1
 simp only[Be,decide_eq_true_eq,decide_eq_false_iff_not]at aa
 conv=>cbv
 have e:(tx [])=Cq n:=(by unfold Cq;rw[if_neg (by omega)])
 rw[hr]at e
 subst e
 exact hQ _ _ (.s rfl rfl)
 simp only[Be,decide_eq_true_eq,decide_eq_false_iff_not]at aa
 conv=>cbv
 generalize ab:Ax n=r2
 refine .dd hP (J3 ab) ?_
 conv=>cbv
 have ad:=Mc (n:=n) (by assumption)
 refine .litR 4 fun s3 ac ae=>?_
 conv=>cbv
 have e:s3=Cq n:=(by unfold Cq;rw[if_pos (by omega),ac,←ab];rfl)
 rw[hr]at e
 subst e
 exact hQ _ _ (.s rfl rfl)
theorem Xbt(hr:Cq n=o):Fn Tryz.prog 189 [I n] [] ⟨S o,[],[]⟩:=by
 refine Fn.go Lu Tryz.func189 fun P hP Q hQ=>?_
 conv=>cbv
 generalize aa:Ax n=r1
 refine .dd hP (Ka aa) ?_
 conv=>cbv
 refine .eql (fun h2=>?_) fun h2=>?_
 conv=>cbv
 have e:(tx [])=Cq n:=(by unfold Cq;rw[if_neg];intro hh;have:=Xgr hh;rw[aa,h2]at this;cases this)
 rw[hr]at e
 subst e
 exact hQ _ _ (.s rfl rfl)
 conv=>cbv
 have ac:=Mc aa
 refine .litR 4 fun s3 ab ad=>?_
 conv=>cbv
 have e:s3=Cq n:=(by unfold Cq;rw[if_pos,ab,←aa];rfl;exact Zl aa (fun h0=>h2 (by apply ByteArray.ext;exact Array.eq_empty_of_size_eq_zero h0)))
 rw[hr]at e
 subst e
 exact hQ _ _ (.s rfl rfl)
theorem XfS{name:ByteArray}{k:Nat}(h:k+1<name.size)(hk:k<8):(mid name)[k]? =some name[k+1]:=by
 have h':k+1<name.data.toList.length:=by rw[Array.length_toList];exact h
 unfold mid
 rw[List.getElem?_take_of_lt hk,List.getElem?_drop,Nat.add_comm 1 k,List.getElem?_eq_getElem h']
 rfl
theorem Xc6{name:ByteArray}(h:9≤name.size):(mid name).length=8:=by
 have h':name.data.toList.length=name.size:=by rw[Array.length_toList];rfl
 unfold mid
 rw[List.length_take,List.length_drop,h']
 omega
theorem XeE{name:ByteArray}{k n:Nat}(h:k+1<name.size)(hk:k<8)(e:Ek 0 ((mid name).take k)=some n):
  Ek 0 ((mid name).take (k+1))=if Gu name[k+1]<16 then some (16*n+Gu name[k+1])else none:=by
 rw[List.take_add_one,XfS h hk]
 show Ek 0 ((mid name).take k++[name[k+1]])=_
 rw[Mx,e]
 rfl
theorem Xf3{name:ByteArray}{k:Nat}(e:Ek 0 ((mid name).take k)=none):Ek 0 (mid name)=none:=by
 rw[←List.take_append_drop k (mid name)]
 exact Q4 _ _ _ e
theorem XeL{c:UInt8}(h:48≤c.toNat∧c.toNat≤57):Gu c=c.toNat - 48:=if_pos h
theorem Xd7{c:UInt8}(h:¬(48≤c.toNat∧c.toNat≤57))(h2:97≤c.toNat∧c.toNat≤102):Gu c=c.toNat - 87:=by unfold Gu;rw[if_neg h,if_pos h2]
theorem XeH{c:UInt8}(h:¬(48≤c.toNat∧c.toNat≤57))(h2:¬(97≤c.toNat∧c.toNat≤102)):Gu c=16:=by unfold Gu;rw[if_neg h,if_neg h2]
theorem pow16{k:Nat}(h:k≤7):16^k*16≤4294967296:=by
 have:=Nat.pow_le_pow_right (n:=16) (by decide) (show k+1≤8 by omega)
 rw[Nat.pow_succ]at this
 exact this
def Oq(l:List Int)(n:Int):Bool:=decide (n∈l)
theorem XeT{l:List Int}{xl:List (List D)}{o:Bool}(hl:l.map cI=xl)(hn:l.length<2^40)(hr:Oq l n=o):Fn Tryz.prog 141 [.d (.row 1 xl),I n] [] ⟨B o,[],[]⟩:=by
 refine Fn.go Lu Tryz.func141 fun P hP Q hQ=>?_
 conv=>cbv
 refine LoopW.lp (κ:=Int) Lu hP [] [0,1] (fun i5=>[(5,I i5)]) (fun i5=>[])
  (fun i5=>0≤i5∧i5≤l.length∧∀(j:Nat) (hj:j<l.length),j<i5.toNat→l[j]≠n)
  (fun i5=>(l.length - i5).toNat) (0) ⟨by omega,by omega,fun j _ h=>by simp at h⟩ ⟨rfl,trivial⟩ rfl ?_
 rintro i5 J ⟨h0,h1,hb⟩ hJ
 conv=>cbv
 refine .go hl fun v1 ad=>?_
 conv=>cbv
 refine .lss (fun h2=>?_) fun h2=>?_
 conv=>cbv
 refine .go i5.toNat hl fun aa e3 ab=>?_
 conv=>cbv
 refine .eql (fun h4=>?_) fun h4=>?_
 conv=>cbv
 have e:true=Oq l n:=(by unfold Oq;symm;rw[decide_eq_true_eq,←h4,ab];exact List.getElem_mem aa)
 rw[hr]at e
 subst e
 exact hQ _ _ (.b rfl rfl)
 conv=>cbv
 refine .add fun v5 ae=>?_
 conv=>cbv
 exact .go [] (v5) (hJ _ ⟨by omega,by omega,fun j hj h=>if e:j=i5.toNat then by subst e;rw[←ab];exact h4 else hb j hj (by omega)⟩ mlt)
 conv=>cbv
 have e:false=Oq l n:=(by unfold Oq;symm;rw[decide_eq_false_iff_not];intro hm;obtain⟨j,hj,ac⟩:=List.getElem_of_mem hm;exact hb j hj (by omega) ac)
 rw[hr]at e
 subst e
 exact hQ _ _ (.b rfl rfl)
theorem Xbn{name:ByteArray}{oa:Int}{ob:Int}(hs:name.size≤1000000000)(hr:Bq name=(oa,ob)):Fn Tryz.prog 140 [S name] [] ⟨.tup [I oa,I ob],[],[]⟩:=by
 refine Fn.go Lu Tryz.func140 fun P hP Q hQ=>?_
 conv=>cbv
 refine .go fun v1 al=>?_
 conv=>cbv
 generalize ae:Bf v1 13 17=r2
 refine .dd hP (Dx ae) ?_
 cases r2
 simp only[Bf,decide_eq_true_eq,decide_eq_false_iff_not]at ae
 conv=>cbv
 have e:(0,0)=Bq name:=(by exact(Wk (by omega)).symm)
 rw[hr]at e
 simp only[Prod.mk.injEq]at e
 obtain⟨rfl,rfl⟩:=e
 refine hQ _ _ ?_
 exact .many (.inl rfl) rfl rfl (.d rfl rfl (.d rfl rfl (.nil)))
 simp only[Bf,decide_eq_true_eq,decide_eq_false_iff_not]at ae
 conv=>cbv
 refine LoopW.lp (κ:=Int×Int) Lu hP [] [0] (fun(i4,i5)=>[(4,I i4),(5,I i5)]) (fun(i4,i5)=>[])
  (fun(i4,i5)=>1≤i5∧i5≤9∧0≤i4∧i4.toNat<16^ (i5 - 1).toNat∧Ek 0 ((mid name).take (i5 - 1).toNat)=some i4.toNat)
  (fun(i4,i5)=>(9 - i5).toNat) (0,1) ⟨by omega,by omega,by omega,by simp,rfl⟩ ⟨rfl,rfl,trivial⟩ rfl ?_
 rintro⟨i4,i5⟩ J ⟨h0,h1,h2,h3_,he⟩ hJ
 conv=>cbv
 refine .lss (fun h3=>?_) fun h3=>?_
 conv=>cbv
 refine .go i5.toNat fun hjv4 v4 ah bv4=>?_
 conv=>cbv
 have hp:=pow16 (k:=(i5 - 1).toNat) (by omega)
 have hc:v4=(name[(i5 - 1).toNat+1].toNat:Int):=by rw[ah];congr 2;congr 1;omega
 have hstep:=XeE (name:=name) (k:=(i5 - 1).toNat) (by omega) (by omega) he
 have am:=name[(i5 - 1).toNat+1].toNat_lt
 refine .id fun v5 an=>?_
 conv=>cbv
 generalize aa:Bf v5 48 57=r6
 refine .dd hP (Dx aa) ?_
 cases r6
 simp only[Bf,decide_eq_true_eq,decide_eq_false_iff_not]at aa
 conv=>cbv
 generalize af:Bf v5 97 102=r7
 refine .dd hP (Dx af) ?_
 cases r7
 simp only[Bf,decide_eq_true_eq,decide_eq_false_iff_not]at af
 conv=>cbv
 have e:(0,0)=Bq name:=(by exact(V0 (Xf3 (k:=(i5 - 1).toNat+1) (by rw[hstep,XeH (by omega) (by omega)];rfl))).symm)
 rw[hr]at e
 simp only[Prod.mk.injEq]at e
 obtain⟨rfl,rfl⟩:=e
 refine hQ _ _ ?_
 exact .many (.inl rfl) rfl rfl (.d rfl rfl (.d rfl rfl (.nil)))
 simp only[Bf,decide_eq_true_eq,decide_eq_false_iff_not]at af
 conv=>cbv
 have hval:=Xd7 (c:=name[(i5 - 1).toNat+1]) (by omega) (by omega)
 refine .mul fun v8 ai=>?_
 conv=>cbv
 refine .add fun v9 aj=>?_
 conv=>cbv
 refine .sub fun ab ag=>?_
 conv=>cbv
 refine .add fun ac ak=>?_
 conv=>cbv
 exact .go [] (ab,ac) (hJ _ ⟨by omega,by omega,by omega,by first|(rw[show(ac - 1).toNat=(i5 - 1).toNat+1 by omega,Nat.pow_succ];omega)|(rw[show(ab - 1).toNat=(i5 - 1).toNat+1 by omega,Nat.pow_succ];omega),by first|(rw[show(ac - 1).toNat=(i5 - 1).toNat+1 by omega,hstep,hval,if_pos (by omega)];congr 1;omega)|(rw[show(ab - 1).toNat=(i5 - 1).toNat+1 by omega,hstep,hval,if_pos (by omega)];congr 1;omega)⟩ mlt)
 simp only[Bf,decide_eq_true_eq,decide_eq_false_iff_not]at aa
 conv=>cbv
 have hval:=XeL (c:=name[(i5 - 1).toNat+1]) (by omega)
 refine .mul fun v7 ao=>?_
 conv=>cbv
 refine .add fun v8 ai=>?_
 conv=>cbv
 refine .sub fun v9 aj=>?_
 conv=>cbv
 refine .add fun ab ag=>?_
 conv=>cbv
 exact .go [] (v9,ab) (hJ _ ⟨by omega,by omega,by omega,by first|(rw[show(ac - 1).toNat=(i5 - 1).toNat+1 by omega,Nat.pow_succ];omega)|(rw[show(ab - 1).toNat=(i5 - 1).toNat+1 by omega,Nat.pow_succ];omega),by first|(rw[show(ac - 1).toNat=(i5 - 1).toNat+1 by omega,hstep,hval,if_pos (by omega)];congr 1;omega)|(rw[show(ab - 1).toNat=(i5 - 1).toNat+1 by omega,hstep,hval,if_pos (by omega)];congr 1;omega)⟩ mlt)
 conv=>cbv
 generalize ad:Ax i4=r4
 refine .dd hP (Ka ad) ?_
 conv=>cbv
 refine .eql (fun h5=>?_) fun h5=>?_
 conv=>cbv
 have e:(1,i4)=Bq name:=(by have:=XaM (Zl (ad.trans h5) (by omega));rw[ad,h5]at this;exact this.symm)
 rw[hr]at e
 simp only[Prod.mk.injEq]at e
 obtain⟨rfl,rfl⟩:=e
 refine hQ _ _ ?_
 exact .many (.inl rfl) rfl rfl (.d rfl rfl (.d rfl rfl (.nil)))
 conv=>cbv
 generalize aa:Cq i4=r6
 refine .dd hP (Xbt aa) ?_
 conv=>cbv
 refine .eql (fun h7=>?_) fun h7=>?_
 conv=>cbv
 have e:(2,i4)=Bq name:=(by have:=V7 (XaQ (aa.trans h7) (by omega));rw[aa,h7]at this;exact this.symm)
 rw[hr]at e
 simp only[Prod.mk.injEq]at e
 obtain⟨rfl,rfl⟩:=e
 refine hQ _ _ ?_
 exact .many (.inl rfl) rfl rfl (.d rfl rfl (.d rfl rfl (.nil)))
 conv=>cbv
 have e:(0,0)=Bq name:=(by refine(Ot fun n hn=>?_).symm;rw[show(i5 - 1).toNat=8 by omega,List.take_of_length_le (by rw[Xc6 (by omega)];omega),hn]at he;cases he;rw[Int.toNat_of_nonneg h2,ad,aa];exact⟨h5,h7⟩)
 rw[hr]at e
 simp only[Prod.mk.injEq]at e
 obtain⟨rfl,rfl⟩:=e
 refine hQ _ _ ?_
 exact .many (.inl rfl) rfl rfl (.d rfl rfl (.d rfl rfl (.nil)))
end
section
open Go Go.Proofs
set_option maxRecDepth 20000
set_option maxHeartbeats 4000000
open Go.RowKit
theorem puPub(t:ByteArray)(h8:t.size=8){w:World}(hi:G1 w 2):Calls Tryz.prog 282 #[.string t,.int .i64 16,.int .i64 32] w fun e w'=>
  (match Fh 0 t.data.toList with|some n=>e= .returned (.tuple #[.int .u64 n,.nilIface])|none=>∃x T p,e= .returned (.tuple #[.int .u64 x,.iface T p]))∧Below w.heap.size w w':=by
 obtain⟨ev,h1,h2⟩:=hi
 have hp:=fun w=>pu16 Tryz.lays287 t (by omega) (by omega) w
 have hlt:2<w.heap.size:=Lib.lt_of_cell h1
 have hbel:Below w.heap.size w (Lib.bytesWorld w (Tryz.lays287_ren.t 5) t):=Lib.bytesWorld_below _ _ _
 cases hh:Fh 0 t.data.toList with
 |some n=>
  rw[hh]at hp
  replace hp:∀w,Calls Tryz.prog 323 #[.string t,.int .i64 16,.int .i64 32] w fun e w'=>e= .returned (.tuple #[.int .u64 n,.nilIface])∧w'=Lib.bytesWorld w (Tryz.lays287_ren.t 5) t:=hp
  go_enter Tryz.func282,Tryz.ntmps282
  go_wp2_with (go_at_call 323;refine(hp _).mono ?_;rintro e w' ⟨rfl,rfl⟩)
  go_ret2
  exact⟨rfl,hbel⟩
 |none=>
  rw[hh]at hp
  replace hp:∀w,Calls Tryz.prog 323 #[.string t,.int .i64 16,.int .i64 32] w fun e w'=>e= .returned (.tuple #[.int .u64 0,.iface 273 (.int .i64 2)])∧w'=Lib.bytesWorld w (Tryz.lays287_ren.t 5) t:=hp
  go_enter Tryz.func282,Tryz.ntmps282
  go_wp2_with (first
   |(go_at_call 323;refine(hp _).mono ?_;rintro e w' ⟨rfl,rfl⟩)
   |(go_at_call 324;refine(Tryz.strconv_toError_syntax _ t _ _ ev _ (by omega) ((hbel.cell hlt).trans h1) h2).mono ?_;rintro e w' ⟨N,rfl,-,-,hb2⟩))
  go_ret2
  exact⟨⟨_,_,_,rfl⟩,hbel.trans (hb2.mono hbel.size)⟩
theorem Xdj{a b:ByteArray}(h:¬a=b):(a.toList==b.toList)=false:=by
 rw[Bool.eq_false_iff]
 exact fun hh=>h ((Lib.bytes_beq_iff _ _).1 hh)
theorem Lv{w:World}(hG:Globs.ok w fun b=>b<w.heap.size){n:Int}{o:ByteArray}(hr:Ax n=o):Calls Tryz.prog 203 #[.int .i64 n] w fun e w'=>e= .returned (.string o)∧Below w.heap.size w w':=by
 rw[←hr];exact Xdu hG n
theorem Lo{w:World}(hG:Globs.ok w fun b=>b<w.heap.size){n:Int}{o:ByteArray}(hr:Cq n=o):Calls Tryz.prog 202 #[.int .i64 n] w fun e w'=>e= .returned (.string o)∧Below w.heap.size w w':=by
 refine(XbD (n:=n) hr).ok.callsV hG ⟨rfl,?_⟩
 intro j y hy
 match j,hy with
 |0,hy=>cases hy;exact .d _ _ (.sc _ rfl)
theorem M6{w:World}(hG:Globs.ok w fun b=>b<w.heap.size){n:Int}{o:Bool}(hr:Be n=o):Calls Tryz.prog 173 #[.int .i64 n] w fun e w'=>e= .returned (.bool o)∧Below w.heap.size w w':=by
 refine(Ey (n:=n) hr).ok.callsV hG ⟨rfl,?_⟩
 intro j y hy
 match j,hy with
 |0,hy=>cases hy;exact .d _ _ (.sc _ rfl)
theorem Zy{name:ByteArray}(h:9≤name.size):(name.extract 1 9).size=8∧(name.extract 1 9).data.toList=mid name:=by
 have h':9≤name.data.size:=h
 constructor
 ·rw[ByteArray.size_extract];omega
 ·unfold mid
  rw[ByteArray.data_extract,Array.toList_extract,List.extract_eq_take_drop]
set_option maxHeartbeats 1000000 in
set_option maxRecDepth 100000 in
theorem Sj{name:ByteArray}(hs:name.size≤1000000000){w:World}(hG:Globs.ok w fun b=>b<w.heap.size):Calls Tryz.prog 219 #[.string name] w fun e w'=>
  e= .returned (.tuple #[.int .i64 (Bq name).1,.int .i64 (Bq name).2])∧Below w.heap.size w w':=by
 by_cases h9:name.size<9
 ·rw[Wk (by omega)]
  go_enter Tryz.func219,Tryz.ntmps219
  go_wp2
  go_ret2
  exact⟨rfl,Below.refl _ _⟩
 obtain⟨hx8,hxl⟩:=Zy (name:=name) (by omega)
 have hpu:=fun(w:World) (hi:G1 w 2)=>puPub (name.extract 1 9) hx8 hi
 rw[hxl]at hpu
 have hG3:∀{w:World},(Globs.ok w fun b=>b<w.heap.size)→G1 w 2:=fun h=>XfK h
 cases hh:Fh 0 (mid name)with
 |none=>
  simp only[hh]at hpu
  rw[V0 (by
   cases h:Ek 0 (mid name)with
   |none=>rfl
   |some n=>rw[U5 _ _ _ h]at hh;cases hh)]
  go_enter Tryz.func219,Tryz.ntmps219
  go_wp2_with (go_at_call 282;refine(hpu _ (hG3 hG)).mono ?_;rintro e w' ⟨⟨x,T,p,rfl⟩,hb⟩)
  go_ret2
  exact⟨rfl,hb⟩
 |some m=>
  simp only[hh]at hpu
  have hm:m<4294967296:=by
   have:=S4 _ _ _ hh
   rw[Xc6 (by omega)]at this
   omega
  have hmn:∀n,Ek 0 (mid name)=some n→n=m:=fun n hn=>by
   have:=U5 _ _ _ hn
   rw[hh]at this
   exact(Option.some.inj this).symm
  obtain⟨M,hM⟩:∃M:Int,M=(m:Int):=⟨_,rfl⟩
  have hM0:0≤M:=by omega
  have hM1:M<4294967296:=by omega
  simp only[←hM]at hpu
  by_cases hnum:M≤1000000000
  ·have hrn:Be M=true:=decide_eq_true ⟨hM0,hnum⟩
   obtain⟨sg,hsg⟩:∃s,Ax M=s:=⟨_,rfl⟩
   obtain⟨tp,htp⟩:∃s,Cq M=s:=⟨_,rfl⟩
   by_cases hse:name=sg
   ·have hR:Bq name=(1,M):=by rw[hse,←hsg];exact XaM ⟨hM0,hnum⟩
    rw[hR]
    dsimp only
    clear hmn hh hxl hR hM
    subst hse
    go_enter Tryz.func219,Tryz.ntmps219
    go_wp2_with (first
     |(go_at_call 282;refine(hpu _ (hG3 hG)).mono ?_;rintro e w1 ⟨rfl,aa⟩;have hG1:=De hG aa)
     |(go_at_call 173;refine(M6 hG1 hrn).mono ?_;rintro e w2 ⟨rfl,hb2⟩;have hG2:=De hG1 hb2)
     |(go_at_call 203;refine(Lv hG2 hsg).mono ?_;rintro e w3 ⟨rfl,ab⟩;have hG3_:=De hG2 ab)
     |(go_at_call 202;refine(Lo hG3_ htp).mono ?_;rintro e w4 ⟨rfl,ac⟩))
    go_ret2
    exact⟨rfl,(aa.trans (hb2.mono aa.size)).trans (ab.mono (aa.trans (hb2.mono aa.size)).size)⟩
   ·by_cases hte:name=tp
    ·have hR:Bq name=(2,M):=by rw[hte,←htp];exact V7 ⟨hM0,hnum⟩
     rw[hR]
     dsimp only
     clear hmn hh hxl hR hM
     subst hte
     have ad:=Xdj hse
     go_enter Tryz.func219,Tryz.ntmps219
     go_wp2_with (first
      |(go_at_call 282;refine(hpu _ (hG3 hG)).mono ?_;rintro e w1 ⟨rfl,aa⟩;have hG1:=De hG aa)
      |(go_at_call 173;refine(M6 hG1 hrn).mono ?_;rintro e w2 ⟨rfl,hb2⟩;have hG2:=De hG1 hb2)
      |(go_at_call 203;refine(Lv hG2 hsg).mono ?_;rintro e w3 ⟨rfl,ab⟩;have hG3_:=De hG2 ab)
      |(go_at_call 202;refine(Lo hG3_ htp).mono ?_;rintro e w4 ⟨rfl,ac⟩))
     go_ret2
     exact⟨rfl,((aa.trans (hb2.mono aa.size)).trans (ab.mono (aa.trans (hb2.mono aa.size)).size)).trans (ac.mono ((aa.trans (hb2.mono aa.size)).trans (ab.mono (aa.trans (hb2.mono aa.size)).size)).size)⟩
    ·have hR:Bq name=(0,0):=Ot fun n hn=>by
      rw[hmn n hn,←hM,hsg,htp]
      exact⟨fun e=>hse e.symm,fun e=>hte e.symm⟩
     rw[hR]
     dsimp only
     clear hmn hh hxl hR hM
     have ad:=Xdj hse
     have ae:=Xdj hte
     go_enter Tryz.func219,Tryz.ntmps219
     go_wp2_with (first
      |(go_at_call 282;refine(hpu _ (hG3 hG)).mono ?_;rintro e w1 ⟨rfl,aa⟩;have hG1:=De hG aa)
      |(go_at_call 173;refine(M6 hG1 hrn).mono ?_;rintro e w2 ⟨rfl,hb2⟩;have hG2:=De hG1 hb2)
      |(go_at_call 203;refine(Lv hG2 hsg).mono ?_;rintro e w3 ⟨rfl,ab⟩;have hG3_:=De hG2 ab)
      |(go_at_call 202;refine(Lo hG3_ htp).mono ?_;rintro e w4 ⟨rfl,ac⟩))
     go_ret2
     exact⟨rfl,((aa.trans (hb2.mono aa.size)).trans (ab.mono (aa.trans (hb2.mono aa.size)).size)).trans (ac.mono ((aa.trans (hb2.mono aa.size)).trans (ab.mono (aa.trans (hb2.mono aa.size)).size)).size)⟩
  ·have hrn:Be M=false:=decide_eq_false fun h=>hnum h.2
   obtain⟨sg,hsg⟩:∃s,Ax M=s:=⟨_,rfl⟩
   obtain⟨tp,htp⟩:∃s,Cq M=s:=⟨_,rfl⟩
   have hR:Bq name=(0,0):=Ot fun n hn=>by
    rw[hmn n hn,←hM]
    exact⟨fun e=>hnum (Zl e (by omega)).2,fun e=>hnum (XaQ e (by omega)).2⟩
   rw[hR]
   dsimp only
   clear hmn hh hxl hR hM
   go_enter Tryz.func219,Tryz.ntmps219
   go_wp2_with (first
    |(go_at_call 282;refine(hpu _ (hG3 hG)).mono ?_;rintro e w1 ⟨rfl,aa⟩;have hG1:=De hG aa)
    |(go_at_call 173;refine(M6 hG1 hrn).mono ?_;rintro e w2 ⟨rfl,hb2⟩;have hG2:=De hG1 hb2)
    |(go_at_call 203;refine(Lv hG2 hsg).mono ?_;rintro e w3 ⟨rfl,ab⟩;have hG3_:=De hG2 ab)
    |(go_at_call 202;refine(Lo hG3_ htp).mono ?_;rintro e w4 ⟨rfl,ac⟩))
   go_ret2
   exact⟨rfl,aa.trans (hb2.mono aa.size)⟩
theorem Xb8{name:ByteArray}{oa ob:Int}(hs:name.size≤1000000000)(hr:Bq name=(oa,ob)):Fn Tryz.prog 219 [S name] [] ⟨.tup [I oa,I ob],[],[]⟩:=by
 refine⟨E3 Tryz.func219 rfl rfl,CallOk.ofCallsT rfl rfl fun E vs hS hG hA=>?_⟩
 obtain⟨u,rfl,h1⟩:=XfL hA
 rw[O3 h1]
 have h2:=Sj hs (Globs.step hS (fun _ _=>rfl) hG)
 rw[hr]at h2
 exact h2
end
section
open Go Go.Proofs
set_option maxRecDepth 20000
set_option maxHeartbeats 4000000
def XaL:List (Nat×TyRow):=[ty3,ty9,Xcf,Xcd,Xfx,Zh,XgH,Xe7,Xhq]
theorem Yq:Ck Tryz.prog XaL:=Ck.of (by kernel_rfl)
theorem Ep:Setup Tryz.prog XaL:=⟨Yq,mixed⟩
def B2(d:As)(base:Int):ByteArray:=(Fa d (Ax base)).1
def Cy(b:ByteArray)(base link:Int):Bool:=(Bj b).2&&decide ((Bj b).1.base_=base)&&decide ((Bj b).1.link_=link)
def Gn(link:Int)(r:ByteArray):Int:=E7 link (Az r.size 4++r)
def E9(link:Int)(l:List ByteArray):Int:=l.foldl Gn link
def Bz(b:ByteArray):List ByteArray:=(A0 b).records_
def G5(b:ByteArray):Int:=E9 (A0 b).head_.link_ (A0 b).records_
def Hq(d:As):Nat→Int→Int→List Se
 |0,_,_=>[]
 |k+1,base,sum=>if Cy (B2 d base) base sum=true∧Bz (B2 d base)≠[]then
   ⟨base,B2 d base,A0 (B2 d base)⟩::Hq d k (base+(Bz (B2 d base)).length) (E9 sum (Bz (B2 d base)))else[]
def Kp(d:As):List Se:=Hq d 16 0 0
def Dr(d:As):List Int:=(Kp d).map (·.base_)
def Jp(d:As):List ByteArray:=(Kp d).flatMap fun x=>x.scan_.records_
theorem F8{d:As}{b:Int}{t:ByteArray}(hd:okD d)(e:B2 d b=t):t.size≤1000000000:=by
 rw[←e]
 exact Yw (ok:=(Fa d (Ax b)).2) hd rfl
theorem Ni{t:ByteArray}{b s:Int}(h:Cy t b s=true):∃hh,Bj t=(hh,true)∧hh.base_=b∧hh.link_=s∧0≤b∧b≤1000000000:=by
 unfold Cy at h
 simp only[Bool.and_eq_true,decide_eq_true_eq]at h
 rcases e:Bj t with⟨hh,ok⟩
 rw[e]at h
 obtain⟨⟨h1,h2⟩,h3⟩:=h
 simp only[]at h1 h2 h3
 subst h1
 have h4:=(Eb e).2.2
 obtain⟨v,st,bs,lk⟩:=hh
 have h5:=Fb h4
 exact⟨_,rfl,h2,h3,by simp only[]at h2;omega,by simp only[]at h2;omega⟩
theorem Xf{t:ByteArray}{hh:Bb}(e:Bj t=(hh,true)):(A0 t).head_=hh∧(A0 t).ok_=true:=by unfold A0;rw[e];exact⟨rfl,rfl⟩
theorem R9{t:ByteArray}{b s:Int}(h:Cy t b s=true):G5 t=E9 s (Bz t):=by
 obtain⟨hh,h1,h2,h3,_⟩:=Ni h
 unfold G5 Bz
 rw[(Xf h1).1,h3]
theorem Ox{t:ByteArray}{b s:Int}{l:List ByteArray}(h:Cy t b s=true)(e:Bz t=l):G5 t=E9 s l:=by rw[R9 h,e]
theorem Ns{d:As}{k:Nat}{b s:Int}{t:ByteArray}(h1:B2 d b=t)(h2:Cy t b s=false∨Bz t=[]):Hq d k b s=[]:=by
 cases k with
 |zero=>rfl
 |succ k=>
  rw[Hq,h1,if_neg]
  rintro⟨h3,h4⟩
  rcases h2 with h2|h2
  ·rw[h2]at h3;cases h3
  ·exact h4 h2
theorem Q3{d:As}{k:Nat}{b s:Int}{t:ByteArray}(h1:B2 d b=t)(h2:Cy t b s=true)(h3:Bz t≠[]):Hq d (k+1) b s=⟨b,t,A0 t⟩::Hq d k (b+(Bz t).length) (E9 s (Bz t)):=by
 rw[Hq,h1,if_pos ⟨h2,h3⟩]
theorem O2{d:As}:∀{k:Nat} {b s:Int},(Hq d k b s).length≤k
 |0,_,_=>Nat.le_refl _
 |k+1,b,s=>by
  rw[Hq]
  split
  ·rw[List.length_cons];exact Nat.succ_le_succ O2
  ·exact Nat.zero_le _
theorem S3{d:As}:∀{k:Nat} {b s:Int},∀x∈Hq d k b s,x.text_=B2 d x.base_∧x.scan_=A0 (B2 d x.base_)∧∃s',Cy (B2 d x.base_) x.base_ s'=true
 |0,_,_,x,hx=>by simp[Hq]at hx
 |k+1,b,s,x,hx=>by
  rw[Hq]at hx
  split at hx
  ·rename_i h
   rw[List.mem_cons]at hx
   rcases hx with rfl|hx
   ·exact⟨rfl,rfl,s,h.1⟩
   ·exact S3 x hx
  ·simp at hx
theorem S5{d:As}{l:List Se}(e:Kp d=l):l.length≤16:=by rw[←e];exact O2
theorem Js{d:As}{l:List Int}(e:Dr d=l):l.length≤16:=by rw[←e];unfold Dr;rw[List.length_map];exact O2
theorem N8{d:As}{l:List Se}(e:Kp d=l){x:Se}(hx:x∈l):x.text_=B2 d x.base_∧x.scan_=A0 (B2 d x.base_)∧∃s',Cy (B2 d x.base_) x.base_ s'=true:=by rw[←e]at hx;exact S3 x hx
theorem Xcs{d:As}{α:Type}(f:Se→α)(g:Int→α)(h:∀x,x.text_=B2 d x.base_→x.scan_=A0 (B2 d x.base_)→f x=g x.base_):(Kp d).map f=(Dr d).map g:=by
 unfold Dr
 rw[List.map_map]
 refine List.map_congr_left fun x hx=>?_
 obtain⟨h1,h2,_⟩:=N8 rfl hx
 exact h x h1 h2
theorem Mp{d:As}:Jp d=(Dr d).flatMap fun b=>Bz (B2 d b):=by
 unfold Jp
 rw[List.flatMap_def,List.flatMap_def]
 congr 1
 exact Xcs _ _ fun x h1 h2=>by rw[h2];rfl
theorem Xa9:∀(k:Nat) {h:Bb} {b:ByteArray} {n:Nat} {p:Int},(b.size - p).toNat≤k→0≤p∧p≤b.size→∀r∈(Ee h b n p).1,r.size≤60
 |k,h,b,n,p,hk,hp=>by
  cases hm:C5 h.version_ (h.base_+n) b p
  ·rcases hf:A1 h.version_ (h.base_+n) b p with⟨r,q,ok⟩
   cases ok
   ·rw[H4 hm hf];simp
   ·have h2:=Ev hf
    rw[H7 hm hf]
    cases k with
    |zero=>omega
    |succ k=>
     have ih:=Xa9 k (h:=h) (b:=b) (n:=n+1) (p:=q) (by omega) (by omega)
     intro x hx
     rcases List.mem_cons.1 hx with rfl|hx
     ·omega
     ·exact ih x hx
  ·rw[H8 hm];simp
theorem T1{b:ByteArray}:∀r∈(A0 b).records_,r.size≤60:=by
 unfold A0
 split
 ·rename_i h e
  have h2:=Eb e
  exact Xa9 _ (h:=h) (b:=b) (n:=0) (p:=24) (Nat.le_refl _) (by omega)
 ·simp
theorem Xe4{α β:Type}{f:α→β}{l:List α}{k:Nat}(h:k<l.length):(l.take (k+1)).map f=(l.take k).map f++[f l[k]]:=by rw[List.take_succ_eq_append_getElem h,List.map_append];rfl
theorem I7{α β:Type}{f:α→List β}{l:List α}{k:Nat}(h:k<l.length):(l.take (k+1)).flatMap f=(l.take k).flatMap f++f l[k]:=by rw[List.take_succ_eq_append_getElem h,List.flatMap_append];simp
variable {B4:List Cm} {Dz D0 Dy D1 xo:List (List D)} {Bo Cg:List A3} {Ci:List ByteArray} {Ch Cf base o link:Int} {b r:ByteArray}
theorem Xat{o:ByteArray}(Du:B4.map Cs=Dz)(Dc:Bo.map A2=D0)(Ef:Cg.map A2=Dy)(Eh:Ci.map cS=D1)(hd:okD ⟨B4,Bo,Cg,Ci,Ch,Cf⟩)(hr:B2 (⟨B4,Bo,Cg,Ci,Ch,Cf⟩:As) base=o):Fn Tryz.prog 198 [.agg [.d (.row 3 Dz),.d (.row 2 D0),.d (.row 2 Dy),.d (.row 1 D1),I Ch,I Cf],I base] [] ⟨S o,[],[]⟩:=by
 refine Fn.go Ep Tryz.func198 fun P hP Q hQ=>?_
 conv=>cbv
 generalize aa:Ax base=r1
 refine .dd hP (J3 aa) ?_
 conv=>cbv
 rcases ab:Fa (⟨B4,Bo,Cg,Ci,Ch,Cf⟩:As) r1 with⟨ac,ad⟩
 refine .dd hP (Xb1 Du Dc Ef Eh hd ab) ?_
 conv=>cbv
 have e:ac=B2 (⟨B4,Bo,Cg,Ci,Ch,Cf⟩:As) base:=(by unfold B2;rw[aa,ab])
 rw[hr]at e
 subst e
 exact hQ _ _ (.s rfl rfl)
theorem Ul{o:ByteArray}(Du:B4.map Cs=Dz)(Dc:Bo.map A2=D0)(Ef:Cg.map A2=Dy)(Eh:Ci.map cS=D1)(hd:okD ⟨B4,Bo,Cg,Ci,Ch,Cf⟩)(hr:B2 (⟨B4,Bo,Cg,Ci,Ch,Cf⟩:As) base=o):Fn Tryz.prog 99 [.agg [.d (.row 3 Dz),.d (.row 2 D0),.d (.row 2 Dy),.d (.row 1 D1),I Ch,I Cf],I base] [] ⟨S o,[],[]⟩:=by
 refine Fn.go Ep Tryz.func99 fun P hP Q hQ=>?_
 conv=>cbv
 generalize aa:Ax base=r1
 refine .dd hP (Ka aa) ?_
 conv=>cbv
 rcases ab:Fa (⟨B4,Bo,Cg,Ci,Ch,Cf⟩:As) r1 with⟨ac,ad⟩
 refine .dd hP (Xbx Du Dc Ef Eh hd ab) ?_
 conv=>cbv
 have e:ac=B2 (⟨B4,Bo,Cg,Ci,Ch,Cf⟩:As) base:=(by unfold B2;rw[aa,ab])
 rw[hr]at e
 subst e
 exact hQ _ _ (.s rfl rfl)
theorem XeA{o:Bool}(hs:b.size<2^47)(hr:Cy b base link=o):Fn Tryz.prog 200 [S b,I base,I link] [] ⟨B o,[],[]⟩:=by
 refine Fn.go Ep Tryz.func200 fun P hP Q hQ=>?_
 conv=>cbv
 rcases aa:Bj b with⟨⟨ab,ac,ad,ae⟩,af⟩
 refine .dd hP (Ss (by omega) aa) ?_
 conv=>cbv
 cases af
 conv=>cbv
 have e:false=Cy b base link:=(by unfold Cy;rw[aa];rfl)
 rw[hr]at e
 subst e
 exact hQ _ _ (.b rfl rfl)
 conv=>cbv
 refine .eql (fun h2=>?_) fun h2=>?_
 conv=>cbv
 refine .eql (fun h3=>?_) fun h3=>?_
 conv=>cbv
 have e:true=Cy b base link:=(by unfold Cy;rw[aa];simp[h2,h3])
 rw[hr]at e
 subst e
 exact hQ _ _ (.b rfl rfl)
 conv=>cbv
 have e:false=Cy b base link:=(by unfold Cy;rw[aa];simp[h2,h3])
 rw[hr]at e
 subst e
 exact hQ _ _ (.b rfl rfl)
 conv=>cbv
 have e:false=Cy b base link:=(by unfold Cy;rw[aa];simp[h2])
 rw[hr]at e
 subst e
 exact hQ _ _ (.b rfl rfl)
theorem Xbu(hb:r.size<2^40)(hr:Gn link r=o):Fn Tryz.prog 265 [I link,S r] [] ⟨I o,[],[]⟩:=by
 refine Fn.go Ep Tryz.func265 fun P hP Q hQ=>?_
 conv=>cbv
 refine .go fun v1 ac=>?_
 conv=>cbv
 generalize aa:Az v1 4=r2
 have zr2:=Bm aa
 refine .dd hP (El (by omega) aa) ?_
 conv=>cbv
 refine .go fun s3 ad ae=>?_
 conv=>cbv
 generalize ab:E7 link s3=r4
 have zr4:=L3 ab
 refine .dd hP (V9 (by omega) ab) ?_
 conv=>cbv
 have e:r4=Gn link r:=(by subst_vars;rfl)
 rw[hr]at e
 subst e
 exact hQ _ _ (.i rfl rfl)
theorem Xe5{o:Bool}(hs:b.size<2^47)(hr:Cy b base link=o):Fn Tryz.prog 184 [S b,I base,I link] [] ⟨B o,[],[]⟩:=by
 refine Fn.go Ep Tryz.func184 fun P hP Q hQ=>?_
 conv=>cbv
 rcases aa:Bj b with⟨⟨ab,ac,ad,ae⟩,af⟩
 refine .dd hP (Sn (by omega) aa) ?_
 conv=>cbv
 cases af
 conv=>cbv
 have e:false=Cy b base link:=(by unfold Cy;rw[aa];rfl)
 rw[hr]at e
 subst e
 exact hQ _ _ (.b rfl rfl)
 conv=>cbv
 refine .eql (fun h2=>?_) fun h2=>?_
 conv=>cbv
 refine .eql (fun h3=>?_) fun h3=>?_
 conv=>cbv
 have e:true=Cy b base link:=(by unfold Cy;rw[aa];simp[h2,h3])
 rw[hr]at e
 subst e
 exact hQ _ _ (.b rfl rfl)
 conv=>cbv
 have e:false=Cy b base link:=(by unfold Cy;rw[aa];simp[h2,h3])
 rw[hr]at e
 subst e
 exact hQ _ _ (.b rfl rfl)
 conv=>cbv
 have e:false=Cy b base link:=(by unfold Cy;rw[aa];simp[h2])
 rw[hr]at e
 subst e
 exact hQ _ _ (.b rfl rfl)
theorem Xbz(hb:r.size<2^40)(hr:Gn link r=o):Fn Tryz.prog 255 [I link,S r] [] ⟨I o,[],[]⟩:=by
 refine Fn.go Ep Tryz.func255 fun P hP Q hQ=>?_
 conv=>cbv
 refine .go fun v1 ac=>?_
 conv=>cbv
 generalize aa:Az v1 4=r2
 have zr2:=Bm aa
 refine .dd hP (D5 (by omega) aa) ?_
 conv=>cbv
 refine .go fun s3 ad ae=>?_
 conv=>cbv
 generalize ab:E7 link s3=r4
 have zr4:=L3 ab
 refine .dd hP (Xu (by omega) ab) ?_
 conv=>cbv
 have e:r4=Gn link r:=(by subst_vars;rfl)
 rw[hr]at e
 subst e
 exact hQ _ _ (.i rfl rfl)
theorem Xcg{l:List ByteArray}{xl:List (List D)}(hl:l.map cS=xl)(hn:l.length<2^40)(hb:∀r∈l,r.size≤60)(hr:E9 link l=o):Fn Tryz.prog 201 [I link,.d (.row 1 xl)] [] ⟨I o,[],[]⟩:=by
 refine Fn.go Ep Tryz.func201 fun P hP Q hQ=>?_
 conv=>cbv
 refine .go hl fun v1 ad=>?_
 conv=>cbv
 refine LoopW.lp (κ:=Int×Int) Ep hP [] [7,8] (fun(i0,i9)=>[(0,I i0),(9,I i9)]) (fun(i0,i9)=>[])
  (fun(i0,i9)=>0≤i9∧i9≤l.length∧i0=E9 link (l.take i9.toNat))
  (fun(i0,i9)=>(l.length - i9).toNat) (link,0) ⟨by omega,by omega,rfl⟩ ⟨rfl,rfl,trivial⟩ rfl ?_
 rintro⟨i0,i9⟩ J ⟨h0,h1,hx⟩ hJ
 conv=>cbv
 refine .lss (fun h2=>?_) fun h2=>?_
 conv=>cbv
 refine .go i9.toNat hl fun aa e3 ab=>?_
 conv=>cbv
 have zb:=hb e3 (ab▸List.getElem_mem _)
 generalize ac:Gn i0 e3=r4
 refine .dd hP (Xbu (by omega) ac) ?_
 conv=>cbv
 refine .add fun v5 ae=>?_
 conv=>cbv
 exact .go [] (r4,v5) (hJ _ ⟨by omega,by omega,by rw[show v5.toNat=i9.toNat+1 by omega,List.take_succ_eq_append_getElem aa,E9,List.foldl_append,←ab];show r4=Gn (E9 link (l.take i9.toNat)) e3;rw[←hx,ac]⟩ mlt)
 conv=>cbv
 have e:i0=E9 link l:=(by rw[hx,List.take_of_length_le (by omega)])
 rw[hr]at e
 subst e
 exact hQ _ _ (.i rfl rfl)
theorem P8{o:List ByteArray}(hs:b.size<2^47)(hr:Bz b=o)(ho:o.map cS=xo):Fn Tryz.prog 138 [S b] [] ⟨.d (.row 1 xo),[],[]⟩:=by
 refine Fn.go Ep Tryz.func138 fun P hP Q hQ=>?_
 conv=>cbv
 rcases ai:A0 b with⟨an,⟨ae,af,ag,ah⟩,ab,ad,al,am⟩
 generalize aa:ab.map cS=aj
 generalize ac:ad.map cI=ak
 refine .dd hP (Lw (by omega) ai aa ac) ?_
 conv=>cbv
 have e:ab=Bz b:=(by unfold Bz;rw[ai])
 rw[hr]at e
 subst e
 exact hQ _ _ (.d rfl (by rw[←aa,←ho]))
theorem Zq(hs:b.size<2^40)(hr:G5 b=o):Fn Tryz.prog 185 [S b] [] ⟨I o,[],[]⟩:=by
 refine Fn.go Ep Tryz.func185 fun P hP Q hQ=>?_
 conv=>cbv
 rcases ae:A0 b with⟨aq,⟨ag,ah,ai,aa⟩,ab,af,ao,ap⟩
 generalize ac:ab.map cS=am
 generalize ad:af.map cI=an
 refine .dd hP (Lw (by omega) ae ac ad) ?_
 conv=>cbv
 refine LoopW.lp (κ:=Int×Int) Ep hP [] [3] (fun(i4,i5)=>[(4,I i4),(5,I i5)]) (fun(i4,i5)=>[])
  (fun(i4,i5)=>0≤i5∧i5≤ab.length∧i4=E9 aa (ab.take i5.toNat))
  (fun(i4,i5)=>(ab.length - i5).toNat) (aa,0) ⟨by omega,by omega,rfl⟩ ⟨rfl,rfl,trivial⟩ rfl ?_
 rintro⟨i4,i5⟩ J ⟨h0,h1,hx⟩ hJ
 have zs:=T1 (b:=b)
 have zl:=Ge (b:=b)
 rw[ae]at zs zl
 simp only[]at zs zl
 conv=>cbv
 refine .go ac fun v2 ar=>?_
 conv=>cbv
 refine .lss (fun h3=>?_) fun h3=>?_
 conv=>cbv
 refine .go i5.toNat ac fun aj e4 ak=>?_
 conv=>cbv
 have zb:=zs e4 (ak▸List.getElem_mem _)
 generalize al:Gn i4 e4=r5
 refine .dd hP (Xbz (by omega) al) ?_
 conv=>cbv
 refine .add fun v6 au=>?_
 conv=>cbv
 exact .go [] (r5,v6) (hJ _ ⟨by omega,by omega,by rw[show v6.toNat=i5.toNat+1 by omega,List.take_succ_eq_append_getElem aj,E9,List.foldl_append,←ak];show r5=Gn (E9 aa (ab.take i5.toNat)) e4;rw[←hx,al]⟩ mlt)
 conv=>cbv
 have e:i4=G5 b:=(by unfold G5;rw[ae,hx,List.take_of_length_le (by omega)])
 rw[hr]at e
 subst e
 exact hQ _ _ (.i rfl rfl)
theorem Xd2{o:List Se}(Du:B4.map Cs=Dz)(Dc:Bo.map A2=D0)(Ef:Cg.map A2=Dy)(Eh:Ci.map cS=D1)(hd:okD ⟨B4,Bo,Cg,Ci,Ch,Cf⟩)(hr:Kp (⟨B4,Bo,Cg,Ci,Ch,Cf⟩:As)=o)(ho:o.map XeU=xo):Fn Tryz.prog 108 [.agg [.d (.row 3 Dz),.d (.row 2 D0),.d (.row 2 Dy),.d (.row 1 D1),I Ch,I Cf]] [] ⟨.d (.row 11 xo),[],[]⟩:=by
 refine Fn.go Ep Tryz.func108 fun P hP Q hQ=>?_
 conv=>cbv
 refine LoopW.lp (κ:=Int×Int×(List (List D))×Nat) Ep hP [2] [1] (fun(i4,i5,af,ac)=>[(3,.ref 3 0 ac),(4,I i4),(5,I i5)]) (fun(i4,i5,af,ac)=>[(3,.row 11 false af)])
  (fun(i4,i5,af,ac)=>∃(w3:List Se),w3.map XeU=af∧ac=w3.length∧(w3.length≤16∧0≤i4∧i4≤2000000000)∧Kp (⟨B4,Bo,Cg,Ci,Ch,Cf⟩:As)=w3++Hq (⟨B4,Bo,Cg,Ci,Ch,Cf⟩:As) (16 - w3.length) i4 i5)
  (fun(i4,i5,af,ac)=>16 - ac) (0,0,[],0) ⟨[],rfl,rfl,by simp,rfl⟩ ⟨rfl,rfl,rfl,trivial⟩ rfl ?_
 rintro⟨i4,i5,af,ac⟩ J ⟨w3,ad,a8,hb,hI⟩ hJ
 conv=>cbv
 refine .go fun v1 bb=>?_
 conv=>cbv
 refine .lss (fun h2=>?_) fun h2=>?_
 conv=>cbv
 generalize ak:B2 (⟨B4,Bo,Cg,Ci,Ch,Cf⟩:As) i4=r3
 refine .dd hP (Xat Du Dc Ef Eh hd ak) ?_
 conv=>cbv
 have z3:=F8 hd ak
 rcases am:A0 r3 with⟨au,⟨ag,ah,ai,aj⟩,ab,al,ap,aq⟩
 generalize aa:ab.map cS=ax
 generalize ae:al.map cI=ay
 refine .dd hP (Ow (by omega) am aa ae) ?_
 conv=>cbv
 have zr:=Ge (b:=r3)
 have zq:=T1 (b:=r3)
 rw[am]at zr zq
 simp only[]at zr zq
 have rq:Bz r3=ab:=by unfold Bz;rw[am]
 generalize an:Cy r3 i4 i5=r5
 refine .dd hP (XeA (by omega) an) ?_
 cases r5
 conv=>cbv
 have e:w3=Kp (⟨B4,Bo,Cg,Ci,Ch,Cf⟩:As):=(by rw[hI,Ns ak (.inl an),List.append_nil])
 rw[hr]at e
 subst e
 exact hQ _ _ (.r rfl rfl (by rw[←ad,List.length_map];first|omega|(simp;omega)) (by rw[←ad,←ho]))
 conv=>cbv
 refine .go aa fun v6 ar=>?_
 conv=>cbv
 refine .eql (fun h7=>?_) fun h7=>?_
 conv=>cbv
 have e:w3=Kp (⟨B4,Bo,Cg,Ci,Ch,Cf⟩:As):=(by rw[hI,Ns ak (.inr (by rw[rq];exact List.eq_nil_of_length_eq_zero (by omega))),List.append_nil])
 rw[hr]at e
 subst e
 exact hQ _ _ (.r rfl rfl (by rw[←ad,List.length_map];first|omega|(simp;omega)) (by rw[←ad,←ho]))
 conv=>cbv
 have hg:=Ni an
 obtain⟨hh,g1,g2,g3,g4,g5⟩:=hg
 have hne:ab≠[]:=by intro e;rw[e]at ar;simp at ar;exact h7 ar
 refine .one (⟨i4,r3,⟨au,⟨ag,ah,ai,aj⟩,ab,al,ap,aq⟩⟩:Se) ad (by rw[←aa,←ae];rfl) fun az z8 ba a1=>?_
 conv=>cbv
 refine .go aa fun v9 a2=>?_
 conv=>cbv
 refine .add fun a6 aw=>?_
 conv=>cbv
 generalize ao:E9 i5 ab=a7
 refine .dd hP (Xcg aa (by omega) zq ao) ?_
 conv=>cbv
 exact .go [10] (a6,a7,z8,az) (hJ _ ⟨_,a1,Jy,by rw[List.length_append];simp;omega,by rw[hI,show 16 - w3.length=(15 - w3.length)+1 by omega,Q3 ak an (by rw[rq];exact hne),List.append_assoc,am,List.length_append,rq,ao,←a2,←aw];simp only[List.length_singleton];rw[show 16 - (w3.length+1)=15 - w3.length by omega];rfl⟩ mlt)
 conv=>cbv
 have e:w3=Kp (⟨B4,Bo,Cg,Ci,Ch,Cf⟩:As):=(by rw[hI,show 16 - w3.length=0 by omega];simp[Hq])
 rw[hr]at e
 subst e
 exact hQ _ _ (.r rfl rfl (by rw[←ad,List.length_map];first|omega|(simp;omega)) (by rw[←ad,←ho]))
theorem XdN{o:List Int}(Du:B4.map Cs=Dz)(Dc:Bo.map A2=D0)(Ef:Cg.map A2=Dy)(Eh:Ci.map cS=D1)(hd:okD ⟨B4,Bo,Cg,Ci,Ch,Cf⟩)(hr:Dr (⟨B4,Bo,Cg,Ci,Ch,Cf⟩:As)=o)(ho:o.map cI=xo):Fn Tryz.prog 98 [.agg [.d (.row 3 Dz),.d (.row 2 D0),.d (.row 2 Dy),.d (.row 1 D1),I Ch,I Cf]] [] ⟨.d (.row 1 xo),[],[]⟩:=by
 refine Fn.go Ep Tryz.func98 fun P hP Q hQ=>?_
 conv=>cbv
 refine LoopW.lp (κ:=Int×Int×(List (List D))×Nat) Ep hP [2] [1] (fun(i4,i5,ac,aa)=>[(3,.ref 3 0 aa),(4,I i4),(5,I i5)]) (fun(i4,i5,ac,aa)=>[(3,.row 1 false ac)])
  (fun(i4,i5,ac,aa)=>∃(w3:List Int),w3.map cI=ac∧aa=w3.length∧(w3.length≤16∧0≤i4∧i4≤2000000000)∧Dr (⟨B4,Bo,Cg,Ci,Ch,Cf⟩:As)=w3++(Hq (⟨B4,Bo,Cg,Ci,Ch,Cf⟩:As) (16 - w3.length) i4 i5).map (·.base_))
  (fun(i4,i5,ac,aa)=>16 - aa) (0,0,[],0) ⟨[],rfl,rfl,by simp,rfl⟩ ⟨rfl,rfl,rfl,trivial⟩ rfl ?_
 rintro⟨i4,i5,ac,aa⟩ J ⟨w3,ab,an,hb,hI⟩ hJ
 conv=>cbv
 refine .go fun v1 ap=>?_
 conv=>cbv
 refine .lss (fun h2=>?_) fun h2=>?_
 conv=>cbv
 generalize ae:B2 (⟨B4,Bo,Cg,Ci,Ch,Cf⟩:As) i4=r3
 refine .dd hP (Ul Du Dc Ef Eh hd ae) ?_
 conv=>cbv
 have z3:=F8 hd ae
 generalize ad:Bz r3=l4
 generalize ah:l4.map cS=aq
 refine .dd hP (P8 (by omega) ad ah) ?_
 conv=>cbv
 refine .go ah fun v5 ag=>?_
 conv=>cbv
 refine .eql (fun h6=>?_) fun h6=>?_
 conv=>cbv
 have e:w3=Dr (⟨B4,Bo,Cg,Ci,Ch,Cf⟩:As):=(by rw[hI,Ns ae (.inr (by rw[ad];exact List.eq_nil_of_length_eq_zero (by omega)))];simp)
 rw[hr]at e
 subst e
 exact hQ _ _ (.r rfl rfl (by rw[←ab,List.length_map];first|omega|(simp;omega)) (by rw[←ab,←ho]))
 conv=>cbv
 generalize af:Cy r3 i4 i5=r7
 refine .dd hP (Xe5 (by omega) af) ?_
 cases r7
 conv=>cbv
 have e:w3=Dr (⟨B4,Bo,Cg,Ci,Ch,Cf⟩:As):=(by rw[hI,Ns ae (.inl af)];simp)
 rw[hr]at e
 subst e
 exact hQ _ _ (.r rfl rfl (by rw[←ab,List.length_map];first|omega|(simp;omega)) (by rw[←ab,←ho]))
 conv=>cbv
 have hg:=Ni af
 obtain⟨hh,g1,g2,g3,g4,g5⟩:=hg
 have hne:l4≠[]:=by intro e;rw[e]at ag;simp at ag;exact h6 ag
 have zr:=Ge (b:=r3)
 have rq:(A0 r3).records_=l4:=ad
 rw[rq]at zr
 refine .one i4 ab rfl fun ak z8 ao al=>?_
 conv=>cbv
 generalize ai:G5 r3=r9
 refine .dd hP (Zq (by omega) ai) ?_
 conv=>cbv
 refine .add fun am aj=>?_
 conv=>cbv
 exact .go [5] (am,r9,z8,ak) (hJ _ ⟨_,al,Jy,by rw[List.length_append];simp;omega,by rw[hI,show 16 - w3.length=(15 - w3.length)+1 by omega,Q3 ae af (by rw[ad];exact hne),ad,List.map_cons,List.append_assoc,List.length_append,←Ox af ad,ai,←ag,←aj];simp only[List.length_singleton];rw[show 16 - (w3.length+1)=15 - w3.length by omega];rfl⟩ mlt)
 conv=>cbv
 have e:w3=Dr (⟨B4,Bo,Cg,Ci,Ch,Cf⟩:As):=(by rw[hI,show 16 - w3.length=0 by omega];simp[Hq])
 rw[hr]at e
 subst e
 exact hQ _ _ (.r rfl rfl (by rw[←ab,List.length_map];first|omega|(simp;omega)) (by rw[←ab,←ho]))
theorem Xgk{o:List ByteArray}(Du:B4.map Cs=Dz)(Dc:Bo.map A2=D0)(Ef:Cg.map A2=Dy)(Eh:Ci.map cS=D1)(hd:okD ⟨B4,Bo,Cg,Ci,Ch,Cf⟩)(hr:Jp (⟨B4,Bo,Cg,Ci,Ch,Cf⟩:As)=o)(ho:o.map cS=xo):Fn Tryz.prog 67 [.agg [.d (.row 3 Dz),.d (.row 2 D0),.d (.row 2 Dy),.d (.row 1 D1),I Ch,I Cf]] [] ⟨.d (.row 1 xo),[],[]⟩:=by
 refine Fn.go Ep Tryz.func67 fun P hP Q hQ=>?_
 conv=>cbv
 generalize ap:Kp (⟨B4,Bo,Cg,Ci,Ch,Cf⟩:As)=l1
 generalize ar:l1.map XeU=bd
 refine .dd hP (Xd2 Du Dc Ef Eh hd ap ar) ?_
 conv=>cbv
 refine .go ar fun v2 be=>?_
 conv=>cbv
 refine LoopW.lp (κ:=Int×(List (List D))×Nat) Ep hP [2] [8,9] (fun(ae,am,an)=>[(3,.ref 3 0 an),(10,I ae)]) (fun(ae,am,an)=>[(3,.row 1 false am)])
  (fun(ae,am,an)=>∃(w3:List ByteArray),w3.map cS=am∧an=w3.length∧0≤ae∧ae≤l1.length∧w3.length≤1000000000*ae.toNat∧w3=(l1.take ae.toNat).flatMap fun x=>x.scan_.records_)
  (fun(ae,am,an)=>(l1.length - ae).toNat) (0,[],0) ⟨[],rfl,rfl,by omega,by omega,by simp,by simp⟩ ⟨rfl,rfl,trivial⟩ rfl ?_
 rintro⟨ae,am,an⟩ J ⟨w3,au,ba,h0,h1,hb,hw⟩ hJ
 have bb:=S5 ap
 conv=>cbv
 refine .lss (fun h3=>?_) fun h3=>?_
 conv=>cbv
 refine .goX ae.toNat ar fun az ⟨ao,ak,⟨aj,⟨aa,ab,ac,ad⟩,af,ag,ah,ai⟩⟩ fe4 a1 hfe4=>?_
 replace hfe4:[.sc (.int .i64 ao),.sc (.string ak),.sc (.bool aj),.sc (.int .i64 aa),.sc (.int .i64 ab),.sc (.int .i64 ac),.sc (.int .i64 ad),.row 1 (af.map cS),.row 1 (ag.map cI),.sc (.int .i64 ah),.sc (.bool ai)]=fe4:=hfe4
 generalize al:af.map cS=aw at hfe4
 generalize ax:ag.map cI=ay at hfe4
 subst hfe4
 conv=>cbv
 have hm:=N8 ap (x:=⟨ao,ak,⟨aj,⟨aa,ab,ac,ad⟩,af,ag,ah,ai⟩⟩) (by rw[a1];exact List.getElem_mem _)
 obtain⟨aq,a2,s9,a6⟩:=hm
 simp only[]at aq a2 a6
 have hz:=F8 hd aq.symm
 have zr:=Ge (b:=ak)
 rw[aq,←a2]at zr
 simp only[]at zr
 rw[←aq]at zr
 refine .row au al fun a7 z5 bc a8=>?_
 conv=>cbv
 refine .add fun v6 bf=>?_
 conv=>cbv
 exact .go [7] (v6,z5,a7) (hJ _ ⟨_,a8,Jy,by omega,by omega,by rw[List.length_append,show v6.toNat=ae.toNat+1 by omega];omega,by rw[hw,show v6.toNat=ae.toNat+1 by omega,I7 az,←a1]⟩ mlt)
 conv=>cbv
 have e:w3=Jp (⟨B4,Bo,Cg,Ci,Ch,Cf⟩:As):=(by unfold Jp;rw[hw,ap,List.take_of_length_le (by omega)])
 rw[hr]at e
 subst e
 exact hQ _ _ (.r rfl rfl (by rw[←au,List.length_map];first|omega|(simp;omega)) (by rw[←au,←ho]))
theorem Xgz{o:List ByteArray}(Du:B4.map Cs=Dz)(Dc:Bo.map A2=D0)(Ef:Cg.map A2=Dy)(Eh:Ci.map cS=D1)(hd:okD ⟨B4,Bo,Cg,Ci,Ch,Cf⟩)(hr:Jp (⟨B4,Bo,Cg,Ci,Ch,Cf⟩:As)=o)(ho:o.map cS=xo):Fn Tryz.prog 58 [.agg [.d (.row 3 Dz),.d (.row 2 D0),.d (.row 2 Dy),.d (.row 1 D1),I Ch,I Cf]] [] ⟨.d (.row 1 xo),[],[]⟩:=by
 refine Fn.go Ep Tryz.func58 fun P hP Q hQ=>?_
 conv=>cbv
 generalize ac:Dr (⟨B4,Bo,Cg,Ci,Ch,Cf⟩:As)=l1
 generalize ad:l1.map cI=ap
 refine .dd hP (XdN Du Dc Ef Eh hd ac ad) ?_
 conv=>cbv
 refine LoopW.lp (κ:=Int×(List (List D))×Nat) Ep hP [2] [1,4] (fun(i5,aa,ab)=>[(3,.ref 3 0 ab),(5,I i5)]) (fun(i5,aa,ab)=>[(3,.row 1 false aa)])
  (fun(i5,aa,ab)=>∃(w3:List ByteArray),w3.map cS=aa∧ab=w3.length∧0≤i5∧i5≤l1.length∧w3.length≤1000000000*i5.toNat∧w3=(l1.take i5.toNat).flatMap fun b=>Bz (B2 (⟨B4,Bo,Cg,Ci,Ch,Cf⟩:As) b))
  (fun(i5,aa,ab)=>(l1.length - i5).toNat) (0,[],0) ⟨[],rfl,rfl,by omega,by omega,by simp,by simp⟩ ⟨rfl,rfl,trivial⟩ rfl ?_
 rintro⟨i5,aa,ab⟩ J ⟨w3,ae,am,h0,h1,hb,hw⟩ hJ
 have an:=Js ac
 conv=>cbv
 refine .go ad fun v2 aq=>?_
 conv=>cbv
 refine .lss (fun h3=>?_) fun h3=>?_
 conv=>cbv
 refine .go i5.toNat ad fun ah e4 aj=>?_
 conv=>cbv
 generalize af:B2 (⟨B4,Bo,Cg,Ci,Ch,Cf⟩:As) e4=r5
 refine .dd hP (Ul Du Dc Ef Eh hd af) ?_
 conv=>cbv
 have z5:=F8 hd af
 generalize ag:Bz r5=l6
 generalize ai:l6.map cS=ar
 refine .dd hP (P8 (by omega) ag ai) ?_
 conv=>cbv
 have zr:=Ge (b:=r5)
 have rq:(A0 r5).records_=l6:=ag
 rw[rq]at zr
 refine .row ae ai fun ak z7 ao al=>?_
 conv=>cbv
 refine .add fun v8 au=>?_
 conv=>cbv
 exact .go [4] (v8,z7,ak) (hJ _ ⟨_,al,Jy,by omega,by omega,by rw[List.length_append,show v8.toNat=i5.toNat+1 by omega];omega,by rw[hw,show v8.toNat=i5.toNat+1 by omega,I7 ah,←aj,af,ag]⟩ mlt)
 conv=>cbv
 have e:w3=Jp (⟨B4,Bo,Cg,Ci,Ch,Cf⟩:As):=(by rw[Mp,ac,hw,List.take_of_length_le (by omega)])
 rw[hr]at e
 subst e
 exact hQ _ _ (.r rfl rfl (by rw[←ae,List.length_map];first|omega|(simp;omega)) (by rw[←ae,←ho]))
end
section
open Go Go.Proofs
set_option maxRecDepth 20000
set_option maxHeartbeats 4000000
def sumL{α:Type}(f:α→Int)(l:List α):Int:=(l.map f).foldl (·+·) 0
theorem U4{d:As}{l:List ByteArray}(hd:okD d)(e:Jp d=l):l.length≤16000000000∧∀x∈l,x.size≤60:=by
 rw[←e,Mp]
 refine⟨?_,?_⟩
 ·have key:∀c:List Int,(c.flatMap fun b=>Bz (B2 d b)).length≤1000000000*c.length:=by
   intro c
   induction c with
   |nil=>simp
   |cons b c ih=>
    rw[List.flatMap_cons,List.length_append,List.length_cons]
    have h1:=Ge (b:=B2 d b)
    have h2:=F8 hd (rfl:B2 d b=_)
    have h3:(Bz (B2 d b)).length=(A0 (B2 d b)).records_.length:=rfl
    omega
  have h1:=key (Dr d)
  have h2:=Js (rfl:Dr d=_)
  omega
 ·intro x hx
  obtain⟨b,_,hb⟩:=List.mem_flatMap.1 hx
  exact T1 x hb
def Xg3{α:Type}[DecidableEq α](a b:List α):Bool:=decide (a=b)
end
section
open Go Go.Proofs
set_option maxRecDepth 20000
set_option maxHeartbeats 4000000
def V4:List (Nat×TyRow):=[ty3,ty9,Xcf,Xcd,XgB,Xfx,XbA]
theorem Wr:Ck Tryz.prog V4:=Ck.of (by kernel_rfl)
theorem Uu:Setup Tryz.prog V4:=⟨Wr,mixed⟩
def Xbh(l:List Int)(x:Int):Int:=Xak (fun y=>decide (y=x)) l
def Jt(l:List Int)(x:Int):Bool:=decide (x∈l)
variable {l:List Int} {xl:List (List D)} {x:Int}
theorem Ku{o:Int}(hl:l.map cI=xl)(hn:l.length<2^40)(hr:Xbh l x=o):Fn Tryz.prog 283 [.d (.row 1 xl),I x] [] ⟨I o,[],[]⟩:=by
 refine Fn.go Uu Tryz.func283 fun P hP Q hQ=>?_
 conv=>cbv
 refine .go hl fun v1 ac=>?_
 conv=>cbv
 refine LoopW.lp (κ:=Int) Uu hP [] [0,1,7] (fun i8=>[(8,I i8)]) (fun i8=>[])
  (fun i8=>0≤i8∧i8≤l.length∧∀(j:Nat) (hj:j<l.length),j<i8.toNat→decide (l[j]=x)=false)
  (fun i8=>(l.length - i8).toNat) (0) ⟨by omega,by omega,fun j _ h=>by simp at h⟩ ⟨rfl,trivial⟩ rfl ?_
 rintro i8 J ⟨h0,h1,hb⟩ hJ
 conv=>cbv
 refine .lss (fun h2=>?_) fun h2=>?_
 conv=>cbv
 refine .go i8.toNat hl fun ab e3 aa=>?_
 conv=>cbv
 refine .eql (fun h4=>?_) fun h4=>?_
 conv=>cbv
 have e:i8=Xbh l x:=(by exact Oj (p:=fun y=>decide (y=x)) h0 (by omega) (by rw[←aa];exact decide_eq_true h4.symm) hb)
 rw[hr]at e
 subst e
 exact hQ _ _ (.i rfl rfl)
 conv=>cbv
 refine .add fun v5 ad=>?_
 conv=>cbv
 exact .go [] (v5) (hJ _ ⟨by omega,by omega,fun j hj h=>if e:j=i8.toNat then by subst e;rw[←aa];exact decide_eq_false (Ne.symm h4)else hb j hj (by omega)⟩ mlt)
 conv=>cbv
 have e:(-1)=Xbh l x:=(by exact Jm (p:=fun y=>decide (y=x)) fun j hj=>hb j hj (by omega))
 rw[hr]at e
 subst e
 exact hQ _ _ (.i rfl rfl)
theorem I5{o:Bool}(hl:l.map cI=xl)(hn:l.length<2^40)(hr:Jt l x=o):Fn Tryz.prog 220 [.d (.row 1 xl),I x] [] ⟨B o,[],[]⟩:=by
 refine Fn.go Uu Tryz.func220 fun P hP Q hQ=>?_
 conv=>cbv
 generalize aa:Xbh l x=r1
 refine .dd hP (Ku hl (by omega) aa) ?_
 conv=>cbv
 refine .geq (fun h2=>?_) fun h2=>?_
 conv=>cbv
 have e:true=Jt l x:=(by unfold Jt;symm;rw[decide_eq_true_eq];obtain⟨hi,hp⟩:=Xei (p:=fun y=>decide (y=x)) aa h2;have hp:=of_decide_eq_true hp;rw[←hp];exact List.getElem_mem hi)
 rw[hr]at e
 subst e
 exact hQ _ _ (.b rfl rfl)
 conv=>cbv
 have e:false=Jt l x:=(by unfold Jt;symm;rw[decide_eq_false_iff_not];intro hm;have:=Xf7 (p:=fun y=>decide (y=x)) aa (by omega) x hm;simp at this)
 rw[hr]at e
 subst e
 exact hQ _ _ (.b rfl rfl)
end
section
open Go Go.Proofs
set_option maxRecDepth 20000
set_option maxHeartbeats 4000000
def Wx:List (Nat×TyRow):=[ty3,ty9,Xcf,Xcd,XgB,Xfx,XgH,Xhq,XbA]
theorem Vr:Ck Tryz.prog Wx:=Ck.of (by kernel_rfl)
theorem P2:Setup Tryz.prog Wx:=⟨Vr,mixed⟩
def Jh(d:As):List ByteArray:=d.entries_.map fun e=>e.name_
variable {B4:List Cm} {Dz D0 Dy D1 xo:List (List D)} {Bo Cg:List A3} {Ci:List ByteArray} {Ch Cf:Int}
theorem Xgv{o:List Int}(Du:B4.map Cs=Dz)(Dc:Bo.map A2=D0)(Ef:Cg.map A2=Dy)(Eh:Ci.map cS=D1)(hd:okD ⟨B4,Bo,Cg,Ci,Ch,Cf⟩)(hr:Dr (⟨B4,Bo,Cg,Ci,Ch,Cf⟩:As)=o)(ho:o.map cI=xo):Fn Tryz.prog 150 [.agg [.d (.row 3 Dz),.d (.row 2 D0),.d (.row 2 Dy),.d (.row 1 D1),I Ch,I Cf]] [] ⟨.d (.row 1 xo),[],[]⟩:=by
 refine Fn.go P2 Tryz.func150 fun P hP Q hQ=>?_
 conv=>cbv
 generalize an:Kp (⟨B4,Bo,Cg,Ci,Ch,Cf⟩:As)=l1
 generalize ao:l1.map XeU=ba
 refine .dd hP (Xd2 Du Dc Ef Eh hd an ao) ?_
 conv=>cbv
 refine .go ao fun v2 bb=>?_
 conv=>cbv
 refine LoopW.lp (κ:=Int×(List (List D))×Nat) P2 hP [2] [8,9] (fun(aa,ah,ai)=>[(3,.ref 3 0 ai),(10,I aa)]) (fun(aa,ah,ai)=>[(3,.row 1 false ah)])
  (fun(aa,ah,ai)=>∃(w3:List Int),w3.map cI=ah∧ai=w3.length∧0≤aa∧aa≤l1.length∧w3=(l1.take aa.toNat).map fun x=>x.base_)
  (fun(aa,ah,ai)=>(l1.length - aa).toNat) (0,[],0) ⟨[],rfl,rfl,by omega,by omega,by simp⟩ ⟨rfl,rfl,trivial⟩ rfl ?_
 rintro⟨aa,ah,ai⟩ J ⟨w3,ap,a6,h0,h1,hw⟩ hJ
 have a7:=S5 an
 have hwl:w3.length=aa.toNat:=by rw[hw,List.length_map,List.length_take];omega
 conv=>cbv
 refine .lss (fun h3=>?_) fun h3=>?_
 conv=>cbv
 refine .goX aa.toNat ao fun ay ⟨al,aq,⟨am,⟨ad,ae,af,ag⟩,ab,ac,aj,ak⟩⟩ fe4 az hfe4=>?_
 replace hfe4:[.sc (.int .i64 al),.sc (.string aq),.sc (.bool am),.sc (.int .i64 ad),.sc (.int .i64 ae),.sc (.int .i64 af),.sc (.int .i64 ag),.row 1 (ab.map cS),.row 1 (ac.map cI),.sc (.int .i64 aj),.sc (.bool ak)]=fe4:=hfe4
 generalize ar:ab.map cS=au at hfe4
 generalize aw:ac.map cI=ax at hfe4
 subst hfe4
 conv=>cbv
 refine .one al ap rfl fun a1 z5 a8 a2=>?_
 conv=>cbv
 refine .add fun v6 bc=>?_
 conv=>cbv
 exact .go [8] (v6,z5,a1) (hJ _ ⟨_,a2,Jy,by omega,by omega,by rw[hw,show v6.toNat=aa.toNat+1 by omega,Xe4 ay,←az]⟩ mlt)
 conv=>cbv
 have e:w3=Dr (⟨B4,Bo,Cg,Ci,Ch,Cf⟩:As):=(by unfold Dr;rw[an,hw,List.take_of_length_le (by omega)])
 rw[hr]at e
 subst e
 exact hQ _ _ (.r rfl rfl (by rw[←ap,List.length_map];first|omega|(simp;omega)) (by rw[←ap,←ho]))
theorem Re{o:List ByteArray}(Du:B4.map Cs=Dz)(Dc:Bo.map A2=D0)(Ef:Cg.map A2=Dy)(Eh:Ci.map cS=D1)(am:Bo.length≤1000000000)(hr:Jh (⟨B4,Bo,Cg,Ci,Ch,Cf⟩:As)=o)(ho:o.map cS=xo):Fn Tryz.prog 146 [.agg [.d (.row 3 Dz),.d (.row 2 D0),.d (.row 2 Dy),.d (.row 1 D1),I Ch,I Cf]] [] ⟨.d (.row 1 xo),[],[]⟩:=by
 refine Fn.go P2 Tryz.func146 fun P hP Q hQ=>?_
 conv=>cbv
 refine .go Dc fun v1 an=>?_
 conv=>cbv
 refine LoopW.lp (κ:=Int×(List (List D))×Nat) P2 hP [2] [8,9] (fun(aa,ab,ac)=>[(3,.ref 3 0 ac),(10,I aa)]) (fun(aa,ab,ac)=>[(3,.row 1 false ab)])
  (fun(aa,ab,ac)=>∃(w3:List ByteArray),w3.map cS=ab∧ac=w3.length∧0≤aa∧aa≤Bo.length∧w3=(Bo.take aa.toNat).map (fun e=>e.name_)∧w3.length=aa.toNat)
  (fun(aa,ab,ac)=>Bo.length - aa.toNat) (0,[],0) ⟨[],rfl,rfl,by omega,by omega,rfl,rfl⟩ ⟨rfl,rfl,trivial⟩ rfl ?_
 rintro⟨aa,ab,ac⟩ J ⟨w3,ad,aj,h0,hle,hw,hwl⟩ hJ
 conv=>cbv
 refine .lss (fun h2=>?_) fun h2=>?_
 conv=>cbv
 refine .go aa.toNat Dc fun af ⟨ae,ak⟩ ag=>?_
 conv=>cbv
 refine .one ae ad rfl fun ah z4 al ai=>?_
 conv=>cbv
 refine .add fun v5 ao=>?_
 conv=>cbv
 exact .go [6] (v5,z4,ah) (hJ _ ⟨_,ai,Jy,by omega,by omega,by rw[hw,show v5.toNat=aa.toNat+1 by omega,List.take_succ_eq_append_getElem af,List.map_append,←ag];rfl,by rw[List.length_append,hwl];simp;omega⟩ mlt)
 conv=>cbv
 have e:w3=Jh (⟨B4,Bo,Cg,Ci,Ch,Cf⟩:As):=(by unfold Jh;rw[hw,List.take_of_length_le (by omega)])
 rw[hr]at e
 subst e
 exact hQ _ _ (.r rfl rfl (by rw[←ad,List.length_map];first|omega|(simp;omega)) (by rw[←ad,←ho]))
end
section
open Go Go.Proofs
set_option maxRecDepth 20000
set_option maxHeartbeats 4000000
end
section
open Go Go.Proofs
set_option maxRecDepth 20000
set_option maxHeartbeats 4000000
theorem Xfw{α β:Type}{f:α→List β}{m:Nat}(h:∀x,(f x).length≤m):∀l:List α,(l.flatMap f).length≤m*l.length
 |[]=>by simp
 |x::l=>by
  have:=Xfw h l
  have h2:=h x
  rw[List.flatMap_cons,List.length_append,List.length_cons,Nat.mul_succ]
  omega
end
section
open Go Go.Proofs
set_option maxRecDepth 20000
set_option maxHeartbeats 4000000
def Xp:List (Nat×TyRow):=[ty3,ty5,ty9,Xcd,Xca]
theorem Xs:Ck Tryz.prog Xp:=Ck.of (by kernel_rfl)
theorem Fm:Setup Tryz.prog Xp:=⟨Xs,mixed⟩
def fig(x:Int):UInt8:=UInt8.ofNat (if x<10 then 48+x.toNat else 87+x.toNat)
def C3(x:Int):Int:=(if x<10 then 48+x else 97+x - 10)% 256
theorem Rn{x:Int}(h:0≤x∧x<16):((fig x).toNat:Int)=C3 x:=by
 unfold fig C3
 split
 ·rw[UInt8.toNat_ofNat',Nat.mod_eq_of_lt (by omega)];omega
 ·rw[UInt8.toNat_ofNat',Nat.mod_eq_of_lt (by omega)];omega
theorem Pa{x r:Int}(hr:C3 x=r)(h:0≤x∧x<16):[D.sc (.int .u8 r)]=cB (fig x):=by
 show _=[D.sc (.int .u8 ((fig x).toNat:Int))]
 rw[Rn h,hr]
theorem fig10(n:Nat):fig ((n% 10:Nat):Int)=UInt8.ofNat (48+n% 10):=by
 unfold fig
 rw[if_pos (by omega),Int.toNat_natCast]
theorem Hy:∀(k u:Nat),u<10^ (k+1)→1≤(Lib.decDigits u).length∧(Lib.decDigits u).length≤k+1
 |0,u,h=>by rw[Lib.decDigits,dif_pos (by simpa using h)];simp
 |k+1,u,h=>by
  by_cases hn:u<10
  ·rw[Lib.decDigits,dif_pos hn];simp
  ·rw[Lib.decDigits,dif_neg hn]
   have:=Hy k (u/10) (by rw[Nat.pow_succ]at h;omega)
   simp;omega
def XcJ(n:Nat):List UInt8:=if n=0 then[]else Lib.decDigits n
theorem N1{n:Nat}(h:n≠0):XcJ n=XcJ (n/10)++[fig ((n% 10:Nat):Int)]:=by
 unfold XcJ
 rw[if_neg h,Lib.decDigits,fig10]
 split
 ·rw[if_pos (by omega),Nat.mod_eq_of_lt (by omega)];rfl
 ·rw[if_neg (by omega)]
theorem Xaw{u:Nat}(h:u≤9223372036854775808):(XcJ u).length≤19:=by
 unfold XcJ
 split
 ·simp
 ·exact(Hy 18 u (by omega)).2
abbrev Ma(n:Int):Prop:=-9223372036854775808≤n∧n≤9223372036854775807
def C6(n:Int):ByteArray:=tx (Lib.itoa n)
def XgP(n:Int):ByteArray:=C6 n
theorem XcZ(n:Int)(h:n≠0):Lib.itoa n=(if n<0 then[45]else[])++XcJ n.natAbs:=by
 unfold Lib.itoa XcJ
 rw[if_neg (show¬n.natAbs=0 by omega)]
 split
 ·rfl
 ·rw[show n.toNat=n.natAbs by omega];rfl
theorem Xar{n:Int}(h:Ma n):1≤(Lib.itoa n).length∧(Lib.itoa n).length≤20:=by
 unfold Ma at h
 unfold Lib.itoa
 split
 ·have:=Hy 18 n.natAbs (by omega)
  simp;omega
 ·have:=Hy 18 n.toNat (by omega)
  omega
theorem Jc{n:Int}{o:ByteArray}(e:C6 n=o)(h:Ma n):1≤o.size∧o.size≤20:=by
 rw[←e]
 unfold C6
 rw[A7]
 exact Xar h
theorem MakeW.cap{α:Type}{c:α→List D}{K:Nat→List (List D)→Prop}{m:Int}{bytes:Nat}{z:List D}(h:∀v l,l=0→([]:List α).map c=v→K l v)(h0:0≤m:=by omega)(h2:bytes*m≤2^48:=by omega)(h3:m<2^63:=by omega):MakeW 0 m bytes z K:=
 ⟨0,[],by omega,h0,h2,h3,rfl,rfl,h _ _ rfl rfl⟩
theorem ArW.quoT{K:Int→Prop}{a:Int}(h:∀v,v=a.tdiv 10→K v)(hr: -9223372036854775808≤a∧a<9223372036854775808:=by omega):ArW .quo .i64 .i64 a 10 K:=by
 refine⟨a.tdiv 10,?_,h _ rfl⟩
 show(if(10:Int)=0 then none else some (Value.int .i64 (IntKind.i64.wrap (a.tdiv 10))))=_
 rw[if_neg (by decide),J6]
 rcases Int.le_total 0 a with h0|h0
 ·rw[Int.tdiv_eq_ediv_of_nonneg h0];omega
 ·have:a.tdiv 10= -((-a)/10):=by rw[←Int.tdiv_eq_ediv_of_nonneg (by omega),Int.neg_tdiv];omega
  omega
theorem ArW.remT{K:Int→Prop}{k:IntKind}{a:Int}(h:∀v,v=a.tmod 10→K v):ArW .rem k k a 10 K:=by
 refine⟨a.tmod 10,?_,h _ rfl⟩
 show(if k=k then(if(10:Int)=0 then none else some (Value.int k (a.tmod 10)))else none)=_
 rw[if_pos rfl,if_neg (by decide)]
theorem Xhl{a:Int}{q:Nat}(h:a= -(q:Int)):a.tdiv 10= -((q/10:Nat):Int):=by
 subst h
 rw[Int.neg_tdiv,Int.tdiv_eq_ediv_of_nonneg (by omega)]
 omega
theorem Xht{a:Int}{q:Nat}(h:a= -(q:Int)):a.tmod 10= -((q% 10:Nat):Int):=by
 subst h
 rw[Int.neg_tmod,Int.tmod_eq_emod_of_nonneg (by omega)]
 omega
theorem XgX{a:Int}{q:Nat}(h:a=(q:Int)):a.tdiv 10=((q/10:Nat):Int):=by
 subst h
 rw[Int.tdiv_eq_ediv_of_nonneg (by omega)]
 omega
theorem XgY{a:Int}{q:Nat}(h:a=(q:Int)):a.tmod 10=((q% 10:Nat):Int):=by
 subst h
 rw[Int.tmod_eq_emod_of_nonneg (by omega)]
 omega
def Gj(l:List Int):ByteArray:=tx (l.flatMap fun n=>32::Lib.itoa n)
theorem T8:∀{l:List Int},(∀n∈l,Ma n)→(l.flatMap fun n=>32::Lib.itoa n).length≤21*l.length
 |[],_=>by simp
 |n::l,h=>by
  have h1:=T8 (l:=l) fun x hx=>h x (List.mem_cons_of_mem _ hx)
  have h2:=Xar (h n List.mem_cons_self)
  rw[List.flatMap_cons,List.length_append,List.length_cons,List.length_cons]
  omega
theorem Lq{l:List Int}{o:ByteArray}(e:Gj l=o)(h:∀n∈l,Ma n):o.size≤21*l.length:=by
 rw[←e]
 unfold Gj
 rw[A7]
 exact T8 h
def Xfl(b:UInt8):List UInt8:=[fig ((b.toNat/16:Nat):Int),fig ((b.toNat% 16:Nat):Int)]
def Iz(t:ByteArray):ByteArray:=tx (t.data.toList.flatMap Xfl)
def Xl(t:ByteArray):ByteArray×Bool:=if 20000<(t.size:Int)then(tx [],false)else(Iz t,true)
def Dn(t:ByteArray):ByteArray:=if(Xl t).1=tx []then tx [45]else(Xl t).1
theorem Xam:∀(l:List UInt8),(l.flatMap Xfl).length=2*l.length
 |[]=>rfl
 |b::l=>by rw[List.flatMap_cons,List.length_append,Xam l,List.length_cons,show(Xfl b).length=2 from rfl];omega
theorem Wh{t:ByteArray}{i:Nat}(h:i<t.size):(t.data.toList.take (i+1)).flatMap Xfl=(t.data.toList.take i).flatMap Xfl++Xfl t[i]:=by
 have h':i<t.data.toList.length:=by rw[Array.length_toList];exact h
 rw[List.take_succ_eq_append_getElem h',List.flatMap_append]
 simp only[List.flatMap_cons,List.flatMap_nil,List.append_nil]
 rfl
theorem figL:∀(j:Nat) (h:j<(⟨⟨[48,49,50,51,52,53,54,55,56,57,97,98,99,100,101,102]⟩⟩:ByteArray).size),(⟨⟨[48,49,50,51,52,53,54,55,56,57,97,98,99,100,101,102]⟩⟩:ByteArray)[j]=fig (j:Int):=by
 have key:∀j:Fin 16,(⟨⟨[48,49,50,51,52,53,54,55,56,57,97,98,99,100,101,102]⟩⟩:ByteArray)[j.val]'j.isLt=fig (j.val:Int):=by decide
 intro j h
 exact key ⟨j,h⟩
theorem Xhi{x:Nat}(h:x<256):Nq .and .u8 (x:Int) 15=((x% 16:Nat):Int):=by
 show IntKind.u8.wrap ((BitVec.ofInt 8 (x:Int)&&&BitVec.ofInt 8 ((15:Nat):Int)).toNat:Int)=_
 rw[BitVec.toNat_and,Hp (by omega),Hp (by omega),Ih,show(15:Nat)=2^4 - 1 from rfl,Nat.and_two_pow_sub_one_eq_mod]
 omega
theorem shr4{x:Nat}:(x:Int).fdiv (2^min 4 IntKind.u8.bits)=((x/16:Nat):Int):=by
 show(x:Int).fdiv 16=_
 rw[Int.fdiv_eq_ediv_of_nonneg _ (by decide)]
 omega
variable {n:Int} {o t oa:ByteArray} {ob:Bool}
theorem Sh(hn:Ma n)(hr:XgP n=o):Fn Tryz.prog 216 [I n] [] ⟨S o,[],[]⟩:=by
 refine⟨E3 Tryz.func216 rfl rfl,CallOk.ofCallsG fun E vs hS hG hA=>?_⟩
 obtain⟨u,rfl,h1⟩:=XfL hA
 rw[O3 h1]
 have ht:=Xge hG
 refine(Tryz.strconv_Itoa n hn.1 hn.2 E.w ht).mono ?_
 rintro e w' ⟨rfl,k,os,rfl⟩
 exact⟨_,rfl,Lib.below_grow _ _ (Nat.le_refl _) k os,by rw[←hr];exact .sc _ rfl⟩
theorem Gw{x:Int}{o:Int}(hx:0≤x∧x<16)(hr:C3 x=o):Fn Tryz.prog 136 [I x] [] ⟨.d (.sc (.int .u8 o)),[],[]⟩:=by
 refine Fn.go Fm Tryz.func136 fun P hP Q hQ=>?_
 conv=>cbv
 refine .lss (fun h1=>?_) fun h1=>?_
 conv=>cbv
 refine .add fun v2 aa=>?_
 conv=>cbv
 refine .go fun v3 ab=>?_
 conv=>cbv
 have e:v3=C3 x:=(by rw[ab,Ih,aa];unfold C3;rw[if_pos (by omega)])
 rw[hr]at e
 subst e
 exact hQ _ _ (.i rfl rfl)
 conv=>cbv
 refine .add fun v2 aa=>?_
 conv=>cbv
 refine .sub fun v3 ab=>?_
 conv=>cbv
 refine .go fun v4 ac=>?_
 conv=>cbv
 have e:v4=C3 x:=(by rw[ac,Ih,ab,aa];unfold C3;rw[if_neg (by omega)])
 rw[hr]at e
 subst e
 exact hQ _ _ (.i rfl rfl)
theorem XdV(hn:Ma n)(hr:C6 n=o):Fn Tryz.prog 144 [I n] [] ⟨S o,[],[]⟩:=by
 refine Fn.go Fm Tryz.func144 fun P hP Q hQ=>?_
 conv=>cbv
 generalize aa:XgP n=r1
 refine .dd hP (Sh hn aa) ?_
 conv=>cbv
 have e:r1=C6 n:=(by exact aa.symm)
 rw[hr]at e
 subst e
 exact hQ _ _ (.s rfl rfl)
theorem M3(hn:Ma n)(hr:C6 n=o):Fn Tryz.prog 56 [I n] [] ⟨S o,[],[]⟩:=by
 refine Fn.go Fm Tryz.func56 fun P hP Q hQ=>?_
 conv=>cbv
 refine .eql (fun h1=>?_) fun h1=>?_
 conv=>cbv
 have e:(tx [48])=C6 n:=(by unfold C6;rw[h1,show Lib.itoa 0=[48]by unfold Lib.itoa;rw[if_neg (by decide),Lib.decDigits];rfl])
 rw[hr]at e
 subst e
 exact hQ _ _ (.s rfl rfl)
 conv=>cbv
 refine .lss (fun h2=>?_) fun h2=>?_
 conv=>cbv
 refine LoopW.lp (κ:=Int×ByteArray) Fm hP [] [3] (fun(i0,s4)=>[(0,I i0),(4,S s4)]) (fun(i0,s4)=>[])
  (fun(i0,s4)=>∃(q:Nat) (w:List UInt8),s4=tx w∧XcJ n.natAbs=XcJ q++w∧q≤n.natAbs∧(n<0→i0= -(q:Int))∧(0≤n→i0=(q:Int)))
  (fun(i0,s4)=>i0.natAbs) (n,tx []) ⟨n.natAbs,[],rfl,by simp,by omega,by omega,by omega⟩ ⟨rfl,rfl,trivial⟩ rfl ?_
 rintro⟨i0,s4⟩ J ⟨q,w,aa,hw,hq,hiN,hiP⟩ hJ
 have hwl:=congrArg List.length hw
 rw[List.length_append]at hwl
 have hdl:=Xaw (u:=n.natAbs) (by unfold Ma at hn;omega)
 have ai:s4.size=w.length:=by rw[aa,A7]
 have et:(n<0→i0.tdiv 10= -((q/10:Nat):Int))∧(0≤n→i0.tdiv 10=((q/10:Nat):Int)):=⟨fun h=>Xhl (hiN h),fun h=>XgX (hiP h)⟩
 have em:(n<0→i0.tmod 10= -((q% 10:Nat):Int))∧(0≤n→i0.tmod 10=((q% 10:Nat):Int)):=⟨fun h=>Xht (hiN h),fun h=>XgY (hiP h)⟩
 have hn_:=hn
 unfold Ma at hn_
 conv=>cbv
 refine .neq (fun h3=>?_) fun h3=>?_
 conv=>cbv
 refine .remT fun v4 ak=>?_
 conv=>cbv
 refine .lss (fun h5=>?_) fun h5=>?_
 conv=>cbv
 refine .go fun v6 al=>?_
 conv=>cbv
 generalize ad:C3 v6=r7
 refine .dd hP (Gw (by omega) ad) ?_
 conv=>cbv
 refine .go (l:=[fig ((q% 10:Nat):Int)]) (by show[cB (fig _)]=_;rw[show((q% 10:Nat):Int)=v6 by omega,←Pa ad (by omega)]) (hn:=rfl) fun s8 ab=>?_
 conv=>cbv
 have ag:s8.size=1:=by rw[ab];rfl
 refine .go fun s9 ae am=>?_
 conv=>cbv
 refine .quoT fun ah aj=>?_
 conv=>cbv
 exact .go [] (ah,s9) (hJ _ ⟨q/10,fig ((q% 10:Nat):Int)::w,by first|(rw[ae,ab,aa,Ce];rfl)|(rw[ab,ac,aa,Ce];rfl),by rw[hw,N1 (show q≠0 by omega),List.append_assoc];rfl,by omega,by omega,by omega⟩ mlt)
 conv=>cbv
 generalize af:C3 v4=r6
 refine .dd hP (Gw (by omega) af) ?_
 conv=>cbv
 refine .go (l:=[fig ((q% 10:Nat):Int)]) (by show[cB (fig _)]=_;rw[show((q% 10:Nat):Int)=v4 by omega,←Pa af (by omega)]) (hn:=rfl) fun s7 ac=>?_
 conv=>cbv
 have an:s7.size=1:=by rw[ac];rfl
 refine .go fun s8 ab ag=>?_
 conv=>cbv
 refine .quoT fun v9 ao=>?_
 conv=>cbv
 exact .go [] (v9,s8) (hJ _ ⟨q/10,fig ((q% 10:Nat):Int)::w,by first|(rw[ae,ab,aa,Ce];rfl)|(rw[ab,ac,aa,Ce];rfl),by rw[hw,N1 (show q≠0 by omega),List.append_assoc];rfl,by omega,by omega,by omega⟩ mlt)
 conv=>cbv
 refine .litL 1 fun s4 aa ai=>?_
 conv=>cbv
 have e:s4=C6 n:=(by unfold C6;rw[XcZ n h1,if_pos h2,hw,show q=0 by omega,aa];rename_i hs4_ _;rw[hs4_];show tx [45]++tx _=_;rw[Ce];rfl)
 rw[hr]at e
 subst e
 exact hQ _ _ (.s rfl rfl)
 conv=>cbv
 refine LoopW.lp (κ:=Int×ByteArray) Fm hP [] [3] (fun(i0,s4)=>[(0,I i0),(4,S s4)]) (fun(i0,s4)=>[])
  (fun(i0,s4)=>∃(q:Nat) (w:List UInt8),s4=tx w∧XcJ n.natAbs=XcJ q++w∧q≤n.natAbs∧(n<0→i0= -(q:Int))∧(0≤n→i0=(q:Int)))
  (fun(i0,s4)=>i0.natAbs) (n,tx []) ⟨n.natAbs,[],rfl,by simp,by omega,by omega,by omega⟩ ⟨rfl,rfl,trivial⟩ rfl ?_
 rintro⟨i0,s4⟩ J ⟨q,w,aa,hw,hq,hiN,hiP⟩ hJ
 have hwl:=congrArg List.length hw
 rw[List.length_append]at hwl
 have hdl:=Xaw (u:=n.natAbs) (by unfold Ma at hn;omega)
 have ai:s4.size=w.length:=by rw[aa,A7]
 have et:(n<0→i0.tdiv 10= -((q/10:Nat):Int))∧(0≤n→i0.tdiv 10=((q/10:Nat):Int)):=⟨fun h=>Xhl (hiN h),fun h=>XgX (hiP h)⟩
 have em:(n<0→i0.tmod 10= -((q% 10:Nat):Int))∧(0≤n→i0.tmod 10=((q% 10:Nat):Int)):=⟨fun h=>Xht (hiN h),fun h=>XgY (hiP h)⟩
 have hn_:=hn
 unfold Ma at hn_
 conv=>cbv
 refine .neq (fun h3=>?_) fun h3=>?_
 conv=>cbv
 refine .remT fun v4 ak=>?_
 conv=>cbv
 refine .lss (fun h5=>?_) fun h5=>?_
 conv=>cbv
 refine .go fun v6 al=>?_
 conv=>cbv
 generalize ad:C3 v6=r7
 refine .dd hP (Gw (by omega) ad) ?_
 conv=>cbv
 refine .go (l:=[fig ((q% 10:Nat):Int)]) (by show[cB (fig _)]=_;rw[show((q% 10:Nat):Int)=v6 by omega,←Pa ad (by omega)]) (hn:=rfl) fun s8 ab=>?_
 conv=>cbv
 have ag:s8.size=1:=by rw[ab];rfl
 refine .go fun s9 ae am=>?_
 conv=>cbv
 refine .quoT fun ah aj=>?_
 conv=>cbv
 exact .go [] (ah,s9) (hJ _ ⟨q/10,fig ((q% 10:Nat):Int)::w,by first|(rw[ae,ab,aa,Ce];rfl)|(rw[ab,ac,aa,Ce];rfl),by rw[hw,N1 (show q≠0 by omega),List.append_assoc];rfl,by omega,by omega,by omega⟩ mlt)
 conv=>cbv
 generalize af:C3 v4=r6
 refine .dd hP (Gw (by omega) af) ?_
 conv=>cbv
 refine .go (l:=[fig ((q% 10:Nat):Int)]) (by show[cB (fig _)]=_;rw[show((q% 10:Nat):Int)=v4 by omega,←Pa af (by omega)]) (hn:=rfl) fun s7 ac=>?_
 conv=>cbv
 have an:s7.size=1:=by rw[ac];rfl
 refine .go fun s8 ab ag=>?_
 conv=>cbv
 refine .quoT fun v9 ao=>?_
 conv=>cbv
 exact .go [] (v9,s8) (hJ _ ⟨q/10,fig ((q% 10:Nat):Int)::w,by first|(rw[ae,ab,aa,Ce];rfl)|(rw[ab,ac,aa,Ce];rfl),by rw[hw,N1 (show q≠0 by omega),List.append_assoc];rfl,by omega,by omega,by omega⟩ mlt)
 conv=>cbv
 have e:s4=C6 n:=(by unfold C6;rw[XcZ n h1,if_neg (by omega),hw,show q=0 by omega,aa];rfl)
 rw[hr]at e
 subst e
 exact hQ _ _ (.s rfl rfl)
theorem Wv{l:List Int}{xl:List (List D)}(hl:l.map cI=xl)(hl_:(∀n∈l,Ma n)∧l.length≤100)(hr:Gj l=o):Fn Tryz.prog 63 [.d (.row 1 xl)] [] ⟨S o,[],[]⟩:=by
 refine Fn.go Fm Tryz.func63 fun P hP Q hQ=>?_
 conv=>cbv
 refine .go hl fun v1 af=>?_
 conv=>cbv
 refine LoopW.lp (κ:=ByteArray×Int) Fm hP [] [6,7] (fun(s3,i8)=>[(3,S s3),(8,I i8)]) (fun(s3,i8)=>[])
  (fun(s3,i8)=>0≤i8∧i8≤l.length∧s3=tx ((l.take i8.toNat).flatMap fun n=>32::Lib.itoa n))
  (fun(s3,i8)=>l.length - i8.toNat) (tx [],0) ⟨by omega,by omega,rfl⟩ ⟨rfl,rfl,trivial⟩ rfl ?_
 rintro⟨s3,i8⟩ J ⟨h0,hle,hs⟩ hJ
 have zl:=T8 (l:=l.take i8.toNat) fun x hx=>hl_.1 x (List.mem_of_mem_take hx)
 rw[List.length_take]at zl
 have ag:s3.size=(List.flatMap (fun n=>32::Lib.itoa n) (List.take i8.toNat l)).length:=by rw[hs,A7]
 conv=>cbv
 refine .lss (fun h2=>?_) fun h2=>?_
 conv=>cbv
 refine .go i8.toNat hl fun aa e3 ac=>?_
 conv=>cbv
 have hn:=hl_.1 e3 (ac▸List.getElem_mem aa)
 generalize ab:C6 e3=r4
 refine .dd hP (XdV hn ab) ?_
 conv=>cbv
 have ah:=Jc ab hn
 refine .litL 1 fun s5 ad ai=>?_
 conv=>cbv
 refine .go fun s6 ae aj=>?_
 conv=>cbv
 refine .add fun v7 ak=>?_
 conv=>cbv
 exact .go [] (s6,v7) (hJ _ ⟨by omega,by omega,by rw[ae,ad,hs,←ab,show v7.toNat=i8.toNat+1 by omega,List.take_succ_eq_append_getElem aa,List.flatMap_append,←ac];unfold C6;show tx _++(tx [32]++tx _)=_;rw[Ce,Ce];simp⟩ mlt)
 conv=>cbv
 have e:s3=Gj l:=(by rw[hs,List.take_of_length_le (by omega)];rfl)
 rw[hr]at e
 subst e
 exact hQ _ _ (.s rfl rfl)
theorem FsHex(hr:Xl t=(oa,ob)):Fn Tryz.prog 137 [S t] [] ⟨.tup [S oa,B ob],[],[]⟩:=by
 refine Fn.go Fm Tryz.func137 fun P hP Q hQ=>?_
 conv=>cbv
 refine .go fun v1 az=>?_
 conv=>cbv
 refine .gtr (fun h2=>?_) fun h2=>?_
 conv=>cbv
 have e:((tx []),false)=Xl t:=(by unfold Xl;rw[if_pos (by omega)])
 rw[hr]at e
 simp only[Prod.mk.injEq]at e
 obtain⟨rfl,rfl⟩:=e
 refine hQ _ _ ?_
 exact .many (.inl rfl) rfl rfl (.d rfl rfl (.d rfl rfl (.nil)))
 conv=>cbv
 refine LoopW.lp (κ:=Int×(List (List D))×Nat) Fm hP [0] [0] (fun(i5,aa,ab)=>[(4,.ref 1 0 ab),(5,I i5)]) (fun(i5,aa,ab)=>[(1,.row 1 false aa)])
  (fun(i5,aa,ab)=>∃(w1:List UInt8),w1.map cB=aa∧ab=w1.length∧0≤i5∧i5≤t.size∧w1=(t.data.toList.take i5.toNat).flatMap Xfl∧w1.length=2*i5.toNat)
  (fun(i5,aa,ab)=>t.size - i5.toNat) (0,[],0) ⟨[],rfl,rfl,by omega,by omega,rfl,rfl⟩ ⟨rfl,rfl,trivial⟩ rfl ?_
 rintro⟨i5,aa,ab⟩ J ⟨w1,ad,ax,h0,hle,hw,hwl⟩ hJ
 conv=>cbv
 refine .go fun v3 a1=>?_
 conv=>cbv
 refine .lss (fun h4=>?_) fun h4=>?_
 conv=>cbv
 refine .go i5.toNat fun hjv5 v5 al bv5=>?_
 conv=>cbv
 refine .id fun v6 am=>?_
 conv=>cbv
 refine .quo fun v7 an=>?_
 conv=>cbv
 generalize ae:C3 v7=r8
 refine .dd hP (Gw (by omega) ae) ?_
 conv=>cbv
 refine .go i5.toNat fun hjv9 v9 ao bv9=>?_
 conv=>cbv
 refine .id fun a2 af=>?_
 conv=>cbv
 refine .rem fun ag ah=>?_
 conv=>cbv
 generalize ac:C3 ag=ap
 refine .dd hP (Gw (by omega) ac) ?_
 conv=>cbv
 have e7:v7=((t[i5.toNat].toNat/16:Nat):Int):=by rw[an,am,al];omega
 have aq:ag=((t[i5.toNat].toNat% 16:Nat):Int):=by rw[ah,af,ao];omega
 have hm:[fig ((t[i5.toNat].toNat/16:Nat):Int),fig ((t[i5.toNat].toNat% 16:Nat):Int)].map cB=[[D.sc (.int .u8 r8)],[D.sc (.int .u8 ap)]]:=by
  rw[Pa ae (by omega),Pa ac (by omega),e7,aq];rfl
 refine .sub ad hm (hn:=rfl) fun ai ar au aj=>?_
 conv=>cbv
 refine .add fun ak ay=>?_
 conv=>cbv
 exact .go [3] (ak,ar,ai) (hJ _ ⟨_,aj,Jy,by omega,by omega,by rw[hw,show ak.toNat=i5.toNat+1 by omega,Wh hjv5];rfl,by rw[List.length_append,hwl];simp;omega⟩ mlt)
 conv=>cbv
 refine .go ad fun s5 aw=>?_
 conv=>cbv
 have e:(s5,true)=Xl t:=(by unfold Xl Iz;rw[if_neg (by omega),aw,hw,List.take_of_length_le (by rw[Array.length_toList];show t.size≤_;omega)])
 rw[hr]at e
 simp only[Prod.mk.injEq]at e
 obtain⟨rfl,rfl⟩:=e
 refine hQ _ _ ?_
 exact .many (.inl rfl) rfl rfl (.d rfl rfl (.d rfl rfl (.nil)))
theorem Xc1(ht:t.size≤20000)(hr:Iz t=o):Fn Tryz.prog 281 [S t] [] ⟨S o,[],[]⟩:=by
 refine Fn.go Fm Tryz.func281 fun P hP Q hQ=>?_
 conv=>cbv
 refine .go fun v1 a6=>?_
 conv=>cbv
 refine .mul fun v2 a7=>?_
 conv=>cbv
 refine .cap (c:=cB) fun z3 al az am=>?_
 conv=>cbv
 refine .go fun v4 a8=>?_
 conv=>cbv
 refine LoopW.lp (κ:=Int×(List (List D))×Nat) Fm hP [0] [0,10] (fun(aa,ab,ac)=>[(3,.ref 1 0 ac),(11,I aa)]) (fun(aa,ab,ac)=>[(1,.row 1 false ab)])
  (fun(aa,ab,ac)=>∃(w1:List UInt8),w1.map cB=ab∧ac=w1.length∧0≤aa∧aa≤t.size∧w1=(t.data.toList.take aa.toNat).flatMap Xfl∧w1.length=2*aa.toNat)
  (fun(aa,ab,ac)=>t.size - aa.toNat) (0,z3,al) ⟨[],am,(by first|omega|(simp;omega)),by omega,by omega,rfl,rfl⟩ ⟨rfl,rfl,trivial⟩ rfl ?_
 rintro⟨aa,ab,ac⟩ J ⟨w1,ae,a1,h0,hle,hw,hwl⟩ hJ
 have hsz:(⟨⟨[48,49,50,51,52,53,54,55,56,57,97,98,99,100,101,102]⟩⟩:ByteArray).size=16:=rfl
 conv=>cbv
 refine .lss (fun h5=>?_) fun h5=>?_
 conv=>cbv
 refine .go aa.toNat fun hjv6 v6 an bv6=>?_
 conv=>cbv
 refine .shrW fun v7 ao=>?_
 conv=>cbv
 have hb:=t[aa.toNat].toNat_lt
 have e7:v7=((t[aa.toNat].toNat/16:Nat):Int):=by rw[ao,an];exact shr4
 refine .go v7.toNat fun hjv8 v8 ap bv8=>?_
 conv=>cbv
 refine .go aa.toNat fun hjv9 v9 aq bv9=>?_
 conv=>cbv
 refine .and fun ad af=>?_
 conv=>cbv
 have ar:ad=((t[aa.toNat].toNat% 16:Nat):Int):=by rw[af,aq];exact Xhi hb
 refine .go ad.toNat fun hjv11 ag ah bv11=>?_
 conv=>cbv
 have e8:v8=C3 ((t[aa.toNat].toNat/16:Nat):Int):=by rw[ap,figL,Rn (by omega),show(v7.toNat:Int)=v7 by omega,e7]
 have au:ag=C3 ((t[aa.toNat].toNat% 16:Nat):Int):=by rw[ah,figL,Rn (by omega),show(ad.toNat:Int)=ad by omega,ar]
 have hm:[fig ((t[aa.toNat].toNat/16:Nat):Int),fig ((t[aa.toNat].toNat% 16:Nat):Int)].map cB=[[D.sc (.int .u8 v8)],[D.sc (.int .u8 ag)]]:=by
  rw[Pa e8.symm (by omega),Pa au.symm (by omega)];rfl
 refine .sub ae hm (hn:=rfl) fun ai aw ax aj=>?_
 conv=>cbv
 refine .add fun ak a2=>?_
 conv=>cbv
 exact .go [3] (ak,aw,ai) (hJ _ ⟨_,aj,Jy,by omega,by omega,by rw[hw,show ak.toNat=aa.toNat+1 by omega,Wh hjv6];rfl,by rw[List.length_append,hwl];simp;omega⟩ mlt)
 conv=>cbv
 refine .go ae fun s6 ay=>?_
 conv=>cbv
 have e:s6=Iz t:=(by unfold Iz;rw[ay,hw,List.take_of_length_le (by rw[Array.length_toList];show t.size≤_;omega)])
 rw[hr]at e
 subst e
 exact hQ _ _ (.s rfl rfl)
theorem FiHex(hr:Xl t=(oa,ob)):Fn Tryz.prog 218 [S t] [] ⟨.tup [S oa,B ob],[],[]⟩:=by
 refine Fn.go Fm Tryz.func218 fun P hP Q hQ=>?_
 conv=>cbv
 refine .go fun v1 ab=>?_
 conv=>cbv
 refine .gtr (fun h2=>?_) fun h2=>?_
 conv=>cbv
 have e:((tx []),false)=Xl t:=(by unfold Xl;rw[if_pos (by omega)])
 rw[hr]at e
 simp only[Prod.mk.injEq]at e
 obtain⟨rfl,rfl⟩:=e
 refine hQ _ _ ?_
 exact .many (.inl rfl) rfl rfl (.d rfl rfl (.d rfl rfl (.nil)))
 conv=>cbv
 generalize aa:Iz t=r3
 refine .dd hP (Xc1 (by omega) aa) ?_
 conv=>cbv
 have e:(r3,true)=Xl t:=(by unfold Xl;rw[if_neg (by omega),←aa])
 rw[hr]at e
 simp only[Prod.mk.injEq]at e
 obtain⟨rfl,rfl⟩:=e
 refine hQ _ _ ?_
 exact .many (.inl rfl) rfl rfl (.d rfl rfl (.d rfl rfl (.nil)))
theorem Zp(hr:Dn t=o):Fn Tryz.prog 148 [S t] [] ⟨S o,[],[]⟩:=by
 refine Fn.go Fm Tryz.func148 fun P hP Q hQ=>?_
 conv=>cbv
 rcases aa:Xl t with⟨ab,ac⟩
 refine .dd hP (FiHex aa) ?_
 conv=>cbv
 refine .eql (fun h2=>?_) fun h2=>?_
 conv=>cbv
 have e:(tx [45])=Dn t:=(by unfold Dn;rw[aa];exact(if_pos h2).symm)
 rw[hr]at e
 subst e
 exact hQ _ _ (.s rfl rfl)
 conv=>cbv
 have e:ab=Dn t:=(by unfold Dn;rw[aa];exact(if_neg h2).symm)
 rw[hr]at e
 subst e
 exact hQ _ _ (.s rfl rfl)
end
section
open Go Go.Proofs
set_option maxRecDepth 20000
set_option maxHeartbeats 4000000
theorem Xfc(l:List UInt8):(⟨⟨l⟩⟩:ByteArray)=tx l:=rfl
theorem Xer(s:ByteArray):s=tx s.data.toList:=rfl
theorem XdH{α:Type}{l:List α}{i j:Nat}{d x:α}(h:i<l.length)(hx:x=l[i])(e:i=j):x=l.getD j d:=by
 subst e
 rw[hx,List.getD_eq_getElem?_getD,List.getElem?_eq_getElem h];rfl
end
section
open Go Go.Proofs
set_option maxRecDepth 20000
set_option maxHeartbeats 4000000
open Go.Lib
open Go.RowKit
theorem Xg2{w:World}{S:Nat→Prop}{β:Nat→Option Nat}{r0:List Root}{R:Root}:Fresh (E5 w S β r0) (Ba w S β r0 [R]) r0.length [R]:=by
 refine⟨Nat.le_refl _,?_,?_⟩
 ·intro k R' hk
  show(r0++[R])[r0.length+k]? =some R'
  rw[List.getElem?_append_right (by omega)]
  simpa using hk
 ·intro k hk hp
  have:r0.length+k<r0.length:=hp
  omega
theorem Grow.ofDrew{w w':World}{o:Obj}(g:Grow w.drew w' o):Grow w w' o:=⟨g.heap,g.os,g.output,g.tape⟩
end
section
open Go Go.Proofs
set_option maxRecDepth 20000
set_option maxHeartbeats 4000000
open Go.RowKit
def nameC(x:Nat):Bool:=decide (97≤x∧x≤122∨48≤x∧x≤57∨x=46∨x=45)
def Qt(t:ByteArray):Bool:=t.data.toList.all (fun c=>nameC c.toNat)&&decide (1≤t.size∧t.size≤20)
def O8(t:ByteArray):Int×Bool:=match Lib.decFrom 0 t.data.toList with
 |some n=>if n≤1000000000∧C6 (n:Int)=t then((n:Int),true)else(0,false)
 |none=>(0,false)
def Yt(s:ByteArray):Int:=Lib.indexByte s.data.toList 58
def rCut(s:ByteArray):ByteArray×ByteArray×Bool:=if 0≤Yt s then(s.extract 0 (Yt s).toNat,s.extract ((Yt s).toNat+1) s.size,true)else(s,tx [],false)
end
section
open Go Go.Proofs
set_option maxRecDepth 20000
set_option maxHeartbeats 4000000
def Xgb{α:Type}(l:List α)(i:Int)(m:List α):List α:=l.take i.toNat++m++l.drop i.toNat
def Xgx{α:Type}(l:List α)(i j:Int):List α:=l.eraseIdx i.toNat
def XhL(e:A3)(name:ByteArray):Bool:=!(ltB e.name_ name||decide (e.name_=name))
def Kn(l:List A3)(name:ByteArray):Int:=Xak (fun e=>XhL e name) l
def rput(l:List A3)(name:ByteArray)(id:Int):List A3:=
 if 0≤Da l name then l.set (Da l name).toNat ⟨(l.getD (Da l name).toNat ⟨tx [],0⟩).name_,id⟩
 else Xgb l (if Kn l name<0 then l.length else Kn l name) [⟨name,id⟩]
def XfG(l:List A3)(name:ByteArray):List A3×Bool:=
 if Da l name<0∨Qt name=false then([],false)else(Xgx l (Da l name) (Da l name+1),true)
def N0(l:List A3)(step:ByteArray):List A3×Bool:=
 if step=tx []then([],false)else
 let nm:=(rCut (step.extract 1 step.size)).1
 let rest:=(rCut (step.extract 1 step.size)).2.1
 let has:=(rCut (step.extract 1 step.size)).2.2
 if step.data.toList.head?=some 43 then
  (if has=false∨(O8 rest).2=false∨Qt nm=false then([],false)else(rput l nm (O8 rest).1,true))
 else if step.data.toList.head?=some 45 then XfG l (step.extract 1 step.size)
 else if step.data.toList.head?=some 62 then
  (if has=false∨(XfG l nm).2=false∨Qt rest=false∨nm=rest then([],false)else(rput (XfG l nm).1 rest (Fy l nm),true))
 else([],false)
section
variable {l:List A3} {step a b:ByteArray} {c:Bool}
end
end
section
open Go Go.Proofs
set_option maxRecDepth 20000
set_option maxHeartbeats 4000000
instance decEntry:DecidableEq A3:=fun a b=>match a,b with
 |⟨n,i⟩,⟨m,j⟩=>decidable_of_iff (n=m∧i=j) (by simp)
def Yv(d:As):Int:=sumL (fun n:Cm=>(n.text_.size:Int)) d.nodes_
def nd(d:As)(i:Nat):Cm:=d.nodes_.getD i ⟨0,tx [],0⟩
def XeW(d:As)(i:Nat):Bool:=decide ((0<i→(nd d (i - 1)).id_<(nd d i).id_)∧(1≤(nd d i).id_∧(nd d i).id_≤d.next_ - 1)∧0≤(nd d i).sure_∧(nd d i).sure_≤(nd d i).text_.size)
def Xdy(d:As):Bool:=(List.range d.nodes_.length).all (XeW d)&&decide (d.nodes_.length≤64)
def en(l:List A3)(i:Nat):A3:=l.getD i ⟨tx [],0⟩
def Xf1(d:As)(l:List A3)(i:Nat):Bool:=(decide (i=0)|| !(ltB (en l i).name_ (en l (i - 1)).name_||decide ((en l i).name_=(en l (i - 1)).name_)))&&Qt (en l i).name_&&decide (0≤Kc d (en l i).id_)
def Rw(d:As)(l:List A3):Bool:=(List.range l.length).all (Xf1 d l)&&decide (l.length≤16)
def Xcm(d:As):List A3→List ByteArray→Bool
 |now,[]=>Rw d now&&Xg3 now d.entries_
 |now,s::ss=>Rw d now&&(N0 now s).2&&Xcm d (N0 now s).1 ss
def Tq(d:As):Bool:=Be d.room_&&Cp d.next_ 1 1000000000&&Xdy d&&decide (Yv d≤d.room_)&&Xcm d d.old_ d.steps_
end
section
open Go Go.Proofs
set_option maxRecDepth 20000
set_option maxHeartbeats 4000000
end
section
open Go Go.Proofs
set_option maxRecDepth 20000
set_option maxHeartbeats 4000000
end
section
open Go Go.Proofs
set_option maxRecDepth 20000
set_option maxHeartbeats 4000000
section
variable {s a b:ByteArray}
end
end
section
open Go Go.Proofs
set_option maxRecDepth 20000
set_option maxHeartbeats 4000000
section
variable {l:List A3} {s a b:ByteArray} {c:Int} {d:Bool}
end
end
section
open Go Go.Proofs
set_option maxRecDepth 20000
set_option maxHeartbeats 4000000
end
section
open Go Go.Proofs
set_option maxRecDepth 20000
set_option maxHeartbeats 4000000
end
section
open Go Go.Proofs
set_option maxRecDepth 20000
set_option maxHeartbeats 4000000
def Xfm:List A3→List ByteArray→Int→Bool
 |now,[],id=>now.any fun e=>decide (e.id_=id)
 |now,s::ss,id=>(now.any fun e=>decide (e.id_=id))||Xfm (N0 now s).1 ss id
def Xfo(nodes:List Cm)(old:List A3)(steps:List ByteArray):List Cm:=nodes.filter fun x=>Xfm old steps x.id_
end
section
open Go Go.Proofs
set_option maxRecDepth 20000
set_option maxHeartbeats 4000000
end
section
open Go Go.Proofs
set_option maxRecDepth 20000
set_option maxHeartbeats 4000000
end
section
open Go Go.Proofs
set_option maxRecDepth 20000
set_option maxHeartbeats 4000000
def XhA(d:As)(s:ByteArray):As:=⟨Xfo d.nodes_ d.old_ (d.steps_++[s]),(N0 d.entries_ s).1,d.old_,d.steps_++[s],d.room_,d.next_⟩
end
section
open Go Go.Proofs
set_option maxRecDepth 20000
set_option maxHeartbeats 4000000
end
section
open Go Go.Proofs
set_option maxRecDepth 20000
set_option maxHeartbeats 4000000
def XcH(d:As)(name:ByteArray):As×Int:=if Tq d=false∨Df d name<0 then(d,3)else
 (⟨d.nodes_.set (Df d name).toNat ⟨(d.nodes_.getD (Df d name).toNat ⟨0,tx [],0⟩).id_,(d.nodes_.getD (Df d name).toNat ⟨0,tx [],0⟩).text_,((d.nodes_.getD (Df d name).toNat ⟨0,tx [],0⟩).text_.size:Int)⟩,d.entries_,d.old_,d.steps_,d.room_,d.next_⟩,0)
end
section
open Go Go.Proofs
set_option maxRecDepth 20000
set_option maxHeartbeats 4000000
def gN(d:As)(i:Int):Cm:=d.nodes_.getD i.toNat ⟨0,tx [],0⟩
def setN(d:As)(i:Int)(x:Cm):As:=⟨d.nodes_.set i.toNat x,d.entries_,d.old_,d.steps_,d.room_,d.next_⟩
def J8(d:As)(name text:ByteArray):As×Int:=if Tq d=false∨Df d name<0 then(d,3)else
 (setN d (Df d name) ⟨(gN d (Df d name)).id_,(gN d (Df d name)).text_++text.extract 0 (min (text.size:Int) (d.room_ - Yv d)).toNat,(gN d (Df d name)).sure_⟩,if d.room_ - Yv d<text.size then 5 else 0)
def F2(d:As)(name:ByteArray):As×Int:=if Tq d=false then(d,3)else if Qt name=false then(d,1)else if 0≤Da d.entries_ name then(d,2)else if 16≤d.entries_.length∨64≤d.nodes_.length∨1000000000≤d.next_ then(d,4)else
 (XhA ⟨d.nodes_++[⟨d.next_,tx [],0⟩],d.entries_,d.old_,d.steps_,d.room_,d.next_+1⟩ (tx [43]++name++tx [58]++C6 d.next_),0)
def Xbq(d:As):As:=if Tq d=false then d else⟨Xfo d.nodes_ d.entries_ [],d.entries_,d.entries_,[],d.room_,d.next_⟩
end
section
open Go Go.Proofs
set_option maxRecDepth 20000
set_option maxHeartbeats 4000000
end
section
open Go Go.Proofs
set_option maxRecDepth 20000
set_option maxHeartbeats 4000000
end
section
open Go Go.Proofs
set_option maxRecDepth 20000
set_option maxHeartbeats 4000000
section
variable {d:As} {name text a b:ByteArray}
end
end
section
open Go Go.Proofs
set_option maxRecDepth 20000
set_option maxHeartbeats 4000000
end
section
open Go Go.Proofs
set_option maxRecDepth 20000
set_option maxHeartbeats 4000000
end
section
open Go Go.Proofs
set_option maxRecDepth 20000
set_option maxHeartbeats 4000000
end
end Go.Proofs.YtgdmjbcllgmepaaGreatDoor.Ab
