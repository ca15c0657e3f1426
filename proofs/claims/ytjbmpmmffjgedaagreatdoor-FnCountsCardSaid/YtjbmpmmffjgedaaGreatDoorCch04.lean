/- What functions of the program come to, for all arguments in the given bounds. -/
import Derived.Test.YtjbmpmmffjgedaaGreatDoorCch10
import Derived.Below
import Derived.ProofKit
import Derived.Test.YtjbmpmmffjgedaaGreatDoorCZ10
import Derived.Lib.AtoiErrMem
import Derived.Lib.SlicesS
import Derived.Lib.ItoaNum
import Derived.Lib.AppendIntMem
import Derived.Shelf.Spec.SlicesInsertGrow
set_option linter.unusedVariables false
set_option linter.unusedSimpArgs false
namespace Go.Proofs.YtjbmpmmffjgedaaGreatDoor.Ab
section
open Go Go.Proofs
set_option maxRecDepth 20000
set_option maxHeartbeats 4000000
def Xdt:List (Nat×TyRow):=[ty2,ty3,ty4,ty5,ty9,XhT,Xkf,XkL]
theorem Xdc:B3 Tryz.prog Xdt:=B3.of (by kernel_rfl)
theorem Nr:Setup Tryz.prog Xdt:=⟨Xdc,mixed⟩
def dig(n:Nat):UInt8:=if n% 16<10 then UInt8.ofNat (48+n% 16)else UInt8.ofNat (87+n% 16)
def Yc:Nat→Nat→List UInt8
 |0,_=>[]
 |k+1,n=>Yc k (n/16)++[dig n]
def Xb8(n:Nat):List UInt8:=if h:n<16 then[dig n]else Xb8 (n/16)++[dig n]
termination_by n
decreasing_by omega
theorem Rp{n:Nat}(h:n<16):Xb8 n=[dig n]:=by rw[Xb8,dif_pos h]
theorem Xbs{n:Nat}(h:¬n<16):Xb8 n=Xb8 (n/16)++[dig n]:=by rw[Xb8,dif_neg h]
theorem Xiz:dig 0=48:=rfl
theorem XbW:∀(k:Nat),Yc k 0=List.replicate k 48
 |0=>rfl
 |k+1=>by rw[Yc,Nat.zero_div,XbW k,Xiz,List.replicate_succ']
theorem Qq:∀(k n:Nat),(Yc k n).length=k
 |0,_=>rfl
 |k+1,n=>by rw[Yc,List.length_append,Qq];rfl
theorem Xjc:∀(k n:Nat),n<16^ (k+1)→Yc (k+1) n=List.replicate (k+1 - (Xb8 n).length) 48++Xb8 n∧1≤(Xb8 n).length∧(Xb8 n).length≤k+1
 |0,n,h=>by
  have h:n<16:=by simpa using h
  rw[Rp h]
  simp[Yc]
 |k+1,n,h=>by
  by_cases hn:n<16
  ·rw[Rp hn,Yc,Nat.div_eq_of_lt hn,XbW]
   simp
  ·have h2:n/16<16^ (k+1):=by rw[Nat.pow_succ]at h;omega
   obtain⟨i1,i2,i3⟩:=Xjc k (n/16) h2
   rw[Xbs hn,Yc,i1,List.length_append,List.length_singleton,List.append_assoc]
   refine⟨?_,by omega,by omega⟩
   congr 2
   omega
def Ah(n:Int):ByteArray:=if 0≤n∧n≤1000000000 then tx (115::(Yc 8 n.toNat++[46,115,101,103]))else tx []
theorem Ea{n:Int}{o:ByteArray}(e:Ah n=o):o.size≤13:=by
 rw[←e]
 unfold Ah
 split
 ·rw[A4,List.length_cons,List.length_append,Qq];simp
 ·simp[A4]
theorem digL:∀(j:Nat) (h:j<(⟨⟨[48,49,50,51,52,53,54,55,56,57,97,98,99,100,101,102]⟩⟩:ByteArray).size),(⟨⟨[48,49,50,51,52,53,54,55,56,57,97,98,99,100,101,102]⟩⟩:ByteArray)[j]=dig j:=by
 have key:∀j:Fin 16,(⟨⟨[48,49,50,51,52,53,54,55,56,57,97,98,99,100,101,102]⟩⟩:ByteArray)[j.val]'j.isLt=dig j.val:=by decide
 intro j h
 exact key ⟨j,h⟩
theorem Xdb(n:Nat):dig (n% 16)=dig n:=by unfold dig;rw[Nat.mod_mod]
theorem and15(a:Int):La .and .i64 a 15=a% 16:=Iw (k:=4) (by omega)
theorem Xkw{x:Nat}(h:x<18446744073709551616):La .and .u64 (x:Int) 15=((x% 16:Nat):Int):=by
 show IntKind.u64.wrap ((BitVec.ofInt 64 (x:Int)&&&BitVec.ofInt 64 ((15:Nat):Int)).toNat:Int)=_
 rw[BitVec.toNat_and,Km (by omega),Km (by omega),F7,show(15:Nat)=2^4 - 1 from rfl,Nat.and_two_pow_sub_one_eq_mod]
 omega
theorem digF:∀(j:Nat) (hj:j<16) (h:j<(⟨⟨[48,49,50,51,52,53,54,55,56,57,97,98,99,100,101,102,103,104,105,106,107,108,109,110,111,112,113,114,115,116,117,118,119,120,121,122]⟩⟩:ByteArray).size),(⟨⟨[48,49,50,51,52,53,54,55,56,57,97,98,99,100,101,102,103,104,105,106,107,108,109,110,111,112,113,114,115,116,117,118,119,120,121,122]⟩⟩:ByteArray)[j]=dig j:=by
 have key:∀j:Fin 16,(⟨⟨[48,49,50,51,52,53,54,55,56,57,97,98,99,100,101,102,103,104,105,106,107,108,109,110,111,112,113,114,115,116,117,118,119,120,121,122]⟩⟩:ByteArray)[j.val]'(Nat.lt_of_lt_of_le j.isLt (by decide))=dig j.val:=by decide
 intro j hj h
 exact key ⟨j,hj⟩
theorem XgB{v:Int}{n:Nat}(h:v=((dig n).toNat:Int)):[D.sc (.int .u8 v)]=cB (dig n):=by rw[h];rfl
theorem XdT{α:Type}{l:List α}{p:Nat}{x:α}(h:p<l.length):(l.set p x).drop p=x::l.drop (p+1):=by
 rw[List.drop_eq_getElem_cons (by rw[List.length_set];exact h),List.getElem_set_self]
 congr 1
 rw[List.drop_set_of_lt (by omega)]
def Jc:Bool:=true
def Ox(_:Int):Int:=4
def L9(u:Int):List UInt8×ByteArray:=([],tx (Xb8 u.toNat))
def Hg(n:Int):ByteArray:=tx (Xb8 n.toNat)
def Vl(n:Int):ByteArray:=tx (List.replicate n.toNat 48)
theorem tz64{w:World}(h:Lib.TabIs Tryz.prog w "math/bits.deBruijn64tab" .u8 Sz):Calls Tryz.prog 347 #[.int .u64 16] w fun e w'=>e= .returned (.int .i64 4)∧w'=w:=by
 have hq:IntKind.u64.wrap (bits BinOp.and IntKind.u64 16 (IntKind.u64.wrap (-16))*285870213051353865)/288230376151711744=15:=by decide+kernel
 have hc:w.cell? ⟨5,15,none⟩=some (.int .u8 4):=h.cell gn5 15 (by decide)
 go_enter Tryz.func347,Tryz.ntmps347
 go_wp2
 go_ret
 exact⟨rfl,rfl⟩
theorem tz{w:World}(h:Lib.TabIs Tryz.prog w "math/bits.deBruijn64tab" .u8 Sz):Calls Tryz.prog 340 #[.int .u64 16] w fun e w'=>e= .returned (.int .i64 4)∧w'=w:=by
 go_enter Tryz.func340,Tryz.ntmps340
 go_wp2_with (first
  |(go_at_call 347;refine(tz64 h).mono ?_;rintro e w' ⟨rfl,rfl⟩)
  |go_in)
 go_ret
 exact⟨rfl,rfl⟩
variable {o:ByteArray} {n:Int}
theorem Kx{x o:Int}(hx:x=16)(hr:Ox x=o):Fn Tryz.prog 340 [.d (.sc (.int .u64 x))] [] ⟨I o,[],[]⟩:=by
 refine⟨Hd Tryz.func340 rfl rfl,CallOk.ofCallsG fun E vs hS hG hA=>?_⟩
 obtain⟨u,rfl,h1⟩:=Xkv hA
 rw[S8 h1,hx]
 refine(tz (Xke hG)).mono ?_
 rintro e w' ⟨rfl,rfl⟩
 exact⟨_,rfl,⟨rfl,rfl,rfl,Nat.le_refl _,fun _ _=>rfl⟩,by rw[←hr];exact .sc _ rfl⟩
theorem Gm(hr:Ah n=o):Fn Tryz.prog 69 [I n] [] ⟨S o,[],[]⟩:=by
 refine Fn.go Nr Tryz.func69 fun P hP Q hQ=>?_
 conv=>cbv
 generalize ac:A1 n 0 1000000000=r1
 refine .dd hP (Dd ac) ?_
 cases r1
 simp only[A1,decide_eq_true_eq,decide_eq_false_iff_not]at ac
 conv=>cbv
 have e:(tx [])=Ah n:=(by unfold Ah;rw[if_neg (by omega)])
 rw[hr]at e
 subst e
 exact hQ _ _ (.s rfl rfl)
 simp only[A1,decide_eq_true_eq,decide_eq_false_iff_not]at ac
 conv=>cbv
 refine LoopW.lp (κ:=Int×(List (List D))×Nat) Nr hP [0] [0] (fun(i4,aa,ab)=>[(3,.ref 1 0 ab),(4,I i4)]) (fun(i4,aa,ab)=>[(1,.row 1 false aa)])
  (fun(i4,aa,ab)=>∃(w1:List UInt8),w1.map cB=aa∧ab=w1.length∧-1≤i4∧i4≤7∧w1=Yc (7 - i4).toNat (n.toNat/16^ (i4+1).toNat))
  (fun(i4,aa,ab)=>(i4+1).toNat) (7,[],0) ⟨[],rfl,rfl,by omega,by omega,rfl⟩ ⟨rfl,rfl,trivial⟩ rfl ?_
 rintro⟨i4,aa,ab⟩ J ⟨w1,ad,an,h0,h1,hw⟩ hJ
 have hwl:w1.length=(7 - i4).toNat:=by rw[hw,Qq]
 have hsz:(⟨⟨[48,49,50,51,52,53,54,55,56,57,97,98,99,100,101,102]⟩⟩:ByteArray).size=16:=rfl
 conv=>cbv
 refine .geq (fun h2=>?_) fun h2=>?_
 conv=>cbv
 refine .mul fun v3 ap=>?_
 conv=>cbv
 refine .go fun v4 af=>?_
 conv=>cbv
 have e4:v4=v3:=by rw[af,F7];omega
 refine .shr fun v5 ag=>?_
 conv=>cbv
 refine .and fun v6 ah=>?_
 conv=>cbv
 have e5:v5=((n.toNat/16^i4.toNat:Nat):Int):=by
  have e2:(2:Int)^v4.toNat=((16^i4.toNat:Nat):Int):=by
   rw[show v4.toNat=4*i4.toNat by omega,Int.pow_mul,Int.natCast_pow]
   rfl
  rw[ag,e2,Int.natCast_ediv,Int.toNat_of_nonneg (by omega)]
 have e6:v6=((n.toNat/16^i4.toNat% 16:Nat):Int):=by rw[ah,and15,e5];omega
 have aq:n.toNat/16^i4.toNat% 16<16:=Nat.mod_lt _ (by omega)
 refine .go v6.toNat fun hjv7 v7 ai bv7=>?_
 conv=>cbv
 have e7:[D.sc (.int .u8 v7)]=cB (dig (n.toNat/16^i4.toNat)):=XgB (by rw[ai,digL,e6,Int.toNat_natCast,Xdb])
 refine .one (dig (n.toNat/16^i4.toNat)) ad e7 fun aj z8 ao ak=>?_
 conv=>cbv
 refine .sub fun v9 ar=>?_
 conv=>cbv
 exact .go [3] (v9,z8,aj) (hJ _ ⟨_,ak,D4,by omega,by omega,by rw[hw,show(7 - v9).toNat=(7 - i4).toNat+1 by omega,Yc,show(v9+1).toNat=i4.toNat by omega,Nat.div_div_eq_div_mul,←Nat.pow_succ,show(i4+1).toNat=i4.toNat+1 by omega]⟩ mlt)
 conv=>cbv
 refine .go ad fun s3 ae=>?_
 conv=>cbv
 have au:s3.size=w1.length:=by rw[ae,A4]
 refine .litL 1 fun s4 al aw=>?_
 conv=>cbv
 refine .litR 4 fun s5 am ax=>?_
 conv=>cbv
 have e:s5=Ah n:=(by unfold Ah;rw[if_pos (by omega),am,al,ae,hw,show i4= -1 by omega];show tx [115]++tx _++tx [46,115,101,103]=_;rw[C6,C6];simp)
 rw[hr]at e
 subst e
 exact hQ _ _ (.s rfl rfl)
theorem Ic{o:Bool}(hr:Jc=o):Fn Tryz.prog 339 [I 16] [] ⟨B o,[],[]⟩:=by
 refine Fn.go Nr Tryz.func339 fun P hP Q hQ=>?_
 conv=>cbv
 refine .sub fun v1 aa=>?_
 conv=>cbv
 refine .and fun v2 ab=>?_
 conv=>cbv
 refine .eql (fun h3=>?_) fun h3=>?_
 conv=>cbv
 have e:true=Jc:=(by rfl)
 rw[hr]at e
 subst e
 exact hQ _ _ (.b rfl rfl)
 conv=>cbv
 have e:false=Jc:=(by exfalso;apply h3;rw[ab,aa];rfl)
 rw[hr]at e
 subst e
 exact hQ _ _ (.b rfl rfl)
theorem Iz{u:Int}{oa:List UInt8}{xoa:List (List D)}{ob:ByteArray}(hu:0≤u∧u<4294967296)(hr:L9 u=(oa,ob))(hoa:oa.map cB=xoa):Fn Tryz.prog 319 [.d (.row 1 []),.d (.sc (.int .u64 u)),I 16,B false,B false] [] ⟨.tup [.d (.row 1 xoa),S ob],[],[]⟩:=by
 refine Fn.go Nr Tryz.func319 fun P hP Q hQ=>?_
 conv=>cbv
 refine .lss (fun h1=>?_) fun h1=>?_
 omega
 conv=>cbv
 refine .eql (fun h2=>?_) fun h2=>?_
 omega
 conv=>cbv
 refine .gtr (fun h3=>?_) fun h3=>?_
 omega
 conv=>cbv
 refine .go 65 hP (by kernel_rfl) fun z4 ay=>?_
 conv=>cbv
 generalize ai:Jc=r5
 refine .dd hP (Ic ai) ?_
 cases r5
 cases ai
 conv=>cbv
 refine .go fun v6 az=>?_
 conv=>cbv
 generalize aj:Ox v6=r7
 refine .dd hP (Kx (by rw[az,F7];rfl) aj) ?_
 conv=>cbv
 refine .go fun v8 a1=>?_
 conv=>cbv
 refine .go fun v9 a2=>?_
 conv=>cbv
 refine .go fun bj ak=>?_
 conv=>cbv
 refine .subW fun a6 al=>?_
 conv=>cbv
 refine LoopW.lp (κ:=Int×Int×(List (List D))) Nr hP [] [0,3,4,10,11,12,14,15,16] (fun(i1,aa,ab)=>[(1,.d (.sc (.int .u64 i1))),(13,I aa)]) (fun(i1,aa,ab)=>[(1,.row 1 false ab)])
  (fun(i1,aa,ab)=>∃(w1:List UInt8),w1.map cB=ab∧∃k:Nat,i1=((u.toNat/16^k:Nat):Int)∧aa=65 - (k:Int)∧k≤7∧w1.length=65∧Xb8 u.toNat=Xb8 (u.toNat/16^k)++w1.drop (65 - k))
  (fun(i1,aa,ab)=>(aa).toNat) (u,65,z4) ⟨(List.replicate 65 (0:UInt8)),ay,0,by simp;omega,rfl,by omega,by simp,by simp⟩ ⟨rfl,rfl,trivial⟩ rfl ?_
 rintro⟨i1,aa,ab⟩ J ⟨w1,am,k,af,bf,hk,hwl,hx⟩ hJ
 have e7:r7=4:=aj.symm
 have e8:v8=4:=by rw[a1,F7,e7];rfl
 have e9:v9=16:=by rw[a2,F7];rfl
 have a7:a6=15:=by rw[al,ak,F7,F7];rfl
 have hlt:u.toNat/16^k≤u.toNat:=Nat.div_le_self _ _
 have a8:16≤u.toNat/16^k→k<7:=by
  intro h
  rcases Nat.lt_or_ge k 7 with h7|h7
  ·exact h7
  ·obtain rfl:k=7:=by omega
   omega
 have hnx:u.toNat/16^ (k+1)=u.toNat/16^k/16:=by rw[Nat.pow_succ,←Nat.div_div_eq_div_mul]
 generalize hq:u.toNat/16^k=q at*
 conv=>cbv
 refine .geq (fun h12=>?_) fun h12=>?_
 conv=>cbv
 refine .sub fun ag an=>?_
 conv=>cbv
 refine .and fun ac ad=>?_
 conv=>cbv
 have h7:=a8 (by omega)
 have ah:ac=((q% 16:Nat):Int):=by rw[ad,a7,af,Xkw (by omega)]
 have bg:q% 16<16:=Nat.mod_lt _ (by omega)
 refine .go ac.toNat (hj:=by show ac.toNat<36;omega) fun hjv15 ba ao bv15=>?_
 conv=>cbv
 refine .go hP Tryz.underlying275 (by kernel_rfl) fun ap bh=>?_
 conv=>cbv
 have bb:[D.sc (.int .u8 ba)]=cB (dig q):=XgB (by rw[ao,digF _ (by omega),ah,Int.toNat_natCast,Xdb])
 refine .all (dig q) am bb fun bc aq=>?_
 conv=>cbv
 refine .shrW fun bd ar=>?_
 conv=>cbv
 exact .go [] (bd,ag,bc) (hJ _ ⟨_,aq,k+1,by rw[ar,e8,af,Int.fdiv_eq_ediv_of_nonneg _ (by decide),hnx];show(q:Int)/16=_;omega,by omega,by omega,by rw[List.length_set];exact hwl,by rw[hx,Xbs (show¬q<16 by omega),List.append_assoc,hnx,show 65 - (k+1)=ap by omega,XdT (by omega),show ap+1=65 - k by omega];rfl⟩ mlt)
 conv=>cbv
 refine .sub fun ag an=>?_
 conv=>cbv
 refine .go i1.toNat (hj:=by show i1.toNat<36;omega) fun hjv14 ac ad bv14=>?_
 conv=>cbv
 refine .go hP Tryz.underlying275 (by kernel_rfl) fun au bi=>?_
 conv=>cbv
 have ah:[D.sc (.int .u8 ac)]=cB (dig q):=XgB (by rw[ad,digF _ (by omega),af,Int.toNat_natCast])
 refine .all (dig q) am ah fun bk ae=>?_
 conv=>cbv
 refine .lo hP ae Tryz.underlying275 (by kernel_rfl) fun on17 bl hon17 aw=>?_
 conv=>cbv
 refine .off ae fun be ax=>?_
 conv=>cbv
 have e:([],be)=L9 u:=(by unfold L9;rw[ax,hx,Rp (show q<16 by omega),hon17,aw,show ag.toNat=au by omega,XdT (by omega),show au+1=65 - k by omega,List.take_of_length_le (by simp;omega)];rfl)
 rw[hr]at e
 simp only[Prod.mk.injEq]at e
 obtain⟨rfl,rfl⟩:=e
 refine hQ _ _ ?_
 exact .many (.inl rfl) rfl rfl (.ref rfl rfl (by rw[←hoa];rfl) (.d rfl rfl (.nil)))
theorem Ji(hn:0≤n∧n≤1000000000)(hr:Hg n=o):Fn Tryz.prog 289 [I n,I 16] [] ⟨S o,[],[]⟩:=by
 refine Fn.go Nr Tryz.func289 fun P hP Q hQ=>?_
 conv=>cbv
 refine .eql (fun h1=>?_) fun h1=>?_
 omega
 conv=>cbv
 refine .go fun v2 aa=>?_
 conv=>cbv
 refine .lss (fun h3=>?_) fun h3=>?_
 omega
 conv=>cbv
 rcases ab:L9 v2 with⟨ad,ae⟩
 generalize ac:ad.map cB=af
 refine .dd hP (Iz (by rw[aa,F7];omega) ab ac) ?_
 conv=>cbv
 have e:ae=Hg n:=(by have e2:v2=n:=(by rw[aa,F7];omega);unfold Hg;rw[←e2];exact(congrArg Prod.snd ab).symm)
 rw[hr]at e
 subst e
 exact hQ _ _ (.s rfl rfl)
theorem O1(hn:0≤n∧n≤1000000000)(hr:Hg n=o):Fn Tryz.prog 243 [I n,I 16] [] ⟨S o,[],[]⟩:=by
 refine Fn.go Nr Tryz.func243 fun P hP Q hQ=>?_
 conv=>cbv
 generalize aa:Hg n=r1
 refine .dd hP (Ji hn aa) ?_
 conv=>cbv
 have e:r1=Hg n:=(by exact aa.symm)
 rw[hr]at e
 subst e
 exact hQ _ _ (.s rfl rfl)
theorem S9{c:Int}(hc:0≤c∧c≤8)(hr:Vl c=o):Fn Tryz.prog 244 [S (tx [48]),I c] [] ⟨S o,[],[]⟩:=by
 refine⟨Hd Tryz.func244 rfl rfl,CallOk.ofCalls fun E vs hS hA=>?_⟩
 obtain⟨u,v,rfl,h1,h2⟩:=args2 hA
 rw[S8 h1,S8 h2]
 obtain⟨k,rfl⟩:=Int.eq_ofNat_of_zero_le hc.1
 refine(Tryz.strings_Repeat (tx [48]) k E.w (by omega) (by rw[A4];simp;omega)).mono ?_
 rintro e w' ⟨rfl,hb⟩
 refine⟨_,rfl,hb,?_⟩
 have:(⟨(Lib.repeatL (tx [48]).data.toList k).toArray⟩:ByteArray)=o:=by
  rw[←hr]
  unfold Vl tx
  congr 2
  rw[Int.toNat_natCast]
  have key:∀k,Lib.repeatL (tx [48]).data.toList k=List.replicate k 48:=by
   intro k
   induction k with
   |zero=>rfl
   |succ k ih=>show[48]++Lib.repeatL _ k=_;rw[ih];rfl
  exact key k
 rw[this]
 exact .sc _ rfl
theorem Lv(hr:Ah n=o):Fn Tryz.prog 182 [I n] [] ⟨S o,[],[]⟩:=by
 refine Fn.go Nr Tryz.func182 fun P hP Q hQ=>?_
 conv=>cbv
 generalize aa:Bl n=r1
 refine .dd hP (F3 aa) ?_
 cases r1
 simp only[Bl,decide_eq_true_eq,decide_eq_false_iff_not]at aa
 conv=>cbv
 have e:(tx [])=Ah n:=(by unfold Ah;rw[if_neg (by omega)])
 rw[hr]at e
 subst e
 exact hQ _ _ (.s rfl rfl)
 simp only[Bl,decide_eq_true_eq,decide_eq_false_iff_not]at aa
 conv=>cbv
 generalize ab:Hg n=r2
 refine .dd hP (O1 aa ab) ?_
 conv=>cbv
 obtain⟨p1,p2,p3⟩:=Xjc 7 n.toNat (by omega)
 have z2:r2.size=(Xb8 n.toNat).length:=by rw[←ab];exact A4
 refine .go fun v3 ag=>?_
 conv=>cbv
 refine .sub fun v4 ah=>?_
 conv=>cbv
 generalize ac:Vl v4=r5
 refine .dd hP (S9 (by omega) ac) ?_
 conv=>cbv
 have z5:r5.size=v4.toNat:=by rw[←ac];unfold Vl;rw[A4,List.length_replicate]
 refine .litL 1 fun s6 ad ai=>?_
 conv=>cbv
 refine .go fun s7 ae aj=>?_
 conv=>cbv
 refine .litR 4 fun s8 af ak=>?_
 conv=>cbv
 have e:s8=Ah n:=(by unfold Ah;rw[if_pos (by omega),af,ae,ad,←ac,←ab,p1];unfold Vl Hg;show tx [115]++tx _++tx _++tx [46,115,101,103]=_;rw[C6,C6,C6,show v4.toNat=7+1 - (Xb8 n.toNat).length by omega];simp)
 rw[hr]at e
 subst e
 exact hQ _ _ (.s rfl rfl)
end
section
open Go Go.Proofs
set_option maxRecDepth 20000
set_option maxHeartbeats 4000000
def XbI:List (Nat×TyRow):=[ty3,ty5,ty9,Xb7]
theorem Z0:B3 Tryz.prog XbI:=B3.of (by kernel_rfl)
theorem N8:Setup Tryz.prog XbI:=⟨Z0,mixed⟩
open Go.RowKit
theorem CallOk.callsV{P:Program}{f:FuncId}{as0:List AV}{val:Value}(h:CallOk P f as0 [] ⟨.d (.sc val),[],[]⟩){w:World}(hG:Globs.ok w fun b=>b<w.heap.size){vs:Array Value}
  (hA:Xfn (Bm w (fun b=>b<w.heap.size) (fun _=>none) [] []) as0 vs):Calls P f vs w fun e w'=>e= .returned val∧Below w.heap.size w w':=by
 have hM:Mem (G7 w (fun b=>b<w.heap.size) (fun _=>none) []) (Bm w (fun b=>b<w.heap.size) (fun _=>none) [] []):={
  os:=rfl
  output:=rfl
  tape:=rfl
  size:=Nat.le_refl _
  keep:=fun _ _ _=>rfl
  shape:=fun _ _ h=>h
  s0:=fun _ h=>h
  slt:=fun _ h=>h
  glob:=hG
  snew:=fun _ h=>.inl h
  blt:=fun r b h=>absurd h (Nat.not_lt_zero r)
  bown:=fun r R b h=>absurd h (Nat.not_lt_zero r)
  bkeep:=fun r R h=>absurd h (Nat.not_lt_zero r)
  inj:=fun r r' R R' b h=>absurd h (Nat.not_lt_zero r)
  roots:=fun r R h=>absurd h (Nat.not_lt_zero r)}
 refine(h _ _ _ _ hM hA).mono ?_
 rintro e w' ⟨v,E',rfl,rfl,o⟩
 refine⟨?_,⟨o.mem.os,o.mem.tape,o.mem.output,o.mem.size,fun b hb=>o.mem.keep b hb (fun hn=>?_)⟩⟩
 ·have:=o.rel
  have h2:=S8 this
  rw[h2]
 ·obtain⟨r,R,h1,-⟩:=hn
  simp at h1
theorem Dz{w w':World}(hG:Globs.ok w fun b=>b<w.heap.size)(hb:Below w.heap.size w w'):Globs.ok w' fun b=>b<w'.heap.size:=
 Globs.step (fun b h=>Nat.lt_of_lt_of_le h hb.size) (fun b h=>hb.block b h) hG
theorem Xgw{w:World}(hG:Globs.ok w fun b=>b<w.heap.size)(n:Int):Calls Tryz.prog 182 #[.int .i64 n] w fun e w'=>e= .returned (.string (Ah n))∧Below w.heap.size w w':=by
 refine(Lv (n:=n) rfl).ok.callsV hG ⟨rfl,?_⟩
 intro j y hy
 match j,hy with
 |0,hy=>cases hy;exact .d _ _ (.sc _ rfl)
def Ce(n:Int):ByteArray:=if 0≤n∧n≤1000000000 then Ah n++tx [46,116,109,112]else tx []
theorem Um{n:Int}{o:ByteArray}(e:Ce n=o):o.size≤17:=by
 rw[←e]
 unfold Ce
 split
 ·rw[ByteArray.size_append]
  have:=Ea (n:=n) rfl
  have:(tx [46,116,109,112]).size=4:=rfl
  omega
 ·simp[A4]
def Hy(c:UInt8):Nat:=if 48≤c.toNat∧c.toNat≤57 then c.toNat - 48 else if 97≤c.toNat∧c.toNat≤102 then c.toNat - 87 else 16
def Fk:Nat→List UInt8→Option Nat
 |acc,[]=>some acc
 |acc,c::l=>if Hy c<16 then Fk (16*acc+Hy c) l else none
theorem O2:∀(l:List UInt8) (acc:Nat) (c:UInt8),Fk acc (l++[c])=(Fk acc l).bind fun a=>if Hy c<16 then some (16*a+Hy c)else none
 |[],acc,c=>by
  show(if Hy c<16 then Fk _ []else none)=_
  rfl
 |b::l,acc,c=>by
  rw[List.cons_append,Fk,Fk]
  split
  ·exact O2 l _ c
  ·rfl
theorem Vr:∀(l m:List UInt8) (acc:Nat),Fk acc l=none→Fk acc (l++m)=none
 |[],m,acc,h=>by cases h
 |b::l,m,acc,h=>by
  rw[Fk]at h
  rw[List.cons_append,Fk]
  split
  ·rename_i hb;rw[if_pos hb]at h;exact Vr l m _ h
  ·rfl
theorem Xex(n:Nat):Hy (dig n)=n% 16:=by
 have key:∀i:Fin 16,Hy (dig i.val)=i.val:=by decide
 have:=key ⟨n% 16,Nat.mod_lt _ (by omega)⟩
 rw[Xdb]at this
 exact this
theorem Wx:∀(k n:Nat),n<16^k→Fk 0 (Yc k n)=some n
 |0,n,h=>by
  have:n=0:=by simpa using h
  subst this;rfl
 |k+1,n,h=>by
  rw[Yc,O2,Wx k (n/16) (by rw[Nat.pow_succ]at h;omega),Option.bind_some,Xex,if_pos (Nat.mod_lt _ (by omega))]
  congr 1
  omega
def mid(name:ByteArray):List UInt8:=(name.data.toList.drop 1).take 8
def Bt(name:ByteArray):Int×Int:=
 match Fk 0 (mid name)with
 |some n=>if name.size=13∧Ah (n:Int)=name then(1,(n:Int))else if name.size=17∧Ce (n:Int)=name then(2,(n:Int))else(0,0)
 |none=>(0,0)
theorem XhJ{n:Int}(h:0≤n∧n≤1000000000):Ah n=tx (115::(Yc 8 n.toNat++[46,115,101,103])):=if_pos h
theorem Xkh{n:Int}(h:0≤n∧n≤1000000000):(Ah n).size=13:=by
 rw[XhJ h,A4,List.length_cons,List.length_append,Qq];rfl
theorem Xji{n:Int}(h:0≤n∧n≤1000000000):(Ce n).size=17:=by
 unfold Ce
 rw[if_pos h,ByteArray.size_append,Xkh h];rfl
theorem XkR{n:Int}{l:List UInt8}:mid (tx (115::(Yc 8 n.toNat++l)))=Yc 8 n.toNat:=by
 unfold mid tx
 show((115::(Yc 8 n.toNat++l)).drop 1).take 8=_
 rw[List.drop_succ_cons,List.drop_zero,List.take_left' (Qq 8 n.toNat)]
theorem Xjd{n:Int}{l:List UInt8}(h:0≤n∧n≤1000000000):Fk 0 (mid (tx (115::(Yc 8 n.toNat++l))))=some n.toNat:=by
 rw[XkR,Wx 8 n.toNat (by omega)]
theorem Xd1{n:Int}(h:0≤n∧n≤1000000000):Bt (Ah n)=(1,n):=by
 have hh:Fk 0 (mid (Ah n))=some n.toNat:=by rw[XhJ h];exact Xjd h
 unfold Bt
 rw[hh]
 dsimp only
 rw[Int.toNat_of_nonneg h.1,if_pos ⟨Xkh h,rfl⟩]
theorem Z3{n:Int}(h:0≤n∧n≤1000000000):Bt (Ce n)=(2,n):=by
 have hh:Fk 0 (mid (Ce n))=some n.toNat:=by
  unfold Ce
  rw[if_pos h,XhJ h,C6,List.cons_append,List.append_assoc];exact Xjd h
 unfold Bt
 rw[hh]
 dsimp only
 rw[Int.toNat_of_nonneg h.1,if_neg (by rw[Xji h];simp),if_pos ⟨Xji h,rfl⟩]
theorem Xc9{n:Int}{name:ByteArray}(e:Ah n=name)(h:name.size≠0):0≤n∧n≤1000000000:=by
 rcases Decidable.em (0≤n∧n≤1000000000)with h1|h1
 ·exact h1
 ·exfalso;apply h;rw[←e];unfold Ah;rw[if_neg h1];rfl
theorem Xdv{n:Int}{name:ByteArray}(e:Ce n=name)(h:name.size≠0):0≤n∧n≤1000000000:=by
 rcases Decidable.em (0≤n∧n≤1000000000)with h1|h1
 ·exact h1
 ·exfalso;apply h;rw[←e];unfold Ce;rw[if_neg h1];rfl
theorem Rw{name:ByteArray}(h:∀n,Fk 0 (mid name)=some n→Ah (n:Int)≠name∧Ce (n:Int)≠name):Bt name=(0,0):=by
 unfold Bt
 split
 ·rename_i n hn
  rw[if_neg (fun hh=>(h n hn).1 hh.2),if_neg (fun hh=>(h n hn).2 hh.2)]
 ·rfl
theorem XaM{name:ByteArray}(h:¬(13≤name.size∧name.size≤17)):Bt name=(0,0):=by
 unfold Bt
 split
 ·rw[if_neg (fun hh=>h (by omega)),if_neg (fun hh=>h (by omega))]
 ·rfl
theorem XaT{name:ByteArray}(h:Fk 0 (mid name)=none):Bt name=(0,0):=by
 unfold Bt
 rw[h]
theorem Xin{c:UInt8}(h:Hy c<16):Fa c=Hy c:=by
 have key:∀i:Fin 256,Hy (UInt8.ofNat i.val)<16→Fa (UInt8.ofNat i.val)=Hy (UInt8.ofNat i.val):=by decide+kernel
 have e:UInt8.ofNat c.toNat=c:=by simp
 have:=key ⟨c.toNat,c.toNat_lt⟩
 rw[e]at this
 exact this h
theorem Yv:∀(l:List UInt8) (acc n:Nat),Fk acc l=some n→Ga acc l=some n
 |[],acc,n,h=>h
 |c::l,acc,n,h=>by
  rw[Fk]at h
  split at h
  ·rename_i hc
   rw[Ga,Xin hc,if_pos hc]
   exact Yv l _ n h
  ·cases h
theorem W0:∀(l:List UInt8) (acc n:Nat),Ga acc l=some n→n<(acc+1)*16^l.length
 |[],acc,n,h=>by cases h;simp
 |c::l,acc,n,h=>by
  rw[Ga]at h
  split at h
  ·have:=W0 l _ n h
   rw[List.length_cons,Nat.pow_succ]
   refine Nat.lt_of_lt_of_le this ?_
   have h2:(16*acc+Fa c+1)*16^l.length≤(16*(acc+1))*16^l.length:=Nat.mul_le_mul_right _ (by omega)
   refine Nat.le_trans h2 (Nat.le_of_eq ?_)
   rw[Nat.mul_comm 16 (acc+1),Nat.mul_assoc,Nat.mul_comm 16]
  ·cases h
theorem CallOk.ofCallsT{P:Program}{f:FuncId}{as0:List AV}{v1 v2:Value}(o1:v1.oneCell'=true)(o2:v2.oneCell'=true)(h:∀(E:Env) (vs:Array Value),(∀b,E.S b→b<E.w.heap.size)→Globs.ok E.w E.S→Xfn E as0 vs→Calls P f vs E.w fun e w'=>e= .returned (.tuple #[v1,v2])∧Below E.w.heap.size E.w w'):CallOk P f as0 [] ⟨.tup [.d (.sc v1),.d (.sc v2)],[],[]⟩:=by
 intro w S β vs hM hA
 refine(h (Bm w S β [] []) vs hM.slt hM.glob hA).mono ?_
 rintro e w' ⟨he,hb⟩
 have hb:Below w.heap.size w w':=hb
 have st:Step (Bm w S β [] []) {Bm w S β [] []with w:=w'}:=⟨fun r R hR=>⟨R,hR,.inr rfl⟩,fun _ h=>h,fun _ _=>rfl,fun _ h=>h,fun b hS=>hb.block b (hM.slt b hS),fun b s hs=>Ml hb hs⟩
 refine⟨.tuple #[v1,v2],{Bm w S β [] []with w:=w'},he,rfl,?_,st,?_,?_,hb.size,.tup _ _ rfl ?_⟩
 ·exact{
   os:=hb.os.trans hM.os
   output:=hb.output.trans hM.output
   tape:=hb.tape.trans hM.tape
   size:=hb.size
   keep:=fun b hlt hn=>hb.block b hlt
   shape:=fun b s hs=>Ml hb hs
   s0:=hM.s0
   slt:=fun b hS=>Nat.lt_of_lt_of_le (hM.slt b hS) hb.size
   glob:=Globs.step st.S st.heap hM.glob
   snew:=hM.snew
   blt:=fun r b hp hβ=>absurd hp (Nat.not_lt_zero r)
   bown:=fun r R b hp=>absurd hp (Nat.not_lt_zero r)
   bkeep:=fun r R hlt hp=>absurd hp (Nat.not_lt_zero r)
   inj:=fun r r' R R' b hp=>absurd hp (Nat.not_lt_zero r)
   roots:=fun r R hp=>absurd hp (Nat.not_lt_zero r)}
 ·rfl
 ·intro r
  constructor
  ·exact fun h=>.inl h
  ·rintro(h|⟨_,h⟩)
   ·exact h
   ·exact absurd h (by simp)
 ·intro j y hy
  match j,hy with
  |0,hy=>cases hy;exact .d _ _ (.sc _ o1)
  |1,hy=>cases hy;exact .d _ _ (.sc _ o2)
variable {n:Int} {o:ByteArray}
theorem Xfd(hr:Ce n=o):Fn Tryz.prog 205 [I n] [] ⟨S o,[],[]⟩:=by
 refine Fn.go N8 Tryz.func205 fun P hP Q hQ=>?_
 conv=>cbv
 generalize aa:Bl n=r1
 refine .dd hP (F3 aa) ?_
 cases r1
 simp only[Bl,decide_eq_true_eq,decide_eq_false_iff_not]at aa
 conv=>cbv
 have e:(tx [])=Ce n:=(by unfold Ce;rw[if_neg (by omega)])
 rw[hr]at e
 subst e
 exact hQ _ _ (.s rfl rfl)
 simp only[Bl,decide_eq_true_eq,decide_eq_false_iff_not]at aa
 conv=>cbv
 generalize ab:Ah n=r2
 refine .dd hP (Lv ab) ?_
 conv=>cbv
 have ad:=Ea (n:=n) (by assumption)
 refine .litR 4 fun s3 ac ae=>?_
 conv=>cbv
 have e:s3=Ce n:=(by unfold Ce;rw[if_pos (by omega),ac,←ab];rfl)
 rw[hr]at e
 subst e
 exact hQ _ _ (.s rfl rfl)
theorem X7(hr:Ce n=o):Fn Tryz.prog 193 [I n] [] ⟨S o,[],[]⟩:=by
 refine Fn.go N8 Tryz.func193 fun P hP Q hQ=>?_
 conv=>cbv
 generalize aa:Ah n=r1
 refine .dd hP (Gm aa) ?_
 conv=>cbv
 refine .eql (fun h2=>?_) fun h2=>?_
 conv=>cbv
 have e:(tx [])=Ce n:=(by unfold Ce;rw[if_neg];intro hh;have:=Xkh hh;rw[aa,h2]at this;cases this)
 rw[hr]at e
 subst e
 exact hQ _ _ (.s rfl rfl)
 conv=>cbv
 have ac:=Ea aa
 refine .litR 4 fun s3 ab ad=>?_
 conv=>cbv
 have e:s3=Ce n:=(by unfold Ce;rw[if_pos,ab,←aa];rfl;exact Xc9 aa (fun h0=>h2 (by apply ByteArray.ext;exact Array.eq_empty_of_size_eq_zero h0)))
 rw[hr]at e
 subst e
 exact hQ _ _ (.s rfl rfl)
theorem XjE{name:ByteArray}{k:Nat}(h:k+1<name.size)(hk:k<8):(mid name)[k]? =some name[k+1]:=by
 have h':k+1<name.data.toList.length:=by rw[Array.length_toList];exact h
 unfold mid
 rw[List.getElem?_take_of_lt hk,List.getElem?_drop,Nat.add_comm 1 k,List.getElem?_eq_getElem h']
 rfl
theorem XgC{name:ByteArray}(h:9≤name.size):(mid name).length=8:=by
 have h':name.data.toList.length=name.size:=by rw[Array.length_toList];rfl
 unfold mid
 rw[List.length_take,List.length_drop,h']
 omega
theorem Xi9{name:ByteArray}{k n:Nat}(h:k+1<name.size)(hk:k<8)(e:Fk 0 ((mid name).take k)=some n):
  Fk 0 ((mid name).take (k+1))=if Hy name[k+1]<16 then some (16*n+Hy name[k+1])else none:=by
 rw[List.take_add_one,XjE h hk]
 show Fk 0 ((mid name).take k++[name[k+1]])=_
 rw[O2,e]
 rfl
theorem Xkn{name:ByteArray}{k:Nat}(e:Fk 0 ((mid name).take k)=none):Fk 0 (mid name)=none:=by
 rw[←List.take_append_drop k (mid name)]
 exact Vr _ _ _ e
theorem Xip{c:UInt8}(h:48≤c.toNat∧c.toNat≤57):Hy c=c.toNat - 48:=if_pos h
theorem XhY{c:UInt8}(h:¬(48≤c.toNat∧c.toNat≤57))(h2:97≤c.toNat∧c.toNat≤102):Hy c=c.toNat - 87:=by unfold Hy;rw[if_neg h,if_pos h2]
theorem XiM{c:UInt8}(h:¬(48≤c.toNat∧c.toNat≤57))(h2:¬(97≤c.toNat∧c.toNat≤102)):Hy c=16:=by unfold Hy;rw[if_neg h,if_neg h2]
theorem pow16{k:Nat}(h:k≤7):16^k*16≤4294967296:=by
 have:=Nat.pow_le_pow_right (n:=16) (by decide) (show k+1≤8 by omega)
 rw[Nat.pow_succ]at this
 exact this
def Kz(l:List Int)(n:Int):Bool:=decide (n∈l)
theorem XhV{l:List Int}{xl:List (List D)}{o:Bool}(hl:l.map cI=xl)(hn:l.length<2^40)(hr:Kz l n=o):Fn Tryz.prog 160 [.d (.row 1 xl),I n] [] ⟨B o,[],[]⟩:=by
 refine Fn.go N8 Tryz.func160 fun P hP Q hQ=>?_
 conv=>cbv
 refine LoopW.lp (κ:=Int) N8 hP [] [0,1] (fun i5=>[(5,I i5)]) (fun i5=>[])
  (fun i5=>0≤i5∧i5≤l.length∧∀(j:Nat) (hj:j<l.length),j<i5.toNat→l[j]≠n)
  (fun i5=>(l.length - i5).toNat) (0) ⟨by omega,by omega,fun j _ h=>by simp at h⟩ ⟨rfl,trivial⟩ rfl ?_
 rintro i5 J ⟨h0,h1,hb⟩ hJ
 conv=>cbv
 refine .go hl fun v1 ad=>?_
 conv=>cbv
 refine .lss (fun h2=>?_) fun h2=>?_
 conv=>cbv
 refine .go i5.toNat hl fun aa e3 ab=>?_
 conv=>cbv
 refine .eql (fun h4=>?_) fun h4=>?_
 conv=>cbv
 have e:true=Kz l n:=(by unfold Kz;symm;rw[decide_eq_true_eq,←h4,ab];exact List.getElem_mem aa)
 rw[hr]at e
 subst e
 exact hQ _ _ (.b rfl rfl)
 conv=>cbv
 refine .add fun v5 ae=>?_
 conv=>cbv
 exact .go [] (v5) (hJ _ ⟨by omega,by omega,fun j hj h=>if e:j=i5.toNat then by subst e;rw[←ab];exact h4 else hb j hj (by omega)⟩ mlt)
 conv=>cbv
 have e:false=Kz l n:=(by unfold Kz;symm;rw[decide_eq_false_iff_not];intro hm;obtain⟨j,hj,ac⟩:=List.getElem_of_mem hm;exact hb j hj (by omega) ac)
 rw[hr]at e
 subst e
 exact hQ _ _ (.b rfl rfl)
theorem Xff{name:ByteArray}{oa:Int}{ob:Int}(hs:name.size≤1000000000)(hr:Bt name=(oa,ob)):Fn Tryz.prog 159 [S name] [] ⟨.tup [I oa,I ob],[],[]⟩:=by
 refine Fn.go N8 Tryz.func159 fun P hP Q hQ=>?_
 conv=>cbv
 refine .go fun v1 al=>?_
 conv=>cbv
 generalize ae:A1 v1 13 17=r2
 refine .dd hP (Dd ae) ?_
 cases r2
 simp only[A1,decide_eq_true_eq,decide_eq_false_iff_not]at ae
 conv=>cbv
 have e:(0,0)=Bt name:=(by exact(XaM (by omega)).symm)
 rw[hr]at e
 simp only[Prod.mk.injEq]at e
 obtain⟨rfl,rfl⟩:=e
 refine hQ _ _ ?_
 exact .many (.inl rfl) rfl rfl (.d rfl rfl (.d rfl rfl (.nil)))
 simp only[A1,decide_eq_true_eq,decide_eq_false_iff_not]at ae
 conv=>cbv
 refine LoopW.lp (κ:=Int×Int) N8 hP [] [0] (fun(i4,i5)=>[(4,I i4),(5,I i5)]) (fun(i4,i5)=>[])
  (fun(i4,i5)=>1≤i5∧i5≤9∧0≤i4∧i4.toNat<16^ (i5 - 1).toNat∧Fk 0 ((mid name).take (i5 - 1).toNat)=some i4.toNat)
  (fun(i4,i5)=>(9 - i5).toNat) (0,1) ⟨by omega,by omega,by omega,by simp,rfl⟩ ⟨rfl,rfl,trivial⟩ rfl ?_
 rintro⟨i4,i5⟩ J ⟨h0,h1,h2,h3_,he⟩ hJ
 conv=>cbv
 refine .lss (fun h3=>?_) fun h3=>?_
 conv=>cbv
 refine .go i5.toNat fun hjv4 v4 ah bv4=>?_
 conv=>cbv
 have hp:=pow16 (k:=(i5 - 1).toNat) (by omega)
 have hc:v4=(name[(i5 - 1).toNat+1].toNat:Int):=by rw[ah];congr 2;congr 1;omega
 have hstep:=Xi9 (name:=name) (k:=(i5 - 1).toNat) (by omega) (by omega) he
 have am:=name[(i5 - 1).toNat+1].toNat_lt
 refine .id fun v5 an=>?_
 conv=>cbv
 generalize aa:A1 v5 48 57=r6
 refine .dd hP (Dd aa) ?_
 cases r6
 simp only[A1,decide_eq_true_eq,decide_eq_false_iff_not]at aa
 conv=>cbv
 generalize af:A1 v5 97 102=r7
 refine .dd hP (Dd af) ?_
 cases r7
 simp only[A1,decide_eq_true_eq,decide_eq_false_iff_not]at af
 conv=>cbv
 have e:(0,0)=Bt name:=(by exact(XaT (Xkn (k:=(i5 - 1).toNat+1) (by rw[hstep,XiM (by omega) (by omega)];rfl))).symm)
 rw[hr]at e
 simp only[Prod.mk.injEq]at e
 obtain⟨rfl,rfl⟩:=e
 refine hQ _ _ ?_
 exact .many (.inl rfl) rfl rfl (.d rfl rfl (.d rfl rfl (.nil)))
 simp only[A1,decide_eq_true_eq,decide_eq_false_iff_not]at af
 conv=>cbv
 have hval:=XhY (c:=name[(i5 - 1).toNat+1]) (by omega) (by omega)
 refine .mul fun v8 ai=>?_
 conv=>cbv
 refine .add fun v9 aj=>?_
 conv=>cbv
 refine .sub fun ab ag=>?_
 conv=>cbv
 refine .add fun ac ak=>?_
 conv=>cbv
 exact .go [] (ab,ac) (hJ _ ⟨by omega,by omega,by omega,by first|(rw[show(ac - 1).toNat=(i5 - 1).toNat+1 by omega,Nat.pow_succ];omega)|(rw[show(ab - 1).toNat=(i5 - 1).toNat+1 by omega,Nat.pow_succ];omega),by first|(rw[show(ac - 1).toNat=(i5 - 1).toNat+1 by omega,hstep,hval,if_pos (by omega)];congr 1;omega)|(rw[show(ab - 1).toNat=(i5 - 1).toNat+1 by omega,hstep,hval,if_pos (by omega)];congr 1;omega)⟩ mlt)
 simp only[A1,decide_eq_true_eq,decide_eq_false_iff_not]at aa
 conv=>cbv
 have hval:=Xip (c:=name[(i5 - 1).toNat+1]) (by omega)
 refine .mul fun v7 ao=>?_
 conv=>cbv
 refine .add fun v8 ai=>?_
 conv=>cbv
 refine .sub fun v9 aj=>?_
 conv=>cbv
 refine .add fun ab ag=>?_
 conv=>cbv
 exact .go [] (v9,ab) (hJ _ ⟨by omega,by omega,by omega,by first|(rw[show(ac - 1).toNat=(i5 - 1).toNat+1 by omega,Nat.pow_succ];omega)|(rw[show(ab - 1).toNat=(i5 - 1).toNat+1 by omega,Nat.pow_succ];omega),by first|(rw[show(ac - 1).toNat=(i5 - 1).toNat+1 by omega,hstep,hval,if_pos (by omega)];congr 1;omega)|(rw[show(ab - 1).toNat=(i5 - 1).toNat+1 by omega,hstep,hval,if_pos (by omega)];congr 1;omega)⟩ mlt)
 conv=>cbv
 generalize ad:Ah i4=r4
 refine .dd hP (Gm ad) ?_
 conv=>cbv
 refine .eql (fun h5=>?_) fun h5=>?_
 conv=>cbv
 have e:(1,i4)=Bt name:=(by have:=Xd1 (Xc9 (ad.trans h5) (by omega));rw[ad,h5]at this;exact this.symm)
 rw[hr]at e
 simp only[Prod.mk.injEq]at e
 obtain⟨rfl,rfl⟩:=e
 refine hQ _ _ ?_
 exact .many (.inl rfl) rfl rfl (.d rfl rfl (.d rfl rfl (.nil)))
 conv=>cbv
 generalize aa:Ce i4=r6
 refine .dd hP (X7 aa) ?_
 conv=>cbv
 refine .eql (fun h7=>?_) fun h7=>?_
 conv=>cbv
 have e:(2,i4)=Bt name:=(by have:=Z3 (Xdv (aa.trans h7) (by omega));rw[aa,h7]at this;exact this.symm)
 rw[hr]at e
 simp only[Prod.mk.injEq]at e
 obtain⟨rfl,rfl⟩:=e
 refine hQ _ _ ?_
 exact .many (.inl rfl) rfl rfl (.d rfl rfl (.d rfl rfl (.nil)))
 conv=>cbv
 have e:(0,0)=Bt name:=(by refine(Rw fun n hn=>?_).symm;rw[show(i5 - 1).toNat=8 by omega,List.take_of_length_le (by rw[XgC (by omega)];omega),hn]at he;cases he;rw[Int.toNat_of_nonneg h2,ad,aa];exact⟨h5,h7⟩)
 rw[hr]at e
 simp only[Prod.mk.injEq]at e
 obtain⟨rfl,rfl⟩:=e
 refine hQ _ _ ?_
 exact .many (.inl rfl) rfl rfl (.d rfl rfl (.d rfl rfl (.nil)))
end
section
open Go Go.Proofs
set_option maxRecDepth 20000
set_option maxHeartbeats 4000000
open Go.RowKit
theorem puPub(t:ByteArray)(h8:t.size=8){w:World}(hi:Ih w 0):Calls Tryz.prog 229 #[.string t,.int .i64 16,.int .i64 32] w fun e w'=>
  (match Ga 0 t.data.toList with|some n=>e= .returned (.tuple #[.int .u64 n,.nilIface])|none=>∃x T p,e= .returned (.tuple #[.int .u64 x,.iface T p]))∧Below w.heap.size w w':=by
 obtain⟨ev,h1,h2⟩:=hi
 have hp:=fun w=>pu16 Tryz.lays287 t (by omega) (by omega) w
 have hlt:0<w.heap.size:=Lib.lt_of_cell h1
 have hbel:Below w.heap.size w (Lib.bytesWorld w (Tryz.lays287_ren.t 5) t):=Lib.bytesWorld_below _ _ _
 cases hh:Ga 0 t.data.toList with
 |some n=>
  rw[hh]at hp
  replace hp:∀w,Calls Tryz.prog 278 #[.string t,.int .i64 16,.int .i64 32] w fun e w'=>e= .returned (.tuple #[.int .u64 n,.nilIface])∧w'=Lib.bytesWorld w (Tryz.lays287_ren.t 5) t:=hp
  go_enter Tryz.func229,Tryz.ntmps229
  go_wp2_with (go_at_call 278;refine(hp _).mono ?_;rintro e w' ⟨rfl,rfl⟩)
  go_ret2
  exact⟨rfl,hbel⟩
 |none=>
  rw[hh]at hp
  replace hp:∀w,Calls Tryz.prog 278 #[.string t,.int .i64 16,.int .i64 32] w fun e w'=>e= .returned (.tuple #[.int .u64 0,.iface 247 (.int .i64 2)])∧w'=Lib.bytesWorld w (Tryz.lays287_ren.t 5) t:=hp
  go_enter Tryz.func229,Tryz.ntmps229
  go_wp2_with (first
   |(go_at_call 278;refine(hp _).mono ?_;rintro e w' ⟨rfl,rfl⟩)
   |(go_at_call 279;refine(Tryz.strconv_toError_syntax _ t _ _ ev _ (by omega) ((hbel.cell hlt).trans h1) h2).mono ?_;rintro e w' ⟨N,rfl,-,-,hb2⟩))
  go_ret2
  exact⟨⟨_,_,_,rfl⟩,hbel.trans (hb2.mono hbel.size)⟩
theorem XgR{a b:ByteArray}(h:¬a=b):(a.toList==b.toList)=false:=by
 rw[Bool.eq_false_iff]
 exact fun hh=>h ((Lib.bytes_beq_iff _ _).1 hh)
theorem N2{w:World}(hG:Globs.ok w fun b=>b<w.heap.size){n:Int}{o:ByteArray}(hr:Ah n=o):Calls Tryz.prog 182 #[.int .i64 n] w fun e w'=>e= .returned (.string o)∧Below w.heap.size w w':=by
 rw[←hr];exact Xgw hG n
theorem N3{w:World}(hG:Globs.ok w fun b=>b<w.heap.size){n:Int}{o:ByteArray}(hr:Ce n=o):Calls Tryz.prog 205 #[.int .i64 n] w fun e w'=>e= .returned (.string o)∧Below w.heap.size w w':=by
 refine(Xfd (n:=n) hr).ok.callsV hG ⟨rfl,?_⟩
 intro j y hy
 match j,hy with
 |0,hy=>cases hy;exact .d _ _ (.sc _ rfl)
theorem Q5{w:World}(hG:Globs.ok w fun b=>b<w.heap.size){n:Int}{o:Bool}(hr:Bl n=o):Calls Tryz.prog 230 #[.int .i64 n] w fun e w'=>e= .returned (.bool o)∧Below w.heap.size w w':=by
 refine(F3 (n:=n) hr).ok.callsV hG ⟨rfl,?_⟩
 intro j y hy
 match j,hy with
 |0,hy=>cases hy;exact .d _ _ (.sc _ rfl)
theorem Xc0{name:ByteArray}(h:9≤name.size):(name.extract 1 9).size=8∧(name.extract 1 9).data.toList=mid name:=by
 have h':9≤name.data.size:=h
 constructor
 ·rw[ByteArray.size_extract];omega
 ·unfold mid
  rw[ByteArray.data_extract,Array.toList_extract,List.extract_eq_take_drop]
set_option maxHeartbeats 1000000 in
set_option maxRecDepth 100000 in
theorem Wi{name:ByteArray}(hs:name.size≤1000000000){w:World}(hG:Globs.ok w fun b=>b<w.heap.size):Calls Tryz.prog 156 #[.string name] w fun e w'=>
  e= .returned (.tuple #[.int .i64 (Bt name).1,.int .i64 (Bt name).2])∧Below w.heap.size w w':=by
 by_cases h9:name.size<9
 ·rw[XaM (by omega)]
  go_enter Tryz.func156,Tryz.ntmps156
  go_wp2
  go_ret2
  exact⟨rfl,Below.refl _ _⟩
 obtain⟨hx8,hxl⟩:=Xc0 (name:=name) (by omega)
 have hpu:=fun(w:World) (hi:Ih w 0)=>puPub (name.extract 1 9) hx8 hi
 rw[hxl]at hpu
 have hG3:∀{w:World},(Globs.ok w fun b=>b<w.heap.size)→Ih w 0:=fun h=>XjD h
 cases hh:Ga 0 (mid name)with
 |none=>
  simp only[hh]at hpu
  rw[XaT (by
   cases h:Fk 0 (mid name)with
   |none=>rfl
   |some n=>rw[Yv _ _ _ h]at hh;cases hh)]
  go_enter Tryz.func156,Tryz.ntmps156
  go_wp2_with (go_at_call 229;refine(hpu _ (hG3 hG)).mono ?_;rintro e w' ⟨⟨x,T,p,rfl⟩,hb⟩)
  go_ret2
  exact⟨rfl,hb⟩
 |some m=>
  simp only[hh]at hpu
  have hm:m<4294967296:=by
   have:=W0 _ _ _ hh
   rw[XgC (by omega)]at this
   omega
  have hmn:∀n,Fk 0 (mid name)=some n→n=m:=fun n hn=>by
   have:=Yv _ _ _ hn
   rw[hh]at this
   exact(Option.some.inj this).symm
  obtain⟨M,hM⟩:∃M:Int,M=(m:Int):=⟨_,rfl⟩
  have hM0:0≤M:=by omega
  have hM1:M<4294967296:=by omega
  simp only[←hM]at hpu
  by_cases hnum:M≤1000000000
  ·have hrn:Bl M=true:=decide_eq_true ⟨hM0,hnum⟩
   obtain⟨sg,hsg⟩:∃s,Ah M=s:=⟨_,rfl⟩
   obtain⟨tp,htp⟩:∃s,Ce M=s:=⟨_,rfl⟩
   by_cases hse:name=sg
   ·have hR:Bt name=(1,M):=by rw[hse,←hsg];exact Xd1 ⟨hM0,hnum⟩
    rw[hR]
    dsimp only
    clear hmn hh hxl hR hM
    subst hse
    go_enter Tryz.func156,Tryz.ntmps156
    go_wp2_with (first
     |(go_at_call 229;refine(hpu _ (hG3 hG)).mono ?_;rintro e w1 ⟨rfl,aa⟩;have hG1:=Dz hG aa)
     |(go_at_call 230;refine(Q5 hG1 hrn).mono ?_;rintro e w2 ⟨rfl,hb2⟩;have hG2:=Dz hG1 hb2)
     |(go_at_call 182;refine(N2 hG2 hsg).mono ?_;rintro e w3 ⟨rfl,ab⟩;have hG3_:=Dz hG2 ab)
     |(go_at_call 205;refine(N3 hG3_ htp).mono ?_;rintro e w4 ⟨rfl,ac⟩))
    go_ret2
    exact⟨rfl,(aa.trans (hb2.mono aa.size)).trans (ab.mono (aa.trans (hb2.mono aa.size)).size)⟩
   ·by_cases hte:name=tp
    ·have hR:Bt name=(2,M):=by rw[hte,←htp];exact Z3 ⟨hM0,hnum⟩
     rw[hR]
     dsimp only
     clear hmn hh hxl hR hM
     subst hte
     have ad:=XgR hse
     go_enter Tryz.func156,Tryz.ntmps156
     go_wp2_with (first
      |(go_at_call 229;refine(hpu _ (hG3 hG)).mono ?_;rintro e w1 ⟨rfl,aa⟩;have hG1:=Dz hG aa)
      |(go_at_call 230;refine(Q5 hG1 hrn).mono ?_;rintro e w2 ⟨rfl,hb2⟩;have hG2:=Dz hG1 hb2)
      |(go_at_call 182;refine(N2 hG2 hsg).mono ?_;rintro e w3 ⟨rfl,ab⟩;have hG3_:=Dz hG2 ab)
      |(go_at_call 205;refine(N3 hG3_ htp).mono ?_;rintro e w4 ⟨rfl,ac⟩))
     go_ret2
     exact⟨rfl,((aa.trans (hb2.mono aa.size)).trans (ab.mono (aa.trans (hb2.mono aa.size)).size)).trans (ac.mono ((aa.trans (hb2.mono aa.size)).trans (ab.mono (aa.trans (hb2.mono aa.size)).size)).size)⟩
    ·have hR:Bt name=(0,0):=Rw fun n hn=>by
      rw[hmn n hn,←hM,hsg,htp]
      exact⟨fun e=>hse e.symm,fun e=>hte e.symm⟩
     rw[hR]
     dsimp only
     clear hmn hh hxl hR hM
     have ad:=XgR hse
     have ae:=XgR hte
     go_enter Tryz.func156,Tryz.ntmps156
     go_wp2_with (first
      |(go_at_call 229;refine(hpu _ (hG3 hG)).mono ?_;rintro e w1 ⟨rfl,aa⟩;have hG1:=Dz hG aa)
      |(go_at_call 230;refine(Q5 hG1 hrn).mono ?_;rintro e w2 ⟨rfl,hb2⟩;have hG2:=Dz hG1 hb2)
      |(go_at_call 182;refine(N2 hG2 hsg).mono ?_;rintro e w3 ⟨rfl,ab⟩;have hG3_:=Dz hG2 ab)
      |(go_at_call 205;refine(N3 hG3_ htp).mono ?_;rintro e w4 ⟨rfl,ac⟩))
     go_ret2
     exact⟨rfl,((aa.trans (hb2.mono aa.size)).trans (ab.mono (aa.trans (hb2.mono aa.size)).size)).trans (ac.mono ((aa.trans (hb2.mono aa.size)).trans (ab.mono (aa.trans (hb2.mono aa.size)).size)).size)⟩
  ·have hrn:Bl M=false:=decide_eq_false fun h=>hnum h.2
   obtain⟨sg,hsg⟩:∃s,Ah M=s:=⟨_,rfl⟩
   obtain⟨tp,htp⟩:∃s,Ce M=s:=⟨_,rfl⟩
   have hR:Bt name=(0,0):=Rw fun n hn=>by
    rw[hmn n hn,←hM]
    exact⟨fun e=>hnum (Xc9 e (by omega)).2,fun e=>hnum (Xdv e (by omega)).2⟩
   rw[hR]
   dsimp only
   clear hmn hh hxl hR hM
   go_enter Tryz.func156,Tryz.ntmps156
   go_wp2_with (first
    |(go_at_call 229;refine(hpu _ (hG3 hG)).mono ?_;rintro e w1 ⟨rfl,aa⟩;have hG1:=Dz hG aa)
    |(go_at_call 230;refine(Q5 hG1 hrn).mono ?_;rintro e w2 ⟨rfl,hb2⟩;have hG2:=Dz hG1 hb2)
    |(go_at_call 182;refine(N2 hG2 hsg).mono ?_;rintro e w3 ⟨rfl,ab⟩;have hG3_:=Dz hG2 ab)
    |(go_at_call 205;refine(N3 hG3_ htp).mono ?_;rintro e w4 ⟨rfl,ac⟩))
   go_ret2
   exact⟨rfl,aa.trans (hb2.mono aa.size)⟩
theorem Xfe{name:ByteArray}{oa ob:Int}(hs:name.size≤1000000000)(hr:Bt name=(oa,ob)):Fn Tryz.prog 156 [S name] [] ⟨.tup [I oa,I ob],[],[]⟩:=by
 refine⟨Hd Tryz.func156 rfl rfl,CallOk.ofCallsT rfl rfl fun E vs hS hG hA=>?_⟩
 obtain⟨u,rfl,h1⟩:=Xkv hA
 rw[S8 h1]
 have h2:=Wi hs (Globs.step hS (fun _ _=>rfl) hG)
 rw[hr]at h2
 exact h2
end
section
open Go Go.Proofs
set_option maxRecDepth 20000
set_option maxHeartbeats 4000000
def Xdl:List (Nat×TyRow):=[ty3,ty9,Zy,Xb9,Xb7,XfJ,Xku,XkM,XgE]
theorem Xc2:B3 Tryz.prog Xdl:=B3.of (by kernel_rfl)
theorem Fu:Setup Tryz.prog Xdl:=⟨Xc2,mixed⟩
def Au(d:Aa)(base:Int):ByteArray:=(C5 d (Ah base)).1
def Dc(b:ByteArray)(base link:Int):Bool:=(A0 b).2&&decide ((A0 b).1.base_=base)&&decide ((A0 b).1.link_=link)
def Dk(link:Int)(r:ByteArray):Int:=F8 link (Ao r.size 4++r)
def F5(link:Int)(l:List ByteArray):Int:=l.foldl Dk link
def Br(b:ByteArray):List ByteArray:=(Ac b).records_
def Ig(b:ByteArray):Int:=F5 (Ac b).head_.link_ (Ac b).records_
def I7(d:Aa):Nat→Int→Int→List Ht
 |0,_,_=>[]
 |k+1,base,sum=>if Dc (Au d base) base sum=true∧Br (Au d base)≠[]then
   ⟨base,Au d base,Ac (Au d base)⟩::I7 d k (base+(Br (Au d base)).length) (F5 sum (Br (Au d base)))else[]
def G0(d:Aa):List Ht:=I7 d 16 0 0
def C2(d:Aa):List Int:=(G0 d).map (·.base_)
def M8(d:Aa):List ByteArray:=(G0 d).flatMap fun x=>x.scan_.records_
theorem Dg{d:Aa}{b:Int}{t:ByteArray}(hd:okD d)(e:Au d b=t):t.size≤1000000000:=by
 rw[←e]
 exact Mj (ok:=(C5 d (Ah b)).2) hd rfl
theorem Nj{t:ByteArray}{b s:Int}(h:Dc t b s=true):∃hh,A0 t=(hh,true)∧hh.base_=b∧hh.link_=s∧0≤b∧b≤1000000000:=by
 unfold Dc at h
 simp only[Bool.and_eq_true,decide_eq_true_eq]at h
 rcases e:A0 t with⟨hh,ok⟩
 rw[e]at h
 obtain⟨⟨h1,h2⟩,h3⟩:=h
 simp only[]at h1 h2 h3
 subst h1
 have h4:=(Cu e).2.2
 obtain⟨v,st,bs,lk⟩:=hh
 have h5:=Dw h4
 exact⟨_,rfl,h2,h3,by simp only[]at h2;omega,by simp only[]at h2;omega⟩
theorem Xg3{t:ByteArray}{hh:Az}(e:A0 t=(hh,true)):(Ac t).head_=hh∧(Ac t).ok_=true:=by unfold Ac;rw[e];exact⟨rfl,rfl⟩
theorem Wd{t:ByteArray}{b s:Int}(h:Dc t b s=true):Ig t=F5 s (Br t):=by
 obtain⟨hh,h1,h2,h3,_⟩:=Nj h
 unfold Ig Br
 rw[(Xg3 h1).1,h3]
theorem Rq{t:ByteArray}{b s:Int}{l:List ByteArray}(h:Dc t b s=true)(e:Br t=l):Ig t=F5 s l:=by rw[Wd h,e]
theorem Q2{d:Aa}{k:Nat}{b s:Int}{t:ByteArray}(h1:Au d b=t)(h2:Dc t b s=false∨Br t=[]):I7 d k b s=[]:=by
 cases k with
 |zero=>rfl
 |succ k=>
  rw[I7,h1,if_neg]
  rintro⟨h3,h4⟩
  rcases h2 with h2|h2
  ·rw[h2]at h3;cases h3
  ·exact h4 h2
theorem Uo{d:Aa}{k:Nat}{b s:Int}{t:ByteArray}(h1:Au d b=t)(h2:Dc t b s=true)(h3:Br t≠[]):I7 d (k+1) b s=⟨b,t,Ac t⟩::I7 d k (b+(Br t).length) (F5 s (Br t)):=by
 rw[I7,h1,if_pos ⟨h2,h3⟩]
theorem R9{d:Aa}:∀{k:Nat} {b s:Int},(I7 d k b s).length≤k
 |0,_,_=>Nat.le_refl _
 |k+1,b,s=>by
  rw[I7]
  split
  ·rw[List.length_cons];exact Nat.succ_le_succ R9
  ·exact Nat.zero_le _
theorem Wl{d:Aa}:∀{k:Nat} {b s:Int},∀x∈I7 d k b s,x.text_=Au d x.base_∧x.scan_=Ac (Au d x.base_)∧∃s',Dc (Au d x.base_) x.base_ s'=true
 |0,_,_,x,hx=>by simp[I7]at hx
 |k+1,b,s,x,hx=>by
  rw[I7]at hx
  split at hx
  ·rename_i h
   rw[List.mem_cons]at hx
   rcases hx with rfl|hx
   ·exact⟨rfl,rfl,s,h.1⟩
   ·exact Wl x hx
  ·simp at hx
theorem Ju{d:Aa}{l:List Ht}(e:G0 d=l):l.length≤16:=by rw[←e];exact R9
theorem Fi{d:Aa}{l:List Int}(e:C2 d=l):l.length≤16:=by rw[←e];unfold C2;rw[List.length_map];exact R9
theorem If{d:Aa}{l:List Ht}(e:G0 d=l){x:Ht}(hx:x∈l):x.text_=Au d x.base_∧x.scan_=Ac (Au d x.base_)∧∃s',Dc (Au d x.base_) x.base_ s'=true:=by rw[←e]at hx;exact Wl x hx
theorem Xaw{d:Aa}{α:Type}(f:Ht→α)(g:Int→α)(h:∀x,x.text_=Au d x.base_→x.scan_=Ac (Au d x.base_)→f x=g x.base_):(G0 d).map f=(C2 d).map g:=by
 unfold C2
 rw[List.map_map]
 refine List.map_congr_left fun x hx=>?_
 obtain⟨h1,h2,_⟩:=If rfl hx
 exact h x h1 h2
theorem T5{d:Aa}:M8 d=(C2 d).flatMap fun b=>Br (Au d b):=by
 unfold M8
 rw[List.flatMap_def,List.flatMap_def]
 congr 1
 exact Xaw _ _ fun x h1 h2=>by rw[h2];rfl
theorem Xdh:∀(k:Nat) {h:Az} {b:ByteArray} {n:Nat} {p:Int},(b.size - p).toNat≤k→0≤p∧p≤b.size→∀r∈(Ek h b n p).1,r.size≤60
 |k,h,b,n,p,hk,hp=>by
  cases hm:Db h.version_ (h.base_+n) b p
  ·rcases hf:Ap h.version_ (h.base_+n) b p with⟨r,q,ok⟩
   cases ok
   ·rw[H5 hm hf];simp
   ·have h2:=E7 hf
    rw[H9 hm hf]
    cases k with
    |zero=>omega
    |succ k=>
     have ih:=Xdh k (h:=h) (b:=b) (n:=n+1) (p:=q) (by omega) (by omega)
     intro x hx
     rcases List.mem_cons.1 hx with rfl|hx
     ·omega
     ·exact ih x hx
  ·rw[H3 hm];simp
theorem Yi{b:ByteArray}:∀r∈(Ac b).records_,r.size≤60:=by
 unfold Ac
 split
 ·rename_i h e
  have h2:=Cu e
  exact Xdh _ (h:=h) (b:=b) (n:=0) (p:=24) (Nat.le_refl _) (by omega)
 ·simp
theorem Xeo{α β:Type}{f:α→β}{l:List α}{k:Nat}(h:k<l.length):(l.take (k+1)).map f=(l.take k).map f++[f l[k]]:=by rw[List.take_succ_eq_append_getElem h,List.map_append];rfl
theorem Xfx{α β:Type}{f:α→List β}{l:List α}{k:Nat}(h:k<l.length):(l.take (k+1)).flatMap f=(l.take k).flatMap f++f l[k]:=by rw[List.take_succ_eq_append_getElem h,List.flatMap_append];simp
variable {Ak:List Cs} {Bj Be Bd Bf xo:List (List D)} {Al An:List Ad} {Am:List ByteArray} {Aq As base o link:Int} {b r:ByteArray}
theorem Xh3{o:ByteArray}(Ay:Ak.map B5=Bj)(Av:Al.map Ae=Be)(A3:An.map Ae=Bd)(A5:Am.map cS=Bf)(hd:okD ⟨Ak,Al,An,Am,Aq,As⟩)(hr:Au (⟨Ak,Al,An,Am,Aq,As⟩:Aa) base=o):Fn Tryz.prog 202 [.agg [.d (.row 3 Bj),.d (.row 2 Be),.d (.row 2 Bd),.d (.row 1 Bf),I Aq,I As],I base] [] ⟨S o,[],[]⟩:=by
 refine Fn.go Fu Tryz.func202 fun P hP Q hQ=>?_
 conv=>cbv
 generalize aa:Ah base=r1
 refine .dd hP (Lv aa) ?_
 conv=>cbv
 rcases ab:C5 (⟨Ak,Al,An,Am,Aq,As⟩:Aa) r1 with⟨ac,ad⟩
 refine .dd hP (Xs Ay Av A3 A5 hd ab) ?_
 conv=>cbv
 have e:ac=Au (⟨Ak,Al,An,Am,Aq,As⟩:Aa) base:=(by unfold Au;rw[aa,ab])
 rw[hr]at e
 subst e
 exact hQ _ _ (.s rfl rfl)
theorem Mm{o:ByteArray}(Ay:Ak.map B5=Bj)(Av:Al.map Ae=Be)(A3:An.map Ae=Bd)(A5:Am.map cS=Bf)(hd:okD ⟨Ak,Al,An,Am,Aq,As⟩)(hr:Au (⟨Ak,Al,An,Am,Aq,As⟩:Aa) base=o):Fn Tryz.prog 15 [.agg [.d (.row 3 Bj),.d (.row 2 Be),.d (.row 2 Bd),.d (.row 1 Bf),I Aq,I As],I base] [] ⟨S o,[],[]⟩:=by
 refine Fn.go Fu Tryz.func15 fun P hP Q hQ=>?_
 conv=>cbv
 generalize aa:Ah base=r1
 refine .dd hP (Gm aa) ?_
 conv=>cbv
 rcases ab:C5 (⟨Ak,Al,An,Am,Aq,As⟩:Aa) r1 with⟨ac,ad⟩
 refine .dd hP (Wy Ay Av A3 A5 hd ab) ?_
 conv=>cbv
 have e:ac=Au (⟨Ak,Al,An,Am,Aq,As⟩:Aa) base:=(by unfold Au;rw[aa,ab])
 rw[hr]at e
 subst e
 exact hQ _ _ (.s rfl rfl)
theorem Xii{o:Bool}(hs:b.size<2^47)(hr:Dc b base link=o):Fn Tryz.prog 203 [S b,I base,I link] [] ⟨B o,[],[]⟩:=by
 refine Fn.go Fu Tryz.func203 fun P hP Q hQ=>?_
 conv=>cbv
 rcases aa:A0 b with⟨⟨ab,ac,ad,ae⟩,af⟩
 refine .dd hP (Xz (by omega) aa) ?_
 conv=>cbv
 cases af
 conv=>cbv
 have e:false=Dc b base link:=(by unfold Dc;rw[aa];rfl)
 rw[hr]at e
 subst e
 exact hQ _ _ (.b rfl rfl)
 conv=>cbv
 refine .eql (fun h2=>?_) fun h2=>?_
 conv=>cbv
 refine .eql (fun h3=>?_) fun h3=>?_
 conv=>cbv
 have e:true=Dc b base link:=(by unfold Dc;rw[aa];simp[h2,h3])
 rw[hr]at e
 subst e
 exact hQ _ _ (.b rfl rfl)
 conv=>cbv
 have e:false=Dc b base link:=(by unfold Dc;rw[aa];simp[h2,h3])
 rw[hr]at e
 subst e
 exact hQ _ _ (.b rfl rfl)
 conv=>cbv
 have e:false=Dc b base link:=(by unfold Dc;rw[aa];simp[h2])
 rw[hr]at e
 subst e
 exact hQ _ _ (.b rfl rfl)
theorem XeA(hb:r.size<2^40)(hr:Dk link r=o):Fn Tryz.prog 246 [I link,S r] [] ⟨I o,[],[]⟩:=by
 refine Fn.go Fu Tryz.func246 fun P hP Q hQ=>?_
 conv=>cbv
 refine .go fun v1 ac=>?_
 conv=>cbv
 generalize aa:Ao v1 4=r2
 have zr2:=Bv aa
 refine .dd hP (Fl (by omega) aa) ?_
 conv=>cbv
 refine .go fun s3 ad ae=>?_
 conv=>cbv
 generalize ab:F8 link s3=r4
 have zr4:=N4 ab
 refine .dd hP (Xax (by omega) ab) ?_
 conv=>cbv
 have e:r4=Dk link r:=(by subst_vars;rfl)
 rw[hr]at e
 subst e
 exact hQ _ _ (.i rfl rfl)
theorem XiL{o:Bool}(hs:b.size<2^47)(hr:Dc b base link=o):Fn Tryz.prog 66 [S b,I base,I link] [] ⟨B o,[],[]⟩:=by
 refine Fn.go Fu Tryz.func66 fun P hP Q hQ=>?_
 conv=>cbv
 rcases aa:A0 b with⟨⟨ab,ac,ad,ae⟩,af⟩
 refine .dd hP (R7 (by omega) aa) ?_
 conv=>cbv
 cases af
 conv=>cbv
 have e:false=Dc b base link:=(by unfold Dc;rw[aa];rfl)
 rw[hr]at e
 subst e
 exact hQ _ _ (.b rfl rfl)
 conv=>cbv
 refine .eql (fun h2=>?_) fun h2=>?_
 conv=>cbv
 refine .eql (fun h3=>?_) fun h3=>?_
 conv=>cbv
 have e:true=Dc b base link:=(by unfold Dc;rw[aa];simp[h2,h3])
 rw[hr]at e
 subst e
 exact hQ _ _ (.b rfl rfl)
 conv=>cbv
 have e:false=Dc b base link:=(by unfold Dc;rw[aa];simp[h2,h3])
 rw[hr]at e
 subst e
 exact hQ _ _ (.b rfl rfl)
 conv=>cbv
 have e:false=Dc b base link:=(by unfold Dc;rw[aa];simp[h2])
 rw[hr]at e
 subst e
 exact hQ _ _ (.b rfl rfl)
theorem Rl(hb:r.size<2^40)(hr:Dk link r=o):Fn Tryz.prog 146 [I link,S r] [] ⟨I o,[],[]⟩:=by
 refine Fn.go Fu Tryz.func146 fun P hP Q hQ=>?_
 conv=>cbv
 refine .go fun v1 ac=>?_
 conv=>cbv
 generalize aa:Ao v1 4=r2
 have zr2:=Bv aa
 refine .dd hP (E8 (by omega) aa) ?_
 conv=>cbv
 refine .go fun s3 ad ae=>?_
 conv=>cbv
 generalize ab:F8 link s3=r4
 have zr4:=N4 ab
 refine .dd hP (XbF (by omega) ab) ?_
 conv=>cbv
 have e:r4=Dk link r:=(by subst_vars;rfl)
 rw[hr]at e
 subst e
 exact hQ _ _ (.i rfl rfl)
theorem Xhz{l:List ByteArray}{xl:List (List D)}(hl:l.map cS=xl)(hn:l.length<2^40)(hb:∀r∈l,r.size≤60)(hr:F5 link l=o):Fn Tryz.prog 204 [I link,.d (.row 1 xl)] [] ⟨I o,[],[]⟩:=by
 refine Fn.go Fu Tryz.func204 fun P hP Q hQ=>?_
 conv=>cbv
 refine .go hl fun v1 ad=>?_
 conv=>cbv
 refine LoopW.lp (κ:=Int×Int) Fu hP [] [7,8] (fun(i0,i9)=>[(0,I i0),(9,I i9)]) (fun(i0,i9)=>[])
  (fun(i0,i9)=>0≤i9∧i9≤l.length∧i0=F5 link (l.take i9.toNat))
  (fun(i0,i9)=>(l.length - i9).toNat) (link,0) ⟨by omega,by omega,rfl⟩ ⟨rfl,rfl,trivial⟩ rfl ?_
 rintro⟨i0,i9⟩ J ⟨h0,h1,hx⟩ hJ
 conv=>cbv
 refine .lss (fun h2=>?_) fun h2=>?_
 conv=>cbv
 refine .go i9.toNat hl fun aa e3 ab=>?_
 conv=>cbv
 have zb:=hb e3 (ab▸List.getElem_mem _)
 generalize ac:Dk i0 e3=r4
 refine .dd hP (XeA (by omega) ac) ?_
 conv=>cbv
 refine .add fun v5 ae=>?_
 conv=>cbv
 exact .go [] (r4,v5) (hJ _ ⟨by omega,by omega,by rw[show v5.toNat=i9.toNat+1 by omega,List.take_succ_eq_append_getElem aa,F5,List.foldl_append,←ab];show r4=Dk (F5 link (l.take i9.toNat)) e3;rw[←hx,ac]⟩ mlt)
 conv=>cbv
 have e:i0=F5 link l:=(by rw[hx,List.take_of_length_le (by omega)])
 rw[hr]at e
 subst e
 exact hQ _ _ (.i rfl rfl)
theorem L4{o:List ByteArray}(hs:b.size<2^47)(hr:Br b=o)(ho:o.map cS=xo):Fn Tryz.prog 18 [S b] [] ⟨.d (.row 1 xo),[],[]⟩:=by
 refine Fn.go Fu Tryz.func18 fun P hP Q hQ=>?_
 conv=>cbv
 rcases ai:Ac b with⟨an,⟨ae,af,ag,ah⟩,ab,ad,al,am⟩
 generalize aa:ab.map cS=aj
 generalize ac:ad.map cI=ak
 refine .dd hP (Jt (by omega) ai aa ac) ?_
 conv=>cbv
 have e:ab=Br b:=(by unfold Br;rw[ai])
 rw[hr]at e
 subst e
 exact hQ _ _ (.d rfl (by rw[←aa,←ho]))
theorem Xcv(hs:b.size<2^40)(hr:Ig b=o):Fn Tryz.prog 67 [S b] [] ⟨I o,[],[]⟩:=by
 refine Fn.go Fu Tryz.func67 fun P hP Q hQ=>?_
 conv=>cbv
 rcases ae:Ac b with⟨aq,⟨ag,ah,ai,aa⟩,ab,af,ao,ap⟩
 generalize ac:ab.map cS=am
 generalize ad:af.map cI=an
 refine .dd hP (Jt (by omega) ae ac ad) ?_
 conv=>cbv
 refine LoopW.lp (κ:=Int×Int) Fu hP [] [3] (fun(i4,i5)=>[(4,I i4),(5,I i5)]) (fun(i4,i5)=>[])
  (fun(i4,i5)=>0≤i5∧i5≤ab.length∧i4=F5 aa (ab.take i5.toNat))
  (fun(i4,i5)=>(ab.length - i5).toNat) (aa,0) ⟨by omega,by omega,rfl⟩ ⟨rfl,rfl,trivial⟩ rfl ?_
 rintro⟨i4,i5⟩ J ⟨h0,h1,hx⟩ hJ
 have zs:=Yi (b:=b)
 have zl:=Dh (b:=b)
 rw[ae]at zs zl
 simp only[]at zs zl
 conv=>cbv
 refine .go ac fun v2 ar=>?_
 conv=>cbv
 refine .lss (fun h3=>?_) fun h3=>?_
 conv=>cbv
 refine .go i5.toNat ac fun aj e4 ak=>?_
 conv=>cbv
 have zb:=zs e4 (ak▸List.getElem_mem _)
 generalize al:Dk i4 e4=r5
 refine .dd hP (Rl (by omega) al) ?_
 conv=>cbv
 refine .add fun v6 au=>?_
 conv=>cbv
 exact .go [] (r5,v6) (hJ _ ⟨by omega,by omega,by rw[show v6.toNat=i5.toNat+1 by omega,List.take_succ_eq_append_getElem aj,F5,List.foldl_append,←ak];show r5=Dk (F5 aa (ab.take i5.toNat)) e4;rw[←hx,al]⟩ mlt)
 conv=>cbv
 have e:i4=Ig b:=(by unfold Ig;rw[ae,hx,List.take_of_length_le (by omega)])
 rw[hr]at e
 subst e
 exact hQ _ _ (.i rfl rfl)
theorem Sd{o:List Ht}(Ay:Ak.map B5=Bj)(Av:Al.map Ae=Be)(A3:An.map Ae=Bd)(A5:Am.map cS=Bf)(hd:okD ⟨Ak,Al,An,Am,Aq,As⟩)(hr:G0 (⟨Ak,Al,An,Am,Aq,As⟩:Aa)=o)(ho:o.map XaP=xo):Fn Tryz.prog 121 [.agg [.d (.row 3 Bj),.d (.row 2 Be),.d (.row 2 Bd),.d (.row 1 Bf),I Aq,I As]] [] ⟨.d (.row 11 xo),[],[]⟩:=by
 refine Fn.go Fu Tryz.func121 fun P hP Q hQ=>?_
 conv=>cbv
 refine LoopW.lp (κ:=Int×Int×(List (List D))×Nat) Fu hP [2] [1] (fun(i4,i5,af,ac)=>[(3,.ref 3 0 ac),(4,I i4),(5,I i5)]) (fun(i4,i5,af,ac)=>[(3,.row 11 false af)])
  (fun(i4,i5,af,ac)=>∃(w3:List Ht),w3.map XaP=af∧ac=w3.length∧(w3.length≤16∧0≤i4∧i4≤2000000000)∧G0 (⟨Ak,Al,An,Am,Aq,As⟩:Aa)=w3++I7 (⟨Ak,Al,An,Am,Aq,As⟩:Aa) (16 - w3.length) i4 i5)
  (fun(i4,i5,af,ac)=>16 - ac) (0,0,[],0) ⟨[],rfl,rfl,by simp,rfl⟩ ⟨rfl,rfl,rfl,trivial⟩ rfl ?_
 rintro⟨i4,i5,af,ac⟩ J ⟨w3,ad,a8,hb,hI⟩ hJ
 conv=>cbv
 refine .go fun v1 bb=>?_
 conv=>cbv
 refine .lss (fun h2=>?_) fun h2=>?_
 conv=>cbv
 generalize ak:Au (⟨Ak,Al,An,Am,Aq,As⟩:Aa) i4=r3
 refine .dd hP (Xh3 Ay Av A3 A5 hd ak) ?_
 conv=>cbv
 have z3:=Dg hd ak
 rcases am:Ac r3 with⟨au,⟨ag,ah,ai,aj⟩,ab,al,ap,aq⟩
 generalize aa:ab.map cS=ax
 generalize ae:al.map cI=ay
 refine .dd hP (Lo (by omega) am aa ae) ?_
 conv=>cbv
 have zr:=Dh (b:=r3)
 have zq:=Yi (b:=r3)
 rw[am]at zr zq
 simp only[]at zr zq
 have rq:Br r3=ab:=by unfold Br;rw[am]
 generalize an:Dc r3 i4 i5=r5
 refine .dd hP (Xii (by omega) an) ?_
 cases r5
 conv=>cbv
 have e:w3=G0 (⟨Ak,Al,An,Am,Aq,As⟩:Aa):=(by rw[hI,Q2 ak (.inl an),List.append_nil])
 rw[hr]at e
 subst e
 exact hQ _ _ (.r rfl rfl (by rw[←ad,List.length_map];first|omega|(simp;omega)) (by rw[←ad,←ho]))
 conv=>cbv
 refine .go aa fun v6 ar=>?_
 conv=>cbv
 refine .eql (fun h7=>?_) fun h7=>?_
 conv=>cbv
 have e:w3=G0 (⟨Ak,Al,An,Am,Aq,As⟩:Aa):=(by rw[hI,Q2 ak (.inr (by rw[rq];exact List.eq_nil_of_length_eq_zero (by omega))),List.append_nil])
 rw[hr]at e
 subst e
 exact hQ _ _ (.r rfl rfl (by rw[←ad,List.length_map];first|omega|(simp;omega)) (by rw[←ad,←ho]))
 conv=>cbv
 have hg:=Nj an
 obtain⟨hh,g1,g2,g3,g4,g5⟩:=hg
 have hne:ab≠[]:=by intro e;rw[e]at ar;simp at ar;exact h7 ar
 refine .one (⟨i4,r3,⟨au,⟨ag,ah,ai,aj⟩,ab,al,ap,aq⟩⟩:Ht) ad (by rw[←aa,←ae];rfl) fun az z8 ba a1=>?_
 conv=>cbv
 refine .go aa fun v9 a2=>?_
 conv=>cbv
 refine .add fun a6 aw=>?_
 conv=>cbv
 generalize ao:F5 i5 ab=a7
 refine .dd hP (Xhz aa (by omega) zq ao) ?_
 conv=>cbv
 exact .go [10] (a6,a7,z8,az) (hJ _ ⟨_,a1,D4,by rw[List.length_append];simp;omega,by rw[hI,show 16 - w3.length=(15 - w3.length)+1 by omega,Uo ak an (by rw[rq];exact hne),List.append_assoc,am,List.length_append,rq,ao,←a2,←aw];simp only[List.length_singleton];rw[show 16 - (w3.length+1)=15 - w3.length by omega];rfl⟩ mlt)
 conv=>cbv
 have e:w3=G0 (⟨Ak,Al,An,Am,Aq,As⟩:Aa):=(by rw[hI,show 16 - w3.length=0 by omega];simp[I7])
 rw[hr]at e
 subst e
 exact hQ _ _ (.r rfl rfl (by rw[←ad,List.length_map];first|omega|(simp;omega)) (by rw[←ad,←ho]))
theorem Pq{o:List Int}(Ay:Ak.map B5=Bj)(Av:Al.map Ae=Be)(A3:An.map Ae=Bd)(A5:Am.map cS=Bf)(hd:okD ⟨Ak,Al,An,Am,Aq,As⟩)(hr:C2 (⟨Ak,Al,An,Am,Aq,As⟩:Aa)=o)(ho:o.map cI=xo):Fn Tryz.prog 14 [.agg [.d (.row 3 Bj),.d (.row 2 Be),.d (.row 2 Bd),.d (.row 1 Bf),I Aq,I As]] [] ⟨.d (.row 1 xo),[],[]⟩:=by
 refine Fn.go Fu Tryz.func14 fun P hP Q hQ=>?_
 conv=>cbv
 refine LoopW.lp (κ:=Int×Int×(List (List D))×Nat) Fu hP [2] [1] (fun(i4,i5,ac,aa)=>[(3,.ref 3 0 aa),(4,I i4),(5,I i5)]) (fun(i4,i5,ac,aa)=>[(3,.row 1 false ac)])
  (fun(i4,i5,ac,aa)=>∃(w3:List Int),w3.map cI=ac∧aa=w3.length∧(w3.length≤16∧0≤i4∧i4≤2000000000)∧C2 (⟨Ak,Al,An,Am,Aq,As⟩:Aa)=w3++(I7 (⟨Ak,Al,An,Am,Aq,As⟩:Aa) (16 - w3.length) i4 i5).map (·.base_))
  (fun(i4,i5,ac,aa)=>16 - aa) (0,0,[],0) ⟨[],rfl,rfl,by simp,rfl⟩ ⟨rfl,rfl,rfl,trivial⟩ rfl ?_
 rintro⟨i4,i5,ac,aa⟩ J ⟨w3,ab,an,hb,hI⟩ hJ
 conv=>cbv
 refine .go fun v1 ap=>?_
 conv=>cbv
 refine .lss (fun h2=>?_) fun h2=>?_
 conv=>cbv
 generalize ae:Au (⟨Ak,Al,An,Am,Aq,As⟩:Aa) i4=r3
 refine .dd hP (Mm Ay Av A3 A5 hd ae) ?_
 conv=>cbv
 have z3:=Dg hd ae
 generalize ad:Br r3=l4
 generalize ah:l4.map cS=aq
 refine .dd hP (L4 (by omega) ad ah) ?_
 conv=>cbv
 refine .go ah fun v5 ag=>?_
 conv=>cbv
 refine .eql (fun h6=>?_) fun h6=>?_
 conv=>cbv
 have e:w3=C2 (⟨Ak,Al,An,Am,Aq,As⟩:Aa):=(by rw[hI,Q2 ae (.inr (by rw[ad];exact List.eq_nil_of_length_eq_zero (by omega)))];simp)
 rw[hr]at e
 subst e
 exact hQ _ _ (.r rfl rfl (by rw[←ab,List.length_map];first|omega|(simp;omega)) (by rw[←ab,←ho]))
 conv=>cbv
 generalize af:Dc r3 i4 i5=r7
 refine .dd hP (XiL (by omega) af) ?_
 cases r7
 conv=>cbv
 have e:w3=C2 (⟨Ak,Al,An,Am,Aq,As⟩:Aa):=(by rw[hI,Q2 ae (.inl af)];simp)
 rw[hr]at e
 subst e
 exact hQ _ _ (.r rfl rfl (by rw[←ab,List.length_map];first|omega|(simp;omega)) (by rw[←ab,←ho]))
 conv=>cbv
 have hg:=Nj af
 obtain⟨hh,g1,g2,g3,g4,g5⟩:=hg
 have hne:l4≠[]:=by intro e;rw[e]at ag;simp at ag;exact h6 ag
 have zr:=Dh (b:=r3)
 have rq:(Ac r3).records_=l4:=ad
 rw[rq]at zr
 refine .one i4 ab rfl fun ak z8 ao al=>?_
 conv=>cbv
 generalize ai:Ig r3=r9
 refine .dd hP (Xcv (by omega) ai) ?_
 conv=>cbv
 refine .add fun am aj=>?_
 conv=>cbv
 exact .go [5] (am,r9,z8,ak) (hJ _ ⟨_,al,D4,by rw[List.length_append];simp;omega,by rw[hI,show 16 - w3.length=(15 - w3.length)+1 by omega,Uo ae af (by rw[ad];exact hne),ad,List.map_cons,List.append_assoc,List.length_append,←Rq af ad,ai,←ag,←aj];simp only[List.length_singleton];rw[show 16 - (w3.length+1)=15 - w3.length by omega];rfl⟩ mlt)
 conv=>cbv
 have e:w3=C2 (⟨Ak,Al,An,Am,Aq,As⟩:Aa):=(by rw[hI,show 16 - w3.length=0 by omega];simp[I7])
 rw[hr]at e
 subst e
 exact hQ _ _ (.r rfl rfl (by rw[←ab,List.length_map];first|omega|(simp;omega)) (by rw[←ab,←ho]))
theorem XjG{o:List ByteArray}(Ay:Ak.map B5=Bj)(Av:Al.map Ae=Be)(A3:An.map Ae=Bd)(A5:Am.map cS=Bf)(hd:okD ⟨Ak,Al,An,Am,Aq,As⟩)(hr:M8 (⟨Ak,Al,An,Am,Aq,As⟩:Aa)=o)(ho:o.map cS=xo):Fn Tryz.prog 90 [.agg [.d (.row 3 Bj),.d (.row 2 Be),.d (.row 2 Bd),.d (.row 1 Bf),I Aq,I As]] [] ⟨.d (.row 1 xo),[],[]⟩:=by
 refine Fn.go Fu Tryz.func90 fun P hP Q hQ=>?_
 conv=>cbv
 generalize ap:G0 (⟨Ak,Al,An,Am,Aq,As⟩:Aa)=l1
 generalize ar:l1.map XaP=bd
 refine .dd hP (Sd Ay Av A3 A5 hd ap ar) ?_
 conv=>cbv
 refine .go ar fun v2 be=>?_
 conv=>cbv
 refine LoopW.lp (κ:=Int×(List (List D))×Nat) Fu hP [2] [8,9] (fun(ae,am,an)=>[(3,.ref 3 0 an),(10,I ae)]) (fun(ae,am,an)=>[(3,.row 1 false am)])
  (fun(ae,am,an)=>∃(w3:List ByteArray),w3.map cS=am∧an=w3.length∧0≤ae∧ae≤l1.length∧w3.length≤1000000000*ae.toNat∧w3=(l1.take ae.toNat).flatMap fun x=>x.scan_.records_)
  (fun(ae,am,an)=>(l1.length - ae).toNat) (0,[],0) ⟨[],rfl,rfl,by omega,by omega,by simp,by simp⟩ ⟨rfl,rfl,trivial⟩ rfl ?_
 rintro⟨ae,am,an⟩ J ⟨w3,au,ba,h0,h1,hb,hw⟩ hJ
 have bb:=Ju ap
 conv=>cbv
 refine .lss (fun h3=>?_) fun h3=>?_
 conv=>cbv
 refine .goX ae.toNat ar fun az ⟨ao,ak,⟨aj,⟨aa,ab,ac,ad⟩,af,ag,ah,ai⟩⟩ fe4 a1 hfe4=>?_
 replace hfe4:[.sc (.int .i64 ao),.sc (.string ak),.sc (.bool aj),.sc (.int .i64 aa),.sc (.int .i64 ab),.sc (.int .i64 ac),.sc (.int .i64 ad),.row 1 (af.map cS),.row 1 (ag.map cI),.sc (.int .i64 ah),.sc (.bool ai)]=fe4:=hfe4
 generalize al:af.map cS=aw at hfe4
 generalize ax:ag.map cI=ay at hfe4
 subst hfe4
 conv=>cbv
 have hm:=If ap (x:=⟨ao,ak,⟨aj,⟨aa,ab,ac,ad⟩,af,ag,ah,ai⟩⟩) (by rw[a1];exact List.getElem_mem _)
 obtain⟨aq,a2,s9,a6⟩:=hm
 simp only[]at aq a2 a6
 have hz:=Dg hd aq.symm
 have zr:=Dh (b:=ak)
 rw[aq,←a2]at zr
 simp only[]at zr
 rw[←aq]at zr
 refine .row au al fun a7 z5 bc a8=>?_
 conv=>cbv
 refine .add fun v6 bf=>?_
 conv=>cbv
 exact .go [7] (v6,z5,a7) (hJ _ ⟨_,a8,D4,by omega,by omega,by rw[List.length_append,show v6.toNat=ae.toNat+1 by omega];omega,by rw[hw,show v6.toNat=ae.toNat+1 by omega,Xfx az,←a1]⟩ mlt)
 conv=>cbv
 have e:w3=M8 (⟨Ak,Al,An,Am,Aq,As⟩:Aa):=(by unfold M8;rw[hw,ap,List.take_of_length_le (by omega)])
 rw[hr]at e
 subst e
 exact hQ _ _ (.r rfl rfl (by rw[←au,List.length_map];first|omega|(simp;omega)) (by rw[←au,←ho]))
theorem XjV{o:List ByteArray}(Ay:Ak.map B5=Bj)(Av:Al.map Ae=Be)(A3:An.map Ae=Bd)(A5:Am.map cS=Bf)(hd:okD ⟨Ak,Al,An,Am,Aq,As⟩)(hr:M8 (⟨Ak,Al,An,Am,Aq,As⟩:Aa)=o)(ho:o.map cS=xo):Fn Tryz.prog 20 [.agg [.d (.row 3 Bj),.d (.row 2 Be),.d (.row 2 Bd),.d (.row 1 Bf),I Aq,I As]] [] ⟨.d (.row 1 xo),[],[]⟩:=by
 refine Fn.go Fu Tryz.func20 fun P hP Q hQ=>?_
 conv=>cbv
 generalize ac:C2 (⟨Ak,Al,An,Am,Aq,As⟩:Aa)=l1
 generalize ad:l1.map cI=ap
 refine .dd hP (Pq Ay Av A3 A5 hd ac ad) ?_
 conv=>cbv
 refine LoopW.lp (κ:=Int×(List (List D))×Nat) Fu hP [2] [1,4] (fun(i5,aa,ab)=>[(3,.ref 3 0 ab),(5,I i5)]) (fun(i5,aa,ab)=>[(3,.row 1 false aa)])
  (fun(i5,aa,ab)=>∃(w3:List ByteArray),w3.map cS=aa∧ab=w3.length∧0≤i5∧i5≤l1.length∧w3.length≤1000000000*i5.toNat∧w3=(l1.take i5.toNat).flatMap fun b=>Br (Au (⟨Ak,Al,An,Am,Aq,As⟩:Aa) b))
  (fun(i5,aa,ab)=>(l1.length - i5).toNat) (0,[],0) ⟨[],rfl,rfl,by omega,by omega,by simp,by simp⟩ ⟨rfl,rfl,trivial⟩ rfl ?_
 rintro⟨i5,aa,ab⟩ J ⟨w3,ae,am,h0,h1,hb,hw⟩ hJ
 have an:=Fi ac
 conv=>cbv
 refine .go ad fun v2 aq=>?_
 conv=>cbv
 refine .lss (fun h3=>?_) fun h3=>?_
 conv=>cbv
 refine .go i5.toNat ad fun ah e4 aj=>?_
 conv=>cbv
 generalize af:Au (⟨Ak,Al,An,Am,Aq,As⟩:Aa) e4=r5
 refine .dd hP (Mm Ay Av A3 A5 hd af) ?_
 conv=>cbv
 have z5:=Dg hd af
 generalize ag:Br r5=l6
 generalize ai:l6.map cS=ar
 refine .dd hP (L4 (by omega) ag ai) ?_
 conv=>cbv
 have zr:=Dh (b:=r5)
 have rq:(Ac r5).records_=l6:=ag
 rw[rq]at zr
 refine .row ae ai fun ak z7 ao al=>?_
 conv=>cbv
 refine .add fun v8 au=>?_
 conv=>cbv
 exact .go [4] (v8,z7,ak) (hJ _ ⟨_,al,D4,by omega,by omega,by rw[List.length_append,show v8.toNat=i5.toNat+1 by omega];omega,by rw[hw,show v8.toNat=i5.toNat+1 by omega,Xfx ah,←aj,af,ag]⟩ mlt)
 conv=>cbv
 have e:w3=M8 (⟨Ak,Al,An,Am,Aq,As⟩:Aa):=(by rw[T5,ac,hw,List.take_of_length_le (by omega)])
 rw[hr]at e
 subst e
 exact hQ _ _ (.r rfl rfl (by rw[←ae,List.length_map];first|omega|(simp;omega)) (by rw[←ae,←ho]))
end
section
open Go Go.Proofs
set_option maxRecDepth 20000
set_option maxHeartbeats 4000000
def Xb4:List (Nat×TyRow):=[ty3,ty9,Zy,Xb9,Xb7,Xku,XkM,XgE]
theorem XbX:B3 Tryz.prog Xb4:=B3.of (by kernel_rfl)
theorem Kh:Setup Tryz.prog Xb4:=⟨XbX,mixed⟩
def Xjj(l:List ByteArray):Int:=l.foldl (fun m t=>max m (t.size:Int)) 0
theorem Xi3{l:List ByteArray}{x:ByteArray}:Xjj (l++[x])=max (Xjj l) x.size:=by unfold Xjj;rw[List.foldl_append];rfl
def H0{α:Type}(f:α→Int)(l:List α):Int:=(l.map f).foldl (·+·) 0
theorem Dl{α:Type}{f:α→Int}{l:List α}{k:Nat}(h:k<l.length):H0 f (l.take (k+1))=H0 f (l.take k)+f l[k]:=by unfold H0;rw[Xeo h,List.foldl_append];rfl
theorem Pv{d:Aa}(f:Ht→Int)(g:Int→Int)(h:∀x,x.text_=Au d x.base_→x.scan_=Ac (Au d x.base_)→f x=g x.base_):H0 f (G0 d)=H0 g (C2 d):=by unfold H0;rw[Xaw f g h]
def Gk(d:Aa):Int:=Xjj (M8 d)
def Gs(x:Ht):Int:=x.scan_.end_ - 24
def Dx(d:Aa):Int:=H0 Gs (G0 d)
def Er(d:Aa):Int:=Dx d
theorem Nx{d:Aa}:Er d=H0 (fun b=>Ba (Au d b) - 24) (C2 d):=Pv _ _ fun x h1 h2=>by unfold Gs Ba;rw[h2]
theorem Xdy{d:Aa}{l:List ByteArray}(hd:okD d)(e:M8 d=l):l.length≤16000000000∧∀x∈l,x.size≤60:=by
 rw[←e,T5]
 refine⟨?_,?_⟩
 ·have key:∀c:List Int,(c.flatMap fun b=>Br (Au d b)).length≤1000000000*c.length:=by
   intro c
   induction c with
   |nil=>simp
   |cons b c ih=>
    rw[List.flatMap_cons,List.length_append,List.length_cons]
    have h1:=Dh (b:=Au d b)
    have h2:=Dg hd (rfl:Au d b=_)
    have h3:(Br (Au d b)).length=(Ac (Au d b)).records_.length:=rfl
    omega
  have h1:=key (C2 d)
  have h2:=Fi (rfl:C2 d=_)
  omega
 ·intro x hx
  obtain⟨b,_,hb⟩:=List.mem_flatMap.1 hx
  exact Yi x hb
def P9{α:Type}[DecidableEq α](a b:List α):Bool:=decide (a=b)
theorem Ug{l:List ByteArray}{k:Nat}(h:k<l.length):Xjj (l.take (k+1))=max (Xjj (l.take k)) l[k].size:=by rw[List.take_succ_eq_append_getElem h,Xi3]
variable {Ak:List Cs} {Bj Be Bd Bf:List (List D)} {Al An:List Ad} {Am:List ByteArray} {Aq As o:Int}
theorem U7(Ay:Ak.map B5=Bj)(Av:Al.map Ae=Be)(A3:An.map Ae=Bd)(A5:Am.map cS=Bf)(hd:okD ⟨Ak,Al,An,Am,Aq,As⟩)(hr:Gk (⟨Ak,Al,An,Am,Aq,As⟩:Aa)=o):Fn Tryz.prog 29 [.agg [.d (.row 3 Bj),.d (.row 2 Be),.d (.row 2 Bd),.d (.row 1 Bf),I Aq,I As]] [] ⟨I o,[],[]⟩:=by
 refine Fn.go Kh Tryz.func29 fun P hP Q hQ=>?_
 conv=>cbv
 generalize aa:M8 (⟨Ak,Al,An,Am,Aq,As⟩:Aa)=l1
 generalize ab:l1.map cS=ae
 refine .dd hP (XjG Ay Av A3 A5 hd aa ab) ?_
 conv=>cbv
 refine .go ab fun v2 af=>?_
 conv=>cbv
 refine LoopW.lp (κ:=Int×Int) Kh hP [] [7,8] (fun(i3,i9)=>[(3,I i3),(9,I i9)]) (fun(i3,i9)=>[])
  (fun(i3,i9)=>0≤i9∧i9≤l1.length∧i3=Xjj (l1.take i9.toNat))
  (fun(i3,i9)=>(l1.length - i9).toNat) (0,0) ⟨by omega,by omega,rfl⟩ ⟨rfl,rfl,trivial⟩ rfl ?_
 rintro⟨i3,i9⟩ J ⟨h0,h1,hx⟩ hJ
 have hb:=Xdy hd aa
 conv=>cbv
 refine .lss (fun h3=>?_) fun h3=>?_
 conv=>cbv
 refine .go i9.toNat ab fun ac e4 ad=>?_
 conv=>cbv
 have z4:=hb.2 e4 (ad▸List.getElem_mem _)
 refine .go fun v5 ag=>?_
 conv=>cbv
 refine .go fun v6 ah=>?_
 conv=>cbv
 refine .add fun v7 ai=>?_
 conv=>cbv
 exact .go [] (v6,v7) (hJ _ ⟨by omega,by omega,by rw[show v7.toNat=i9.toNat+1 by omega,Ug ac,←hx,←ad];omega⟩ mlt)
 conv=>cbv
 have e:i3=Gk (⟨Ak,Al,An,Am,Aq,As⟩:Aa):=(by unfold Gk;rw[aa,hx,List.take_of_length_le (by omega)])
 rw[hr]at e
 subst e
 exact hQ _ _ (.i rfl rfl)
theorem Xah(Ay:Ak.map B5=Bj)(Av:Al.map Ae=Be)(A3:An.map Ae=Bd)(A5:Am.map cS=Bf)(hd:okD ⟨Ak,Al,An,Am,Aq,As⟩)(hr:Er (⟨Ak,Al,An,Am,Aq,As⟩:Aa)=o):Fn Tryz.prog 24 [.agg [.d (.row 3 Bj),.d (.row 2 Be),.d (.row 2 Bd),.d (.row 1 Bf),I Aq,I As]] [] ⟨I o,[],[]⟩:=by
 refine Fn.go Kh Tryz.func24 fun P hP Q hQ=>?_
 conv=>cbv
 generalize aa:C2 (⟨Ak,Al,An,Am,Aq,As⟩:Aa)=l1
 generalize ab:l1.map cI=ah
 refine .dd hP (Pq Ay Av A3 A5 hd aa ab) ?_
 conv=>cbv
 refine LoopW.lp (κ:=Int×Int) Kh hP [] [1,4] (fun(i3,i5)=>[(3,I i3),(5,I i5)]) (fun(i3,i5)=>[])
  (fun(i3,i5)=>0≤i5∧i5≤l1.length∧(-24*i5≤i3∧i3≤1000000000*i5)∧i3=H0 (fun b=>Ba (Au (⟨Ak,Al,An,Am,Aq,As⟩:Aa) b) - 24) (l1.take i5.toNat))
  (fun(i3,i5)=>(l1.length - i5).toNat) (0,0) ⟨by omega,by omega,by omega,rfl⟩ ⟨rfl,rfl,trivial⟩ rfl ?_
 rintro⟨i3,i5⟩ J ⟨h0,h1,hb,hx⟩ hJ
 have ag:=Fi aa
 conv=>cbv
 refine .go ab fun v2 ai=>?_
 conv=>cbv
 refine .lss (fun h3=>?_) fun h3=>?_
 conv=>cbv
 refine .go i5.toNat ab fun ae e4 af=>?_
 conv=>cbv
 generalize ac:Au (⟨Ak,Al,An,Am,Aq,As⟩:Aa) e4=r5
 refine .dd hP (Mm Ay Av A3 A5 hd ac) ?_
 conv=>cbv
 have z5:=Dg hd ac
 generalize ad:Ba r5=r6
 refine .dd hP (Qb (by omega) ad) ?_
 conv=>cbv
 have ze:=Iv (b:=r5)
 have z6:r6=(Ac r5).end_:=ad.symm
 refine .add fun v7 aj=>?_
 conv=>cbv
 refine .sub fun v8 ak=>?_
 conv=>cbv
 refine .add fun v9 al=>?_
 conv=>cbv
 exact .go [] (v8,v9) (hJ _ ⟨by omega,by omega,by omega,by rw[show v9.toNat=i5.toNat+1 by omega,Dl ae,←hx,←af,ac,ad];omega⟩ mlt)
 conv=>cbv
 have e:i3=Er (⟨Ak,Al,An,Am,Aq,As⟩:Aa):=(by rw[Nx,aa,hx,List.take_of_length_le (by omega)])
 rw[hr]at e
 subst e
 exact hQ _ _ (.i rfl rfl)
theorem Wf{xbas:Int}{xtex:ByteArray}{xscaok:Bool}{xscaheaver:Int}{xscaheastr:Int}{xscaheabas:Int}{xscahealin:Int}{xscarec:List ByteArray}{xxscarec:List (List D)}{xscaoff:List Int}{xxscaoff:List (List D)}{xscaend:Int}{xscamar:Bool}(hxscarec:xscarec.map cS=xxscarec)(hxscaoff:xscaoff.map cI=xxscaoff)(hb:0≤xscaend∧xscaend≤1000000000)(hr:Gs (⟨xbas,xtex,⟨xscaok,⟨xscaheaver,xscaheastr,xscaheabas,xscahealin⟩,xscarec,xscaoff,xscaend,xscamar⟩⟩:Ht)=o):Fn Tryz.prog 83 [.agg [I xbas,S xtex,B xscaok,I xscaheaver,I xscaheastr,I xscaheabas,I xscahealin,.d (.row 1 xxscarec),.d (.row 1 xxscaoff),I xscaend,B xscamar]] [] ⟨I o,[],[]⟩:=by
 refine Fn.go Kh Tryz.func83 fun P hP Q hQ=>?_
 conv=>cbv
 refine .sub fun v1 aa=>?_
 conv=>cbv
 have e:v1=Gs (⟨xbas,xtex,⟨xscaok,⟨xscaheaver,xscaheastr,xscaheabas,xscahealin⟩,xscarec,xscaoff,xscaend,xscamar⟩⟩:Ht):=(by exact aa)
 rw[hr]at e
 subst e
 exact hQ _ _ (.i rfl rfl)
theorem My(Ay:Ak.map B5=Bj)(Av:Al.map Ae=Be)(A3:An.map Ae=Bd)(A5:Am.map cS=Bf)(hd:okD ⟨Ak,Al,An,Am,Aq,As⟩)(hr:Dx (⟨Ak,Al,An,Am,Aq,As⟩:Aa)=o):Fn Tryz.prog 75 [.agg [.d (.row 3 Bj),.d (.row 2 Be),.d (.row 2 Bd),.d (.row 1 Bf),I Aq,I As],.clo 83 []] [] ⟨I o,[],[]⟩:=by
 refine Fn.go Kh Tryz.func75 fun P hP Q hQ=>?_
 conv=>cbv
 generalize ao:G0 (⟨Ak,Al,An,Am,Aq,As⟩:Aa)=l1
 generalize aq:l1.map XaP=a6
 refine .dd hP (Sd Ay Av A3 A5 hd ao aq) ?_
 conv=>cbv
 refine .go aq fun v2 a7=>?_
 conv=>cbv
 refine LoopW.lp (κ:=Int×Int) Kh hP [] [1,9,10] (fun(i5,ah)=>[(5,I i5),(11,I ah)]) (fun(i5,ah)=>[])
  (fun(i5,ah)=>0≤ah∧ah≤l1.length∧(-24*ah≤i5∧i5≤1000000000*ah)∧i5=H0 Gs (l1.take ah.toNat))
  (fun(i5,ah)=>(l1.length - ah).toNat) (0,0) ⟨by omega,by omega,by omega,rfl⟩ ⟨rfl,rfl,trivial⟩ rfl ?_
 rintro⟨i5,ah⟩ J ⟨h0,h1,hb,hx⟩ hJ
 have a2:=Ju ao
 conv=>cbv
 refine .lss (fun h3=>?_) fun h3=>?_
 conv=>cbv
 refine .goX ah.toNat aq fun ax ⟨al,ak,⟨aj,⟨aa,ab,ac,ad⟩,ae,af,ag,ai⟩⟩ fe4 ay hfe4=>?_
 replace hfe4:[.sc (.int .i64 al),.sc (.string ak),.sc (.bool aj),.sc (.int .i64 aa),.sc (.int .i64 ab),.sc (.int .i64 ac),.sc (.int .i64 ad),.row 1 (ae.map cS),.row 1 (af.map cI),.sc (.int .i64 ag),.sc (.bool ai)]=fe4:=hfe4
 generalize am:ae.map cS=ar at hfe4
 generalize an:af.map cI=au at hfe4
 subst hfe4
 conv=>cbv
 have hm:=If ao (x:=⟨al,ak,⟨aj,⟨aa,ab,ac,ad⟩,ae,af,ag,ai⟩⟩) (by rw[ay];exact List.getElem_mem _)
 obtain⟨ap,az,s9,a1⟩:=hm
 simp only[]at ap az a1
 have hz:=Dg hd ap.symm
 have ze:=Iv (b:=ak)
 rw[ap,←az]at ze
 simp only[]at ze
 rw[←ap]at ze
 generalize aw:Gs (⟨al,ak,⟨aj,⟨aa,ab,ac,ad⟩,ae,af,ag,ai⟩⟩:Ht)=r5
 refine .dd hP (Wf am an (by omega) aw) ?_
 conv=>cbv
 have h5:r5=ag - 24:=aw.symm
 refine .add fun v6 a8=>?_
 conv=>cbv
 refine .add fun v7 ba=>?_
 conv=>cbv
 exact .go [] (v6,v7) (hJ _ ⟨by omega,by omega,by omega,by rw[show v7.toNat=ah.toNat+1 by omega,Dl ax,←hx,←ay,aw];omega⟩ mlt)
 conv=>cbv
 have e:i5=Dx (⟨Ak,Al,An,Am,Aq,As⟩:Aa):=(by unfold Dx;rw[ao,hx,List.take_of_length_le (by omega)])
 rw[hr]at e
 subst e
 exact hQ _ _ (.i rfl rfl)
theorem Sn(Ay:Ak.map B5=Bj)(Av:Al.map Ae=Be)(A3:An.map Ae=Bd)(A5:Am.map cS=Bf)(hd:okD ⟨Ak,Al,An,Am,Aq,As⟩)(hr:Er (⟨Ak,Al,An,Am,Aq,As⟩:Aa)=o):Fn Tryz.prog 23 [.agg [.d (.row 3 Bj),.d (.row 2 Be),.d (.row 2 Bd),.d (.row 1 Bf),I Aq,I As]] [] ⟨I o,[],[]⟩:=by
 refine Fn.go Kh Tryz.func23 fun P hP Q hQ=>?_
 conv=>cbv
 generalize aa:Dx (⟨Ak,Al,An,Am,Aq,As⟩:Aa)=r1
 refine .dd hP (My Ay Av A3 A5 hd aa) ?_
 conv=>cbv
 have e:r1=Er (⟨Ak,Al,An,Am,Aq,As⟩:Aa):=(by unfold Er;exact aa.symm)
 rw[hr]at e
 subst e
 exact hQ _ _ (.i rfl rfl)
end
section
open Go Go.Proofs
set_option maxRecDepth 20000
set_option maxHeartbeats 4000000
def Z8:List (Nat×TyRow):=[ty3,ty9,XhS,Zy,Xb9,Xb7,Z9]
theorem Xas:B3 Tryz.prog Z8:=B3.of (by kernel_rfl)
theorem Og:Setup Tryz.prog Z8:=⟨Xas,mixed⟩
def Xdi(l:List Int)(x:Int):Int:=V2 (fun y=>decide (y=x)) l
def Ld(l:List Int)(x:Int):Bool:=decide (x∈l)
def Ou(chain:List Int)(name:ByteArray):Bool:=decide ((Bt name).1=2∨((Bt name).1=1∧(Bt name).2∉chain))
def Es(d:Aa):List ByteArray:=(d.entries_.map fun e=>e.name_).filter (Ou (C2 d))
def Bk(name:ByteArray)(chain:List Int):Bool:=!Ou chain name
theorem Xgq(name:ByteArray):(Bt name).1=0∨(Bt name).1=1∨(Bt name).1=2:=by
 unfold Bt
 split
 ·split
  ·exact .inr (.inl rfl)
  ·split
   ·exact .inr (.inr rfl)
   ·exact .inl rfl
 ·exact .inl rfl
variable {l:List Int} {xl:List (List D)} {x:Int} {o:Bool}
theorem M0{o:Int}(hl:l.map cI=xl)(hn:l.length<2^40)(hr:Xdi l x=o):Fn Tryz.prog 231 [.d (.row 1 xl),I x] [] ⟨I o,[],[]⟩:=by
 refine Fn.go Og Tryz.func231 fun P hP Q hQ=>?_
 conv=>cbv
 refine .go hl fun v1 ac=>?_
 conv=>cbv
 refine LoopW.lp (κ:=Int) Og hP [] [0,1,7] (fun i8=>[(8,I i8)]) (fun i8=>[])
  (fun i8=>0≤i8∧i8≤l.length∧∀(j:Nat) (hj:j<l.length),j<i8.toNat→decide (l[j]=x)=false)
  (fun i8=>(l.length - i8).toNat) (0) ⟨by omega,by omega,fun j _ h=>by simp at h⟩ ⟨rfl,trivial⟩ rfl ?_
 rintro i8 J ⟨h0,h1,hb⟩ hJ
 conv=>cbv
 refine .lss (fun h2=>?_) fun h2=>?_
 conv=>cbv
 refine .go i8.toNat hl fun ab e3 aa=>?_
 conv=>cbv
 refine .eql (fun h4=>?_) fun h4=>?_
 conv=>cbv
 have e:i8=Xdi l x:=(by exact O0 (p:=fun y=>decide (y=x)) h0 (by omega) (by rw[←aa];exact decide_eq_true h4.symm) hb)
 rw[hr]at e
 subst e
 exact hQ _ _ (.i rfl rfl)
 conv=>cbv
 refine .add fun v5 ad=>?_
 conv=>cbv
 exact .go [] (v5) (hJ _ ⟨by omega,by omega,fun j hj h=>if e:j=i8.toNat then by subst e;rw[←aa];exact decide_eq_false (Ne.symm h4)else hb j hj (by omega)⟩ mlt)
 conv=>cbv
 have e:(-1)=Xdi l x:=(by exact J3 (p:=fun y=>decide (y=x)) fun j hj=>hb j hj (by omega))
 rw[hr]at e
 subst e
 exact hQ _ _ (.i rfl rfl)
theorem Lb(hl:l.map cI=xl)(hn:l.length<2^40)(hr:Ld l x=o):Fn Tryz.prog 157 [.d (.row 1 xl),I x] [] ⟨B o,[],[]⟩:=by
 refine Fn.go Og Tryz.func157 fun P hP Q hQ=>?_
 conv=>cbv
 generalize aa:Xdi l x=r1
 refine .dd hP (M0 hl (by omega) aa) ?_
 conv=>cbv
 refine .geq (fun h2=>?_) fun h2=>?_
 conv=>cbv
 have e:true=Ld l x:=(by unfold Ld;symm;rw[decide_eq_true_eq];obtain⟨hi,hp⟩:=Tt (p:=fun y=>decide (y=x)) aa h2;have hp:=of_decide_eq_true hp;rw[←hp];exact List.getElem_mem hi)
 rw[hr]at e
 subst e
 exact hQ _ _ (.b rfl rfl)
 conv=>cbv
 have e:false=Ld l x:=(by unfold Ld;symm;rw[decide_eq_false_iff_not];intro hm;have:=Xho (p:=fun y=>decide (y=x)) aa (by omega) x hm;simp at this)
 rw[hr]at e
 subst e
 exact hQ _ _ (.b rfl rfl)
theorem Oo{name:ByteArray}{chain:List Int}{xchain:List (List D)}(hchain:chain.map cI=xchain)(hs:name.size≤1000000000)(hc:chain.length<2^40)(hr:Bk name chain=o):Fn Tryz.prog 155 [S name,.ptr 0 0 0] [.box 34 [.d (.row 1 xchain)]] ⟨B o,[],[]⟩:=by
 refine Fn.goR Og Tryz.func155 fun P hP Q hQ=>?_
 conv=>cbv
 rcases aa:Bt name with⟨ad,ac⟩
 refine .dd hP (Xfe (by omega) aa) ?_
 conv=>cbv
 refine .eql (fun h2=>?_) fun h2=>?_
 conv=>cbv
 have e:true=Bk name chain:=(by unfold Bk Ou;rw[aa];dsimp only;rw[decide_eq_false (by omega)];rfl)
 rw[hr]at e
 subst e
 exact hQ _ _ (.of [] (.inl rfl) rfl rfl rfl rfl)
 conv=>cbv
 refine .eql (fun h3=>?_) fun h3=>?_
 conv=>cbv
 generalize ab:Ld chain ac=r4
 refine .dd hP (Lb hchain (by omega) ab) ?_
 cases r4
 conv=>cbv
 have e:false=Bk name chain:=(by unfold Bk Ou;rw[aa];dsimp only;rw[decide_eq_true (.inr ⟨h3,of_decide_eq_false ab⟩)];rfl)
 rw[hr]at e
 subst e
 exact hQ _ _ (.of [] (.inl rfl) rfl rfl rfl rfl)
 conv=>cbv
 have e:true=Bk name chain:=(by unfold Bk Ou;rw[aa];dsimp only;rw[decide_eq_false (by rintro(h|⟨_,h⟩);omega;exact h (of_decide_eq_true ab))];rfl)
 rw[hr]at e
 subst e
 exact hQ _ _ (.of [] (.inl rfl) rfl rfl rfl rfl)
 conv=>cbv
 have e:false=Bk name chain:=(by have hk:=Xgq name;rw[aa]at hk;dsimp only at hk;unfold Bk Ou;rw[aa];dsimp only;rw[decide_eq_true (.inl (by omega))];rfl)
 rw[hr]at e
 subst e
 exact hQ _ _ (.of [] (.inl rfl) rfl rfl rfl rfl)
theorem Xbq{Ak:List Cs}{Bj:List (List D)}{Al:List Ad}{Be:List (List D)}{An:List Ad}{Bd:List (List D)}{Am:List ByteArray}{Bf:List (List D)}{Aq:Int}{As:Int}{o:List ByteArray}{xo:List (List D)}(Ay:Ak.map B5=Bj)(Av:Al.map Ae=Be)(A3:An.map Ae=Bd)(A5:Am.map cS=Bf)(hd:okD ⟨Ak,Al,An,Am,Aq,As⟩)(hr:Es (⟨Ak,Al,An,Am,Aq,As⟩:Aa)=o)(ho:o.map cS=xo):Fn Tryz.prog 82 [.agg [.d (.row 3 Bj),.d (.row 2 Be),.d (.row 2 Bd),.d (.row 1 Bf),I Aq,I As]] [] ⟨.d (.row 1 xo),[],[]⟩:=by
 refine Fn.go Og Tryz.func82 fun P hP Q hQ=>?_
 conv=>cbv
 have bf:Al.length≤1000000000:=hd.2.2.1
 have aw:∀e∈Al,e.name_.size≤1000000000:=hd.2.2.2.1
 generalize ao:C2 (⟨Ak,Al,An,Am,Aq,As⟩:Aa)=l1
 generalize ap:l1.map cI=bg
 refine .dd hP (Pq Ay Av A3 A5 hd ao ap) ?_
 conv=>cbv
 refine LoopW.lp (κ:=Int×(List (List D))×Nat) Og hP [2] [1,4] (fun(i5,ag,ah)=>[(3,.ref 3 0 ah),(5,I i5)]) (fun(i5,ag,ah)=>[(3,.row 1 false ag)])
  (fun(i5,ag,ah)=>∃(w3:List ByteArray),w3.map cS=ag∧ah=w3.length∧0≤i5∧i5≤Al.length∧w3=((Al.take i5.toNat).map fun e=>e.name_).filter (Ou l1)∧w3.length≤i5.toNat)
  (fun(i5,ag,ah)=>Al.length - i5.toNat) (0,[],0) ⟨[],rfl,rfl,by omega,by omega,rfl,by simp⟩ ⟨rfl,rfl,trivial⟩ rfl ?_
 rintro⟨i5,ag,ah⟩ J ⟨w3,aj,a6,h0,hle,hw,hwl⟩ hJ
 conv=>cbv
 refine .go Av fun v2 bh=>?_
 conv=>cbv
 refine .lss (fun h3=>?_) fun h3=>?_
 conv=>cbv
 refine .go i5.toNat Av fun ai ⟨aa,a7⟩ ac=>?_
 conv=>cbv
 have hsz4:aa.size≤1000000000:=by have:=aw _ (List.getElem_mem ai);rw[←ac]at this;exact this
 have hle1:=Fi ao
 rcases aq:Bt aa with⟨ab,ak⟩
 refine .dd hP (Xff (by omega) aq) ?_
 conv=>cbv
 have hl:Ou l1 aa=decide (ab=2∨(ab=1∧ak∉l1)):=by unfold Ou;rw[aq]
 refine .eql (fun h6=>?_) fun h6=>?_
 conv=>cbv
 refine .go i5.toNat Av fun a8 ⟨ae,ba⟩ am=>?_
 conv=>cbv
 refine .one ae aj rfl fun ax z8 bb ay=>?_
 conv=>cbv
 refine .add fun v9 az=>?_
 conv=>cbv
 exact .go [5] (v9,z8,ax) (hJ _ ⟨_,ay,D4,by omega,by omega,by(first|rw[show v9.toNat=i5.toNat+1 by omega]|rw[show al.toNat=i5.toNat+1 by omega]|rw[show v8.toNat=i5.toNat+1 by omega]);rw[hw,List.take_succ_eq_append_getElem ai,List.map_append,List.filter_append,←ac];simp only[List.map_cons,List.map_nil,List.filter_cons,List.filter_nil,hl];first|(guard_hyp h6:ab=2;rw[decide_eq_true (.inl h6)];try rw[if_pos rfl,show ae=aa from congrArg Ad.name_ (am.trans ac.symm)])|(guard_hyp h7:ab=1;guard_hyp ad:Kz l1 ak=false;rw[decide_eq_true (.inr ⟨h7,of_decide_eq_false ad⟩),if_pos rfl,show af=aa from congrArg Ad.name_ (an.trans ac.symm)])|(guard_hyp h7:ab=1;rw[decide_eq_false (by rintro(h|⟨_,h⟩);exact h6 h;exact h (of_decide_eq_true ad))];simp)|(rw[decide_eq_false (by rintro(h|⟨h,_⟩);exact h6 h;exact h7 h)];simp),by first|omega|(rw[List.length_append,List.length_singleton];omega)⟩ mlt)
 conv=>cbv
 refine .eql (fun h7=>?_) fun h7=>?_
 conv=>cbv
 generalize ad:Kz l1 ak=r8
 refine .dd hP (XhV ap (by omega) ad) ?_
 cases r8
 conv=>cbv
 refine .go i5.toNat Av fun bc ⟨af,bd⟩ an=>?_
 conv=>cbv
 refine .one af aj rfl fun ar a1 a2 au=>?_
 conv=>cbv
 refine .add fun al be=>?_
 conv=>cbv
 exact .go [5] (al,a1,ar) (hJ _ ⟨_,au,D4,by omega,by omega,by(first|rw[show v9.toNat=i5.toNat+1 by omega]|rw[show al.toNat=i5.toNat+1 by omega]|rw[show v8.toNat=i5.toNat+1 by omega]);rw[hw,List.take_succ_eq_append_getElem ai,List.map_append,List.filter_append,←ac];simp only[List.map_cons,List.map_nil,List.filter_cons,List.filter_nil,hl];first|(guard_hyp h6:ab=2;rw[decide_eq_true (.inl h6)];try rw[if_pos rfl,show ae=aa from congrArg Ad.name_ (am.trans ac.symm)])|(guard_hyp h7:ab=1;guard_hyp ad:Kz l1 ak=false;rw[decide_eq_true (.inr ⟨h7,of_decide_eq_false ad⟩),if_pos rfl,show af=aa from congrArg Ad.name_ (an.trans ac.symm)])|(guard_hyp h7:ab=1;rw[decide_eq_false (by rintro(h|⟨_,h⟩);exact h6 h;exact h (of_decide_eq_true ad))];simp)|(rw[decide_eq_false (by rintro(h|⟨h,_⟩);exact h6 h;exact h7 h)];simp),by first|omega|(rw[List.length_append,List.length_singleton];omega)⟩ mlt)
 conv=>cbv
 refine .add fun v9 az=>?_
 conv=>cbv
 exact .go [3] (v9,ag,ah) (hJ _ ⟨_,aj,D4,by omega,by omega,by(first|rw[show v9.toNat=i5.toNat+1 by omega]|rw[show al.toNat=i5.toNat+1 by omega]|rw[show v8.toNat=i5.toNat+1 by omega]);rw[hw,List.take_succ_eq_append_getElem ai,List.map_append,List.filter_append,←ac];simp only[List.map_cons,List.map_nil,List.filter_cons,List.filter_nil,hl];first|(guard_hyp h6:ab=2;rw[decide_eq_true (.inl h6)];try rw[if_pos rfl,show ae=aa from congrArg Ad.name_ (am.trans ac.symm)])|(guard_hyp h7:ab=1;guard_hyp ad:Kz l1 ak=false;rw[decide_eq_true (.inr ⟨h7,of_decide_eq_false ad⟩),if_pos rfl,show af=aa from congrArg Ad.name_ (an.trans ac.symm)])|(guard_hyp h7:ab=1;rw[decide_eq_false (by rintro(h|⟨_,h⟩);exact h6 h;exact h (of_decide_eq_true ad))];simp)|(rw[decide_eq_false (by rintro(h|⟨h,_⟩);exact h6 h;exact h7 h)];simp),by first|omega|(rw[List.length_append,List.length_singleton];omega)⟩ mlt)
 conv=>cbv
 refine .add fun v8 bi=>?_
 conv=>cbv
 exact .go [3] (v8,ag,ah) (hJ _ ⟨_,aj,D4,by omega,by omega,by(first|rw[show v9.toNat=i5.toNat+1 by omega]|rw[show al.toNat=i5.toNat+1 by omega]|rw[show v8.toNat=i5.toNat+1 by omega]);rw[hw,List.take_succ_eq_append_getElem ai,List.map_append,List.filter_append,←ac];simp only[List.map_cons,List.map_nil,List.filter_cons,List.filter_nil,hl];first|(guard_hyp h6:ab=2;rw[decide_eq_true (.inl h6)];try rw[if_pos rfl,show ae=aa from congrArg Ad.name_ (am.trans ac.symm)])|(guard_hyp h7:ab=1;guard_hyp ad:Kz l1 ak=false;rw[decide_eq_true (.inr ⟨h7,of_decide_eq_false ad⟩),if_pos rfl,show af=aa from congrArg Ad.name_ (an.trans ac.symm)])|(guard_hyp h7:ab=1;rw[decide_eq_false (by rintro(h|⟨_,h⟩);exact h6 h;exact h (of_decide_eq_true ad))];simp)|(rw[decide_eq_false (by rintro(h|⟨h,_⟩);exact h6 h;exact h7 h)];simp),by first|omega|(rw[List.length_append,List.length_singleton];omega)⟩ mlt)
 conv=>cbv
 have e:w3=Es (⟨Ak,Al,An,Am,Aq,As⟩:Aa):=(by unfold Es;rw[ao,hw,List.take_of_length_le (by omega)])
 rw[hr]at e
 subst e
 exact hQ _ _ (.r rfl rfl (by rw[←aj,List.length_map];first|omega|(simp;omega)) (by rw[←aj,←ho]))
end
section
open Go Go.Proofs
set_option maxRecDepth 20000
set_option maxHeartbeats 4000000
def Xap:List (Nat×TyRow):=[ty3,ty9,XhS,Zy,Xb9,Xb7,XkM,Z9,XgE]
theorem Xbc:B3 Tryz.prog Xap:=B3.of (by kernel_rfl)
theorem I8:Setup Tryz.prog Xap:=⟨Xbc,mixed⟩
theorem XjQ{α:Type}{p:α→Bool}{l:List α}{i:Int}(e:V2 p l=i)(h:i≠-1):0≤i∧i<l.length∧l.take i.toNat=(l.take (i+1).toNat).filter (fun x=>!p x):=by
 have hb:=Xf3 e
 have h0:0≤i:=by omega
 obtain⟨hi,hp⟩:=Tt e h0
 refine⟨h0,hb.2,?_⟩
 rw[show(i+1).toNat=i.toNat+1 by omega,List.take_succ_eq_append_getElem hi,List.filter_append]
 have h1:(l.take i.toNat).filter (fun x=>!p x)=l.take i.toNat:=by
  rw[List.filter_eq_self]
  intro x hx
  obtain⟨j,hj,rfl⟩:=List.getElem_of_mem hx
  have aa:j<i.toNat:=by have:=hj;rw[List.length_take]at this;omega
  rw[List.getElem_take]
  have e2:l.findIdx p=i.toNat:=by
   unfold V2 at e
   split at e<;>omega
  have:=List.not_of_lt_findIdx (p:=p) (xs:=l) (i:=j) (by omega)
  simpa using this
 rw[h1]
 simp[hp]
theorem Xj7{α:Type}{p:α→Bool}{l w:List α}{i j:Nat}(hj:j<l.length)(hij:i<j)(hl:w.length=l.length)(h1:w.take i=(l.take j).filter (fun x=>!p x))(h2:w.drop j=l.drop j)(hp:p l[j]=false):
  (w.set i l[j]).take (i+1)=(l.take (j+1)).filter (fun x=>!p x)∧(w.set i l[j]).drop (j+1)=l.drop (j+1):=by
 constructor
 ·rw[List.take_succ_eq_append_getElem (by rw[List.length_set];omega),List.take_set_of_le (Nat.le_refl i),h1,List.take_succ_eq_append_getElem hj,List.filter_append]
  simp[hp]
 ·rw[List.drop_set_of_lt (by omega),←List.drop_drop,←List.drop_drop,h2]
theorem Xj5{α:Type}{p:α→Bool}{l w:List α}{i j:Nat}(hj:j<l.length)(h1:w.take i=(l.take j).filter (fun x=>!p x))(h2:w.drop j=l.drop j)(hp:p l[j]=true):
  w.take i=(l.take (j+1)).filter (fun x=>!p x)∧w.drop (j+1)=l.drop (j+1):=by
 constructor
 ·rw[List.take_succ_eq_append_getElem hj,List.filter_append,h1]
  simp[hp]
 ·rw[←List.drop_drop,←List.drop_drop,h2]
theorem df_at{α:Type}{l w:List α}{j:Nat}(hj:j<w.length)(aa:j<l.length)(h2:w.drop j=l.drop j):w[j]=l[j]:=by
 have:=congrArg (·[0]?) h2
 simpa[hj,aa]using this
theorem Xkz{α:Type}{c:α→List D}{w o:List α}{z:α}{i n:Nat}{x:List (List D)}(hn:n=w.length - i)(hi:i≤w.length)(ho:w.take i=o)(h:(w.take i++(List.replicate n z++w.drop (i+n))).map c=x):i=o.length∧(o++List.replicate (w.length - o.length) z).map c=x:=by
 have h1:i=o.length:=by rw[←ho,List.length_take];omega
 refine⟨h1,?_⟩
 rw[←h,ho,List.drop_of_length_le (by omega),List.append_nil,hn,h1]
def D7(l:List ByteArray)(chain:List Int):Int:=V2 (fun x=>Bk x chain) l
variable {l o Am:List ByteArray} {xl xchain Bj Be Bd Bf xo:List (List D)} {nl no:Nat} {chain:List Int} {Ak:List Cs} {Al An:List Ad} {Aq As:Int}
theorem Lm{o:Int}(hl:l.map cS=xl)(hnl:nl=l.length)(hchain:chain.map cI=xchain)(hn:l.length<2^40)(hc:chain.length<2^40)(hel:∀x∈l,x.size≤1000000000)(hr:D7 l chain=o):Fn Tryz.prog 228 [.ref 0 0 nl,.clo 155 [.ptr 1 0 0]] [.row 1 false xl,.box 34 [.d (.row 1 xchain)]] ⟨I o,[],[]⟩:=by
 refine Fn.goR I8 Tryz.func228 fun P hP Q hQ=>?_
 conv=>cbv
 refine .go fun v1 af=>?_
 conv=>cbv
 refine LoopW.lp (κ:=Int) I8 hP [] [0,1,7] (fun i8=>[(8,I i8)]) (fun i8=>[])
  (fun i8=>0≤i8∧i8≤l.length∧∀(j:Nat) (hj:j<l.length),j<i8.toNat→Bk l[j] chain=false)
  (fun i8=>(l.length - i8).toNat) (0) ⟨by omega,by omega,fun j _ h=>by simp at h⟩ ⟨rfl,trivial⟩ rfl ?_
 rintro i8 J ⟨h0,h1,hb⟩ hJ
 conv=>cbv
 refine .lss (fun h2=>?_) fun h2=>?_
 conv=>cbv
 refine .go i8.toNat fun p3 ac ad=>?_
 conv=>cbv
 refine .go hl fun ae e4 aa=>?_
 conv=>cbv
 subst ac
 generalize ab:Bk e4 chain=r5
 refine .bx [1] [] hP (Oo hchain (hel e4 (aa▸List.getElem_mem _)) hc ab) rfl rfl rfl rfl ?_
 cases r5
 conv=>cbv
 refine .add fun v6 ag=>?_
 conv=>cbv
 exact .go [] (v6) (hJ _ ⟨by omega,by omega,fun j hj h=>if e:j=i8.toNat then by subst e;rw[←aa];exact ab else hb j hj (by omega)⟩ mlt)
 conv=>cbv
 have e:i8=D7 l chain:=(by exact O0 (p:=fun x=>Bk x chain) h0 (by omega) (by rw[←aa];exact ab) hb)
 rw[hr]at e
 subst e
 exact hQ _ _ (.of [] (.inl rfl) rfl rfl rfl rfl)
 conv=>cbv
 have e:(-1)=D7 l chain:=(by exact J3 (p:=fun x=>Bk x chain) fun j hj=>hb j hj (by omega))
 rw[hr]at e
 subst e
 exact hQ _ _ (.of [] (.inl rfl) rfl rfl rfl rfl)
def Dy(l:List ByteArray)(chain:List Int):List ByteArray:=l.filter (fun x=>!Bk x chain)
theorem K8{xf:List (List D)}(hl:l.map cS=xl)(hnl:nl=l.length)(hchain:chain.map cI=xchain)(hn:l.length<2^40)(hc:chain.length<2^40)(hel:∀x∈l,x.size≤1000000000)(hr:Dy l chain=o)(hf:(o++List.replicate (l.length - o.length) (tx [])).map cS=xf)(hno:no=o.length):Fn Tryz.prog 154 [.ref 0 0 nl,.clo 155 [.ptr 1 0 0]] [.row 1 false xl,.box 34 [.d (.row 1 xchain)]] ⟨.ref 0 0 no,[],[(0,.row 1 false xf)]⟩:=by
 refine Fn.goR I8 Tryz.func154 fun P hP Q hQ=>?_
 conv=>cbv
 generalize ad:D7 l chain=r1
 refine .bx [0,1] [] hP (Lm hl (by first|rfl|omega|(simp;omega)) hchain hn hc hel ad) rfl rfl rfl rfl ?_
 conv=>cbv
 refine .eql (fun h2=>?_) fun h2=>?_
 conv=>cbv
 have e:l=o:=by rw[←hr];unfold Dy;symm;rw[List.filter_eq_self];intro x hx;rw[Xho (p:=fun x=>Bk x chain) ad (by omega) x hx];rfl
 subst e
 obtain rfl:xl=xf:=by rw[←hl,←hf];simp
 obtain rfl:nl=no:=by omega
 exact hQ _ _ (.of [] (.inl rfl) rfl rfl rfl rfl)
 conv=>cbv
 have hd:=XjQ (p:=fun x=>Bk x chain) ad h2
 refine .add fun v3 aj=>?_
 conv=>cbv
 refine LoopW.lp (κ:=Int×Int×(List (List D))) I8 hP [] [0,1] (fun(i5,i6,aa)=>[(5,I i5),(6,I i6)]) (fun(i5,i6,aa)=>[(0,.row 1 false aa)])
  (fun(i5,i6,aa)=>∃(w0:List ByteArray),w0.map cS=aa∧(0≤i5∧i5<i6∧i6≤l.length)∧w0.length=l.length∧w0.take i5.toNat=(l.take i6.toNat).filter (fun x=>!Bk x chain)∧w0.drop i6.toNat=l.drop i6.toNat)
  (fun(i5,i6,aa)=>(l.length - i6).toNat) (r1,v3,xl) ⟨l,hl,by omega,rfl,by rw[hd.2.2,aj],rfl⟩ ⟨rfl,rfl,trivial⟩ rfl ?_
 rintro⟨i5,i6,aa⟩ J ⟨w0,ab,hb,hwl,hwt,hwd⟩ hJ
 conv=>cbv
 refine .go fun v4 aw=>?_
 conv=>cbv
 refine .lss (fun h5=>?_) fun h5=>?_
 conv=>cbv
 refine .go i6.toNat fun p6 ak ap=>?_
 conv=>cbv
 refine .go ab fun ag e7 al=>?_
 conv=>cbv
 subst ak
 have ac:e7=l[i6.toNat]:=al.trans (df_at ag (by omega) hwd)
 generalize ae:Bk e7 chain=r8
 refine .bx [1] [] hP (Oo hchain (hel e7 (by rw[ac];exact List.getElem_mem _)) hc ae) rfl rfl rfl rfl ?_
 cases r8
 conv=>cbv
 refine .go i5.toNat fun p9 am aq=>?_
 conv=>cbv
 refine .all (e7) ab rfl fun an ah=>?_
 conv=>cbv
 refine .add fun ai ar=>?_
 conv=>cbv
 refine .add fun af au=>?_
 conv=>cbv
 have hk:=Xj7 (i:=i5.toNat) (p:=fun x=>Bk x chain) (show i6.toNat<l.length by omega) (by omega) hwl hwt hwd (by rw[←ac];exact ae)
 rw[←ac]at hk
 subst am
 exact .go [] (ai,af,an) (hJ _ ⟨_,ah,by omega,by rw[List.length_set];exact hwl,by rw[show ai.toNat=i5.toNat+1 by omega,show af.toNat=i6.toNat+1 by omega];exact hk.1,by rw[show af.toNat=i6.toNat+1 by omega];exact hk.2⟩ mlt)
 conv=>cbv
 refine .add fun v9 ax=>?_
 conv=>cbv
 have hk:=Xj5 (p:=fun x=>Bk x chain) (show i6.toNat<l.length by omega) hwt hwd (by rw[←ac];exact ae)
 exact .go [] (i5,v9,aa) (hJ _ ⟨_,ab,by omega,hwl,by rw[show v9.toNat=i6.toNat+1 by omega];exact hk.1,by rw[show v9.toNat=i6.toNat+1 by omega];exact hk.2⟩ mlt)
 conv=>cbv
 refine .lo fun on6 n6 hon6 ay=>?_
 conv=>cbv
 refine .go (tx []) hP ab Tryz.underlying26 (by kernel_rfl) rfl fun z7 ao=>?_
 conv=>cbv
 refine .hi fun on8 n8 hon8 az=>?_
 conv=>cbv
 have e:w0.take on6=o:=by rw[hon6,Nat.zero_add,hwt,List.take_of_length_le (by omega),←hr];rfl
 obtain⟨e1,e2⟩:=Xkz (by omega) (by omega) e ao
 rw[hwl,hf]at e2
 subst e2
 obtain rfl:n8=no:=by omega
 subst hon8
 exact hQ _ _ (.of [] (.inl rfl) rfl rfl rfl rfl)
def Ob(d:Aa):List ByteArray:=d.entries_.map fun e=>e.name_
theorem XjK{o:List Int}(Ay:Ak.map B5=Bj)(Av:Al.map Ae=Be)(A3:An.map Ae=Bd)(A5:Am.map cS=Bf)(hd:okD ⟨Ak,Al,An,Am,Aq,As⟩)(hr:C2 (⟨Ak,Al,An,Am,Aq,As⟩:Aa)=o)(ho:o.map cI=xo):Fn Tryz.prog 153 [.agg [.d (.row 3 Bj),.d (.row 2 Be),.d (.row 2 Bd),.d (.row 1 Bf),I Aq,I As]] [] ⟨.d (.row 1 xo),[],[]⟩:=by
 refine Fn.go I8 Tryz.func153 fun P hP Q hQ=>?_
 conv=>cbv
 generalize an:G0 (⟨Ak,Al,An,Am,Aq,As⟩:Aa)=l1
 generalize ao:l1.map XaP=ba
 refine .dd hP (Sd Ay Av A3 A5 hd an ao) ?_
 conv=>cbv
 refine .go ao fun v2 bb=>?_
 conv=>cbv
 refine LoopW.lp (κ:=Int×(List (List D))×Nat) I8 hP [2] [8,9] (fun(aa,ah,ai)=>[(3,.ref 3 0 ai),(10,I aa)]) (fun(aa,ah,ai)=>[(3,.row 1 false ah)])
  (fun(aa,ah,ai)=>∃(w3:List Int),w3.map cI=ah∧ai=w3.length∧0≤aa∧aa≤l1.length∧w3=(l1.take aa.toNat).map fun x=>x.base_)
  (fun(aa,ah,ai)=>(l1.length - aa).toNat) (0,[],0) ⟨[],rfl,rfl,by omega,by omega,by simp⟩ ⟨rfl,rfl,trivial⟩ rfl ?_
 rintro⟨aa,ah,ai⟩ J ⟨w3,ap,a6,h0,h1,hw⟩ hJ
 have a7:=Ju an
 have hwl:w3.length=aa.toNat:=by rw[hw,List.length_map,List.length_take];omega
 conv=>cbv
 refine .lss (fun h3=>?_) fun h3=>?_
 conv=>cbv
 refine .goX aa.toNat ao fun ay ⟨al,aq,⟨am,⟨ad,ae,af,ag⟩,ab,ac,aj,ak⟩⟩ fe4 az hfe4=>?_
 replace hfe4:[.sc (.int .i64 al),.sc (.string aq),.sc (.bool am),.sc (.int .i64 ad),.sc (.int .i64 ae),.sc (.int .i64 af),.sc (.int .i64 ag),.row 1 (ab.map cS),.row 1 (ac.map cI),.sc (.int .i64 aj),.sc (.bool ak)]=fe4:=hfe4
 generalize ar:ab.map cS=au at hfe4
 generalize aw:ac.map cI=ax at hfe4
 subst hfe4
 conv=>cbv
 refine .one al ap rfl fun a1 z5 a8 a2=>?_
 conv=>cbv
 refine .add fun v6 bc=>?_
 conv=>cbv
 exact .go [8] (v6,z5,a1) (hJ _ ⟨_,a2,D4,by omega,by omega,by rw[hw,show v6.toNat=aa.toNat+1 by omega,Xeo ay,←az]⟩ mlt)
 conv=>cbv
 have e:w3=C2 (⟨Ak,Al,An,Am,Aq,As⟩:Aa):=(by unfold C2;rw[an,hw,List.take_of_length_le (by omega)])
 rw[hr]at e
 subst e
 exact hQ _ _ (.r rfl rfl (by rw[←ap,List.length_map];first|omega|(simp;omega)) (by rw[←ap,←ho]))
theorem Xag(Ay:Ak.map B5=Bj)(Av:Al.map Ae=Be)(A3:An.map Ae=Bd)(A5:Am.map cS=Bf)(am:Al.length≤1000000000)(hr:Ob (⟨Ak,Al,An,Am,Aq,As⟩:Aa)=o)(ho:o.map cS=xo)(hno:no=o.length):Fn Tryz.prog 92 [.agg [.d (.row 3 Bj),.d (.row 2 Be),.d (.row 2 Bd),.d (.row 1 Bf),I Aq,I As]] [] ⟨.ref 0 0 no,[.row 1 false xo],[]⟩:=by
 refine Fn.goR I8 Tryz.func92 fun P hP Q hQ=>?_
 conv=>cbv
 refine .go Av fun v1 an=>?_
 conv=>cbv
 refine LoopW.lp (κ:=Int×(List (List D))×Nat) I8 hP [2] [8,9] (fun(aa,ab,ac)=>[(3,.ref 3 0 ac),(10,I aa)]) (fun(aa,ab,ac)=>[(3,.row 1 false ab)])
  (fun(aa,ab,ac)=>∃(w3:List ByteArray),w3.map cS=ab∧ac=w3.length∧0≤aa∧aa≤Al.length∧w3=(Al.take aa.toNat).map (fun e=>e.name_)∧w3.length=aa.toNat)
  (fun(aa,ab,ac)=>Al.length - aa.toNat) (0,[],0) ⟨[],rfl,rfl,by omega,by omega,rfl,rfl⟩ ⟨rfl,rfl,trivial⟩ rfl ?_
 rintro⟨aa,ab,ac⟩ J ⟨w3,ae,aj,h0,hle,hw,hwl⟩ hJ
 conv=>cbv
 refine .lss (fun h2=>?_) fun h2=>?_
 conv=>cbv
 refine .go aa.toNat Av fun af ⟨ad,ak⟩ ag=>?_
 conv=>cbv
 refine .one ad ae rfl fun ah z4 al ai=>?_
 conv=>cbv
 refine .add fun v5 ao=>?_
 conv=>cbv
 exact .go [6] (v5,z4,ah) (hJ _ ⟨_,ai,D4,by omega,by omega,by rw[hw,show v5.toNat=aa.toNat+1 by omega,List.take_succ_eq_append_getElem af,List.map_append,←ag];rfl,by rw[List.length_append,hwl];simp;omega⟩ mlt)
 conv=>cbv
 have e:w3=Ob (⟨Ak,Al,An,Am,Aq,As⟩:Aa):=(by unfold Ob;rw[hw,List.take_of_length_le (by omega)])
 rw[hr]at e
 subst e
 obtain rfl:ab=xo:=by rw[←ae,←ho]
 obtain rfl:ac=no:=by first|omega|(rw[hno];simp;done)|(rw[hno];simp;omega)
 exact hQ _ _ (.of [3] (.inl rfl) rfl rfl rfl rfl)
theorem Xad(Ay:Ak.map B5=Bj)(Av:Al.map Ae=Be)(A3:An.map Ae=Bd)(A5:Am.map cS=Bf)(hd:okD ⟨Ak,Al,An,Am,Aq,As⟩)(hr:Es (⟨Ak,Al,An,Am,Aq,As⟩:Aa)=o)(ho:o.map cS=xo):Fn Tryz.prog 78 [.agg [.d (.row 3 Bj),.d (.row 2 Be),.d (.row 2 Bd),.d (.row 1 Bf),I Aq,I As]] [] ⟨.d (.row 1 xo),[],[]⟩:=by
 refine Fn.go I8 Tryz.func78 fun P hP Q hQ=>?_
 conv=>cbv
 have ah:Al.length≤1000000000:=hd.2.2.1
 have ai:∀e∈Al,e.name_.size≤1000000000:=hd.2.2.2.1
 generalize ab:C2 (⟨Ak,Al,An,Am,Aq,As⟩:Aa)=l1
 generalize ae:l1.map cI=al
 refine .dd hP (XjK Ay Av A3 A5 hd ab ae) ?_
 conv=>cbv
 generalize af:Ob (⟨Ak,Al,An,Am,Aq,As⟩:Aa)=l2
 generalize ac:l2.map cS=am
 obtain⟨nl2,hnl2⟩:∃m,m=l2.length:=⟨_,rfl⟩
 refine .ddA hP (Xag Ay Av A3 A5 ah af ac hnl2) rfl rfl rfl (ac▸Xd6 (fun _=>rfl) l2) ?_
 conv=>cbv
 have aj:=Fi ab
 have aa:l2=Al.map (fun e=>e.name_):=af.symm
 have ak:l2.length=Al.length:=by rw[aa,List.length_map]
 have hel:∀x∈l2,x.size≤1000000000:=by rw[aa];intro x hx;obtain⟨y,hy,rfl⟩:=List.mem_map.1 hx;exact ai y hy
 generalize ag:Dy l2 l1=l3
 generalize ad:(l3++List.replicate (l2.length - l3.length) (tx [])).map cS=an
 obtain⟨nl3,hnl3⟩:∃m,m=l3.length:=⟨_,rfl⟩
 refine .bx [4,3] [] hP (K8 ac (by first|rfl|omega|(simp;omega)) ae (by omega) (by omega) hel ag ad hnl3) rfl rfl rfl rfl ?_
 conv=>cbv
 have e:l3=Es (⟨Ak,Al,An,Am,Aq,As⟩:Aa):=by
  rw[←ag,aa]
  unfold Es Dy Bk
  rw[ab]
  simp only[Bool.not_not]
 rw[hr]at e
 subst e
 exact hQ _ _ (.rs rfl rfl (by rw[←ad,hnl3];simp) (by rw[←ad,←ho,hnl3];simp))
theorem Xhr{d:Aa}{l:List ByteArray}(hd:okD d)(e:Es d=l):l.length≤1000000000:=by
 rw[←e]
 unfold Es
 have:=List.length_filter_le (Ou (C2 d)) (d.entries_.map fun e=>e.name_)
 rw[List.length_map]at this
 have:=hd.2.2.1
 omega
end
section
open Go Go.Proofs
set_option maxRecDepth 20000
set_option maxHeartbeats 4000000
end
section
open Go Go.Proofs
set_option maxRecDepth 20000
set_option maxHeartbeats 4000000
theorem G8{α:Type}{p:α→Bool}{l:List α}{k:Nat}(h:k<l.length):(l.take (k+1)).filter p=(l.take k).filter p++(if p l[k]then[l[k]]else[]):=by
 rw[List.take_succ_eq_append_getElem h,List.filter_append,List.filter_cons,List.filter_nil]
end
section
open Go Go.Proofs
set_option maxRecDepth 20000
set_option maxHeartbeats 4000000
def Xbn:List (Nat×TyRow):=[ty3,ty5,ty9,XhT,Xb7]
theorem Xb5:B3 Tryz.prog Xbn:=B3.of (by kernel_rfl)
theorem To:Setup Tryz.prog Xbn:=⟨Xb5,mixed⟩
def fig(x:Int):UInt8:=UInt8.ofNat (if x<10 then 48+x.toNat else 87+x.toNat)
def E3(x:Int):Int:=(if x<10 then 48+x else 97+x - 10)% 256
theorem Xf5{x:Int}(h:0≤x∧x<16):((fig x).toNat:Int)=E3 x:=by
 unfold fig E3
 split
 ·rw[UInt8.toNat_ofNat',Nat.mod_eq_of_lt (by omega)];omega
 ·rw[UInt8.toNat_ofNat',Nat.mod_eq_of_lt (by omega)];omega
theorem Xeu{x r:Int}(hr:E3 x=r)(h:0≤x∧x<16):[D.sc (.int .u8 r)]=cB (fig x):=by
 show _=[D.sc (.int .u8 ((fig x).toNat:Int))]
 rw[Xf5 h,hr]
theorem fig10(n:Nat):fig ((n% 10:Nat):Int)=UInt8.ofNat (48+n% 10):=by
 unfold fig
 rw[if_pos (by omega),Int.toNat_natCast]
theorem Hj:∀(k u:Nat),u<10^ (k+1)→1≤(Lib.decDigits u).length∧(Lib.decDigits u).length≤k+1
 |0,u,h=>by rw[Lib.decDigits,dif_pos (by simpa using h)];simp
 |k+1,u,h=>by
  by_cases hn:u<10
  ·rw[Lib.decDigits,dif_pos hn];simp
  ·rw[Lib.decDigits,dif_neg hn]
   have:=Hj k (u/10) (by rw[Nat.pow_succ]at h;omega)
   simp;omega
def Xgr(n:Nat):List UInt8:=if n=0 then[]else Lib.decDigits n
theorem Ra{n:Nat}(h:n≠0):Xgr n=Xgr (n/10)++[fig ((n% 10:Nat):Int)]:=by
 unfold Xgr
 rw[if_neg h,Lib.decDigits,fig10]
 split
 ·rw[if_pos (by omega),Nat.mod_eq_of_lt (by omega)];rfl
 ·rw[if_neg (by omega)]
theorem XdJ{u:Nat}(h:u≤9223372036854775808):(Xgr u).length≤19:=by
 unfold Xgr
 split
 ·simp
 ·exact(Hj 18 u (by omega)).2
abbrev Xfw(n:Int):Prop:=-9223372036854775808≤n∧n≤9223372036854775807
def Cy(n:Int):ByteArray:=tx (Lib.itoa n)
theorem XgF(n:Int)(h:n≠0):Lib.itoa n=(if n<0 then[45]else[])++Xgr n.natAbs:=by
 unfold Lib.itoa Xgr
 rw[if_neg (show¬n.natAbs=0 by omega)]
 split
 ·rfl
 ·rw[show n.toNat=n.natAbs by omega];rfl
theorem XiJ{n:Int}(h:Xfw n):1≤(Lib.itoa n).length∧(Lib.itoa n).length≤20:=by
 unfold Xfw at h
 unfold Lib.itoa
 split
 ·have:=Hj 18 n.natAbs (by omega)
  simp;omega
 ·have:=Hj 18 n.toNat (by omega)
  omega
theorem Ww{n:Int}{o:ByteArray}(e:Cy n=o)(h:Xfw n):1≤o.size∧o.size≤20:=by
 rw[←e]
 unfold Cy
 rw[A4]
 exact XiJ h
theorem ArW.quoT{K:Int→Prop}{a:Int}(h:∀v,v=a.tdiv 10→K v)(hr: -9223372036854775808≤a∧a<9223372036854775808:=by omega):ArW .quo .i64 .i64 a 10 K:=by
 refine⟨a.tdiv 10,?_,h _ rfl⟩
 show(if(10:Int)=0 then none else some (Value.int .i64 (IntKind.i64.wrap (a.tdiv 10))))=_
 rw[if_neg (by decide),Rz]
 rcases Int.le_total 0 a with h0|h0
 ·rw[Int.tdiv_eq_ediv_of_nonneg h0];omega
 ·have:a.tdiv 10= -((-a)/10):=by rw[←Int.tdiv_eq_ediv_of_nonneg (by omega),Int.neg_tdiv];omega
  omega
theorem ArW.remT{K:Int→Prop}{k:IntKind}{a:Int}(h:∀v,v=a.tmod 10→K v):ArW .rem k k a 10 K:=by
 refine⟨a.tmod 10,?_,h _ rfl⟩
 show(if k=k then(if(10:Int)=0 then none else some (Value.int k (a.tmod 10)))else none)=_
 rw[if_pos rfl,if_neg (by decide)]
theorem XkT{a:Int}{q:Nat}(h:a= -(q:Int)):a.tdiv 10= -((q/10:Nat):Int):=by
 subst h
 rw[Int.neg_tdiv,Int.tdiv_eq_ediv_of_nonneg (by omega)]
 omega
theorem XkB{a:Int}{q:Nat}(h:a= -(q:Int)):a.tmod 10= -((q% 10:Nat):Int):=by
 subst h
 rw[Int.neg_tmod,Int.tmod_eq_emod_of_nonneg (by omega)]
 omega
theorem XkW{a:Int}{q:Nat}(h:a=(q:Int)):a.tdiv 10=((q/10:Nat):Int):=by
 subst h
 rw[Int.tdiv_eq_ediv_of_nonneg (by omega)]
 omega
theorem XkJ{a:Int}{q:Nat}(h:a=(q:Int)):a.tmod 10=((q% 10:Nat):Int):=by
 subst h
 rw[Int.tmod_eq_emod_of_nonneg (by omega)]
 omega
theorem Lw{x:Int}{o:Int}(hx:0≤x∧x<16)(hr:E3 x=o):Fn Tryz.prog 189 [I x] [] ⟨.d (.sc (.int .u8 o)),[],[]⟩:=by
 refine Fn.go To Tryz.func189 fun P hP Q hQ=>?_
 conv=>cbv
 refine .lss (fun h1=>?_) fun h1=>?_
 conv=>cbv
 refine .add fun v2 aa=>?_
 conv=>cbv
 refine .go fun v3 ab=>?_
 conv=>cbv
 have e:v3=E3 x:=(by rw[ab,G9,aa];unfold E3;rw[if_pos (by omega)])
 rw[hr]at e
 subst e
 exact hQ _ _ (.i rfl rfl)
 conv=>cbv
 refine .add fun v2 aa=>?_
 conv=>cbv
 refine .sub fun v3 ab=>?_
 conv=>cbv
 refine .go fun v4 ac=>?_
 conv=>cbv
 have e:v4=E3 x:=(by rw[ac,G9,ab,aa];unfold E3;rw[if_neg (by omega)])
 rw[hr]at e
 subst e
 exact hQ _ _ (.i rfl rfl)
theorem Xa0{n:Int}{o:ByteArray}(hn:Xfw n)(hr:Cy n=o):Fn Tryz.prog 101 [I n] [] ⟨S o,[],[]⟩:=by
 refine Fn.go To Tryz.func101 fun P hP Q hQ=>?_
 conv=>cbv
 refine .eql (fun h1=>?_) fun h1=>?_
 conv=>cbv
 have e:(tx [48])=Cy n:=(by unfold Cy;rw[h1,show Lib.itoa 0=[48]by unfold Lib.itoa;rw[if_neg (by decide),Lib.decDigits];rfl])
 rw[hr]at e
 subst e
 exact hQ _ _ (.s rfl rfl)
 conv=>cbv
 refine .lss (fun h2=>?_) fun h2=>?_
 conv=>cbv
 refine LoopW.lp (κ:=Int×ByteArray) To hP [] [3] (fun(i0,s4)=>[(0,I i0),(4,S s4)]) (fun(i0,s4)=>[])
  (fun(i0,s4)=>∃(q:Nat) (w:List UInt8),s4=tx w∧Xgr n.natAbs=Xgr q++w∧q≤n.natAbs∧(n<0→i0= -(q:Int))∧(0≤n→i0=(q:Int)))
  (fun(i0,s4)=>i0.natAbs) (n,tx []) ⟨n.natAbs,[],rfl,by simp,by omega,by omega,by omega⟩ ⟨rfl,rfl,trivial⟩ rfl ?_
 rintro⟨i0,s4⟩ J ⟨q,w,aa,hw,hq,hiN,hiP⟩ hJ
 have hwl:=congrArg List.length hw
 rw[List.length_append]at hwl
 have hdl:=XdJ (u:=n.natAbs) (by unfold Xfw at hn;omega)
 have ai:s4.size=w.length:=by rw[aa,A4]
 have et:(n<0→i0.tdiv 10= -((q/10:Nat):Int))∧(0≤n→i0.tdiv 10=((q/10:Nat):Int)):=⟨fun h=>XkT (hiN h),fun h=>XkW (hiP h)⟩
 have em:(n<0→i0.tmod 10= -((q% 10:Nat):Int))∧(0≤n→i0.tmod 10=((q% 10:Nat):Int)):=⟨fun h=>XkB (hiN h),fun h=>XkJ (hiP h)⟩
 have hn_:=hn
 unfold Xfw at hn_
 conv=>cbv
 refine .neq (fun h3=>?_) fun h3=>?_
 conv=>cbv
 refine .remT fun v4 ak=>?_
 conv=>cbv
 refine .lss (fun h5=>?_) fun h5=>?_
 conv=>cbv
 refine .go fun v6 al=>?_
 conv=>cbv
 generalize ad:E3 v6=r7
 refine .dd hP (Lw (by omega) ad) ?_
 conv=>cbv
 refine .go (l:=[fig ((q% 10:Nat):Int)]) (by show[cB (fig _)]=_;rw[show((q% 10:Nat):Int)=v6 by omega,←Xeu ad (by omega)]) (hn:=rfl) fun s8 ab=>?_
 conv=>cbv
 have ag:s8.size=1:=by rw[ab];rfl
 refine .go fun s9 ae am=>?_
 conv=>cbv
 refine .quoT fun ah aj=>?_
 conv=>cbv
 exact .go [] (ah,s9) (hJ _ ⟨q/10,fig ((q% 10:Nat):Int)::w,by first|(rw[ae,ab,aa,C6];rfl)|(rw[ab,ac,aa,C6];rfl),by rw[hw,Ra (show q≠0 by omega),List.append_assoc];rfl,by omega,by omega,by omega⟩ mlt)
 conv=>cbv
 generalize af:E3 v4=r6
 refine .dd hP (Lw (by omega) af) ?_
 conv=>cbv
 refine .go (l:=[fig ((q% 10:Nat):Int)]) (by show[cB (fig _)]=_;rw[show((q% 10:Nat):Int)=v4 by omega,←Xeu af (by omega)]) (hn:=rfl) fun s7 ac=>?_
 conv=>cbv
 have an:s7.size=1:=by rw[ac];rfl
 refine .go fun s8 ab ag=>?_
 conv=>cbv
 refine .quoT fun v9 ao=>?_
 conv=>cbv
 exact .go [] (v9,s8) (hJ _ ⟨q/10,fig ((q% 10:Nat):Int)::w,by first|(rw[ae,ab,aa,C6];rfl)|(rw[ab,ac,aa,C6];rfl),by rw[hw,Ra (show q≠0 by omega),List.append_assoc];rfl,by omega,by omega,by omega⟩ mlt)
 conv=>cbv
 refine .litL 1 fun s4 aa ai=>?_
 conv=>cbv
 have e:s4=Cy n:=(by unfold Cy;rw[XgF n h1,if_pos h2,hw,show q=0 by omega,aa];rename_i hs4_ _;rw[hs4_];show tx [45]++tx _=_;rw[C6];rfl)
 rw[hr]at e
 subst e
 exact hQ _ _ (.s rfl rfl)
 conv=>cbv
 refine LoopW.lp (κ:=Int×ByteArray) To hP [] [3] (fun(i0,s4)=>[(0,I i0),(4,S s4)]) (fun(i0,s4)=>[])
  (fun(i0,s4)=>∃(q:Nat) (w:List UInt8),s4=tx w∧Xgr n.natAbs=Xgr q++w∧q≤n.natAbs∧(n<0→i0= -(q:Int))∧(0≤n→i0=(q:Int)))
  (fun(i0,s4)=>i0.natAbs) (n,tx []) ⟨n.natAbs,[],rfl,by simp,by omega,by omega,by omega⟩ ⟨rfl,rfl,trivial⟩ rfl ?_
 rintro⟨i0,s4⟩ J ⟨q,w,aa,hw,hq,hiN,hiP⟩ hJ
 have hwl:=congrArg List.length hw
 rw[List.length_append]at hwl
 have hdl:=XdJ (u:=n.natAbs) (by unfold Xfw at hn;omega)
 have ai:s4.size=w.length:=by rw[aa,A4]
 have et:(n<0→i0.tdiv 10= -((q/10:Nat):Int))∧(0≤n→i0.tdiv 10=((q/10:Nat):Int)):=⟨fun h=>XkT (hiN h),fun h=>XkW (hiP h)⟩
 have em:(n<0→i0.tmod 10= -((q% 10:Nat):Int))∧(0≤n→i0.tmod 10=((q% 10:Nat):Int)):=⟨fun h=>XkB (hiN h),fun h=>XkJ (hiP h)⟩
 have hn_:=hn
 unfold Xfw at hn_
 conv=>cbv
 refine .neq (fun h3=>?_) fun h3=>?_
 conv=>cbv
 refine .remT fun v4 ak=>?_
 conv=>cbv
 refine .lss (fun h5=>?_) fun h5=>?_
 conv=>cbv
 refine .go fun v6 al=>?_
 conv=>cbv
 generalize ad:E3 v6=r7
 refine .dd hP (Lw (by omega) ad) ?_
 conv=>cbv
 refine .go (l:=[fig ((q% 10:Nat):Int)]) (by show[cB (fig _)]=_;rw[show((q% 10:Nat):Int)=v6 by omega,←Xeu ad (by omega)]) (hn:=rfl) fun s8 ab=>?_
 conv=>cbv
 have ag:s8.size=1:=by rw[ab];rfl
 refine .go fun s9 ae am=>?_
 conv=>cbv
 refine .quoT fun ah aj=>?_
 conv=>cbv
 exact .go [] (ah,s9) (hJ _ ⟨q/10,fig ((q% 10:Nat):Int)::w,by first|(rw[ae,ab,aa,C6];rfl)|(rw[ab,ac,aa,C6];rfl),by rw[hw,Ra (show q≠0 by omega),List.append_assoc];rfl,by omega,by omega,by omega⟩ mlt)
 conv=>cbv
 generalize af:E3 v4=r6
 refine .dd hP (Lw (by omega) af) ?_
 conv=>cbv
 refine .go (l:=[fig ((q% 10:Nat):Int)]) (by show[cB (fig _)]=_;rw[show((q% 10:Nat):Int)=v4 by omega,←Xeu af (by omega)]) (hn:=rfl) fun s7 ac=>?_
 conv=>cbv
 have an:s7.size=1:=by rw[ac];rfl
 refine .go fun s8 ab ag=>?_
 conv=>cbv
 refine .quoT fun v9 ao=>?_
 conv=>cbv
 exact .go [] (v9,s8) (hJ _ ⟨q/10,fig ((q% 10:Nat):Int)::w,by first|(rw[ae,ab,aa,C6];rfl)|(rw[ab,ac,aa,C6];rfl),by rw[hw,Ra (show q≠0 by omega),List.append_assoc];rfl,by omega,by omega,by omega⟩ mlt)
 conv=>cbv
 have e:s4=Cy n:=(by unfold Cy;rw[XgF n h1,if_neg (by omega),hw,show q=0 by omega,aa];rfl)
 rw[hr]at e
 subst e
 exact hQ _ _ (.s rfl rfl)
end
section
open Go Go.Proofs
set_option maxRecDepth 20000
set_option maxHeartbeats 4000000
end
section
open Go Go.Proofs
set_option maxRecDepth 20000
set_option maxHeartbeats 4000000
open Go.Lib
open Go.RowKit
end
end Go.Proofs.YtjbmpmmffjgedaaGreatDoor.Ab
