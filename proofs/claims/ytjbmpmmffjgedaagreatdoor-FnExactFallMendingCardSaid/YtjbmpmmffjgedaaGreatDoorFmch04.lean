/- What functions come to. -/
import Derived.Test.YtjbmpmmffjgedaaGreatDoorFmch10
import Derived.Below
import Derived.ProofKit
import Derived.Test.YtjbmpmmffjgedaaGreatDoorFmZ9
import Derived.Lib.AtoiErrMem
import Derived.Lib.SlicesS
set_option linter.unusedVariables false
set_option linter.unusedSimpArgs false
set_option maxHeartbeats 4000000
set_option maxRecDepth 20000
namespace Go.Proofs.YtjbmpmmffjgedaaGreatDoor.Ab
section
open Go Go.Proofs
def Xga:List (Nat×TyRow):=[ty2,ty3,ty4,ty5,ty9,XmM,Xm1,XnK]
theorem XeS:B1 Tryz.prog Xga:=B1.of (by kernel_rfl)
theorem Pf:Setup Tryz.prog Xga:=⟨XeS,mixed⟩
def dig(n:Nat):UInt8:=if n% 16<10 then UInt8.ofNat (48+n% 16)else UInt8.ofNat (87+n% 16)
def XaA:Nat→Nat→List UInt8
 |0,_=>[]
 |k+1,n=>XaA k (n/16)++[dig n]
def XdT(n:Nat):List UInt8:=if h:n<16 then[dig n]else XdT (n/16)++[dig n]
termination_by n
decreasing_by omega
theorem Tx{n:Nat}(h:n<16):XdT n=[dig n]:=by rw[XdT,dif_pos h]
theorem XcF{n:Nat}(h:¬n<16):XdT n=XdT (n/16)++[dig n]:=by rw[XdT,dif_neg h]
theorem XkS:dig 0=48:=rfl
theorem XbX:∀(k:Nat),XaA k 0=List.replicate k 48
 |0=>rfl
 |k+1=>by rw[XaA,Nat.zero_div,XbX k,XkS,List.replicate_succ']
theorem Td:∀(k n:Nat),(XaA k n).length=k
 |0,_=>rfl
 |k+1,n=>by rw[XaA,List.length_append,Td];rfl
theorem Xlu:∀(k n:Nat),n<16^ (k+1)→XaA (k+1) n=List.replicate (k+1 - (XdT n).length) 48++XdT n∧1≤(XdT n).length∧(XdT n).length≤k+1
 |0,n,h=>by
  have h:n<16:=by simpa using h
  rw[Tx h]
  simp[XaA]
 |k+1,n,h=>by
  by_cases hn:n<16
  ·rw[Tx hn,XaA,Nat.div_eq_of_lt hn,XbX]
   simp
  ·have h2:n/16<16^ (k+1):=by rw[Nat.pow_succ]at h;omega
   obtain⟨i1,i2,i3⟩:=Xlu k (n/16) h2
   rw[XcF hn,XaA,i1,List.length_append,List.length_singleton,List.append_assoc]
   refine⟨?_,by omega,by omega⟩
   congr 2
   omega
def A4(n:Int):ByteArray:=if 0≤n∧n≤1000000000 then tx (115::(XaA 8 n.toNat++[46,115,101,103]))else tx []
theorem Hx{n:Int}{o:ByteArray}(e:A4 n=o):o.size≤13:=by
 rw[←e]
 unfold A4
 split
 ·rw[Bz,List.length_cons,List.length_append,Td];simp
 ·simp[Bz]
theorem digL:∀(j:Nat) (h:j<(⟨⟨[48,49,50,51,52,53,54,55,56,57,97,98,99,100,101,102]⟩⟩:ByteArray).size),(⟨⟨[48,49,50,51,52,53,54,55,56,57,97,98,99,100,101,102]⟩⟩:ByteArray)[j]=dig j:=by
 have key:∀j:Fin 16,(⟨⟨[48,49,50,51,52,53,54,55,56,57,97,98,99,100,101,102]⟩⟩:ByteArray)[j.val]'j.isLt=dig j.val:=by decide
 intro j h
 exact key ⟨j,h⟩
theorem XeF(n:Nat):dig (n% 16)=dig n:=by unfold dig;rw[Nat.mod_mod]
theorem and15(a:Int):Te .and .i64 a 15=a% 16:=Jw (k:=4) (by omega)
theorem Xnt{x:Nat}(h:x<18446744073709551616):Te .and .u64 (x:Int) 15=((x% 16:Nat):Int):=by
 show IntKind.u64.wrap ((BitVec.ofInt 64 (x:Int)&&&BitVec.ofInt 64 ((15:Nat):Int)).toNat:Int)=_
 rw[BitVec.toNat_and,L3 (by omega),L3 (by omega),G4,show(15:Nat)=2^4 - 1 from rfl,Nat.and_two_pow_sub_one_eq_mod]
 omega
theorem digF:∀(j:Nat) (hj:j<16) (h:j<(⟨⟨[48,49,50,51,52,53,54,55,56,57,97,98,99,100,101,102,103,104,105,106,107,108,109,110,111,112,113,114,115,116,117,118,119,120,121,122]⟩⟩:ByteArray).size),(⟨⟨[48,49,50,51,52,53,54,55,56,57,97,98,99,100,101,102,103,104,105,106,107,108,109,110,111,112,113,114,115,116,117,118,119,120,121,122]⟩⟩:ByteArray)[j]=dig j:=by
 have key:∀j:Fin 16,(⟨⟨[48,49,50,51,52,53,54,55,56,57,97,98,99,100,101,102,103,104,105,106,107,108,109,110,111,112,113,114,115,116,117,118,119,120,121,122]⟩⟩:ByteArray)[j.val]'(Nat.lt_of_lt_of_le j.isLt (by decide))=dig j.val:=by decide
 intro j hj h
 exact key ⟨j,hj⟩
theorem Xi3{v:Int}{n:Nat}(h:v=((dig n).toNat:Int)):[D.sc (.int .u8 v)]=cB (dig n):=by rw[h];rfl
theorem XfS{α:Type}{l:List α}{p:Nat}{x:α}(h:p<l.length):(l.set p x).drop p=x::l.drop (p+1):=by
 rw[List.drop_eq_getElem_cons (by rw[List.length_set];exact h),List.getElem_set_self]
 congr 1
 rw[List.drop_set_of_lt (by omega)]
def Kp:Bool:=true
def Qr(_:Int):Int:=4
def Ni(u:Int):List UInt8×ByteArray:=([],tx (XdT u.toNat))
def Ik(n:Int):ByteArray:=tx (XdT n.toNat)
def V4(n:Int):ByteArray:=tx (List.replicate n.toNat 48)
theorem tz64{w:World}(h:Lib.TabIs Tryz.prog w "math/bits.deBruijn64tab" .u8 Uh):Calls Tryz.prog 347 #[.int .u64 16] w fun e w'=>e= .returned (.int .i64 4)∧w'=w:=by
 have hq:IntKind.u64.wrap (bits BinOp.and IntKind.u64 16 (IntKind.u64.wrap (-16))*285870213051353865)/288230376151711744=15:=by decide+kernel
 have hc:w.cell? ⟨5,15,none⟩=some (.int .u8 4):=h.cell gn5 15 (by decide)
 go_enter Tryz.func347,Tryz.ntmps347
 go_wp2
 go_ret
 exact⟨rfl,rfl⟩
theorem tz{w:World}(h:Lib.TabIs Tryz.prog w "math/bits.deBruijn64tab" .u8 Uh):Calls Tryz.prog 340 #[.int .u64 16] w fun e w'=>e= .returned (.int .i64 4)∧w'=w:=by
 go_enter Tryz.func340,Tryz.ntmps340
 go_wp2_with (first
  |(go_at_call 347;refine(tz64 h).mono ?_;rintro e w' ⟨rfl,rfl⟩)
  |go_in)
 go_ret
 exact⟨rfl,rfl⟩
variable {o:ByteArray} {n:Int}
theorem Mo{x o:Int}(hx:x=16)(hr:Qr x=o):Fn Tryz.prog 340 [.d (.sc (.int .u64 x))] [] ⟨I o,[],[]⟩:=by
 refine⟨E8 Tryz.func340 rfl rfl,CallOk.ofCallsG fun E vs hS hG hA=>?_⟩
 obtain⟨u,rfl,h1⟩:=Xlb hA
 rw[Qj h1,hx]
 refine(tz (Xmt hG)).mono ?_
 rintro e w' ⟨rfl,rfl⟩
 exact⟨_,rfl,⟨rfl,rfl,rfl,Nat.le_refl _,fun _ _=>rfl⟩,by rw[←hr];exact .sc _ rfl⟩
theorem I0(hr:A4 n=o):Fn Tryz.prog 69 [I n] [] ⟨S o,[],[]⟩:=by
 refine Fn.go Pf Tryz.func69 fun P hP Q hQ=>?_
 conv=>cbv
 generalize ac:Bi n 0 1000000000=r1
 refine .dd hP (Dt ac) ?_
 cases r1
 simp only[Bi,decide_eq_true_eq,decide_eq_false_iff_not]at ac
 conv=>cbv
 have e:(tx [])=A4 n:=(by unfold A4;rw[if_neg (by omega)])
 rw[hr]at e
 subst e
 exact hQ _ _ (.s rfl rfl)
 simp only[Bi,decide_eq_true_eq,decide_eq_false_iff_not]at ac
 conv=>cbv
 refine LoopW.lp (κ:=Int×(List (List D))×Nat) Pf hP [0] [0] (fun(i4,aa,ab)=>[(3,.ref 1 0 ab),(4,I i4)]) (fun(i4,aa,ab)=>[(1,.row 1 false aa)])
  (fun(i4,aa,ab)=>∃(w1:List UInt8),w1.map cB=aa∧ab=w1.length∧-1≤i4∧i4≤7∧w1=XaA (7 - i4).toNat (n.toNat/16^ (i4+1).toNat))
  (fun(i4,aa,ab)=>(i4+1).toNat) (7,[],0) ⟨[],rfl,rfl,by omega,by omega,rfl⟩ ⟨rfl,rfl,trivial⟩ rfl ?_
 rintro⟨i4,aa,ab⟩ J ⟨w1,ad,an,h0,h1,hw⟩ hJ
 have hwl:w1.length=(7 - i4).toNat:=by rw[hw,Td]
 have hsz:(⟨⟨[48,49,50,51,52,53,54,55,56,57,97,98,99,100,101,102]⟩⟩:ByteArray).size=16:=rfl
 conv=>cbv
 refine .geq (fun h2=>?_) fun h2=>?_
 conv=>cbv
 refine .mul fun v3 ap=>?_
 conv=>cbv
 refine .go fun v4 af=>?_
 conv=>cbv
 have e4:v4=v3:=by rw[af,G4];omega
 refine .shr fun v5 ag=>?_
 conv=>cbv
 refine .and fun v6 ah=>?_
 conv=>cbv
 have e5:v5=((n.toNat/16^i4.toNat:Nat):Int):=by
  have e2:(2:Int)^v4.toNat=((16^i4.toNat:Nat):Int):=by
   rw[show v4.toNat=4*i4.toNat by omega,Int.pow_mul,Int.natCast_pow]
   rfl
  rw[ag,e2,Int.natCast_ediv,Int.toNat_of_nonneg (by omega)]
 have e6:v6=((n.toNat/16^i4.toNat% 16:Nat):Int):=by rw[ah,and15,e5];omega
 have aq:n.toNat/16^i4.toNat% 16<16:=Nat.mod_lt _ (by omega)
 refine .go v6.toNat fun hjv7 v7 ai bv7=>?_
 conv=>cbv
 have e7:[D.sc (.int .u8 v7)]=cB (dig (n.toNat/16^i4.toNat)):=Xi3 (by rw[ai,digL,e6,Int.toNat_natCast,XeF])
 refine .one (dig (n.toNat/16^i4.toNat)) ad e7 fun aj z8 ao ak=>?_
 conv=>cbv
 refine .sub fun v9 ar=>?_
 conv=>cbv
 exact .go [3] (v9,z8,aj) (hJ _ ⟨_,ak,Ic,by omega,by omega,by rw[hw,show(7 - v9).toNat=(7 - i4).toNat+1 by omega,XaA,show(v9+1).toNat=i4.toNat by omega,Nat.div_div_eq_div_mul,←Nat.pow_succ,show(i4+1).toNat=i4.toNat+1 by omega]⟩ mlt)
 conv=>cbv
 refine .go ad fun s3 ae=>?_
 conv=>cbv
 have au:s3.size=w1.length:=by rw[ae,Bz]
 refine .litL 1 fun s4 al aw=>?_
 conv=>cbv
 refine .litR 4 fun s5 am ax=>?_
 conv=>cbv
 have e:s5=A4 n:=(by unfold A4;rw[if_pos (by omega),am,al,ae,hw,show i4= -1 by omega];show tx [115]++tx _++tx [46,115,101,103]=_;rw[D1,D1];simp)
 rw[hr]at e
 subst e
 exact hQ _ _ (.s rfl rfl)
theorem Jl{o:Bool}(hr:Kp=o):Fn Tryz.prog 339 [I 16] [] ⟨B o,[],[]⟩:=by
 refine Fn.go Pf Tryz.func339 fun P hP Q hQ=>?_
 conv=>cbv
 refine .sub fun v1 aa=>?_
 conv=>cbv
 refine .and fun v2 ab=>?_
 conv=>cbv
 refine .eql (fun h3=>?_) fun h3=>?_
 conv=>cbv
 have e:true=Kp:=(by rfl)
 rw[hr]at e
 subst e
 exact hQ _ _ (.b rfl rfl)
 conv=>cbv
 have e:false=Kp:=(by exfalso;apply h3;rw[ab,aa];rfl)
 rw[hr]at e
 subst e
 exact hQ _ _ (.b rfl rfl)
theorem Ka{u:Int}{oa:List UInt8}{xoa:List (List D)}{ob:ByteArray}(hu:0≤u∧u<4294967296)(hr:Ni u=(oa,ob))(hoa:oa.map cB=xoa):Fn Tryz.prog 319 [.d (.row 1 []),.d (.sc (.int .u64 u)),I 16,B false,B false] [] ⟨.tup [.d (.row 1 xoa),S ob],[],[]⟩:=by
 refine Fn.go Pf Tryz.func319 fun P hP Q hQ=>?_
 conv=>cbv
 refine .lss (fun h1=>?_) fun h1=>?_
 omega
 conv=>cbv
 refine .eql (fun h2=>?_) fun h2=>?_
 omega
 conv=>cbv
 refine .gtr (fun h3=>?_) fun h3=>?_
 omega
 conv=>cbv
 refine .go 65 hP (by kernel_rfl) fun z4 ay=>?_
 conv=>cbv
 generalize ai:Kp=r5
 refine .dd hP (Jl ai) ?_
 cases r5
 cases ai
 conv=>cbv
 refine .go fun v6 az=>?_
 conv=>cbv
 generalize aj:Qr v6=r7
 refine .dd hP (Mo (by rw[az,G4];rfl) aj) ?_
 conv=>cbv
 refine .go fun v8 a1=>?_
 conv=>cbv
 refine .go fun v9 a2=>?_
 conv=>cbv
 refine .go fun bj ak=>?_
 conv=>cbv
 refine .subW fun a6 al=>?_
 conv=>cbv
 refine LoopW.lp (κ:=Int×Int×(List (List D))) Pf hP [] [0,3,4,10,11,12,14,15,16] (fun(i1,aa,ab)=>[(1,.d (.sc (.int .u64 i1))),(13,I aa)]) (fun(i1,aa,ab)=>[(1,.row 1 false ab)])
  (fun(i1,aa,ab)=>∃(w1:List UInt8),w1.map cB=ab∧∃k:Nat,i1=((u.toNat/16^k:Nat):Int)∧aa=65 - (k:Int)∧k≤7∧w1.length=65∧XdT u.toNat=XdT (u.toNat/16^k)++w1.drop (65 - k))
  (fun(i1,aa,ab)=>(aa).toNat) (u,65,z4) ⟨(List.replicate 65 (0:UInt8)),ay,0,by simp;omega,rfl,by omega,by simp,by simp⟩ ⟨rfl,rfl,trivial⟩ rfl ?_
 rintro⟨i1,aa,ab⟩ J ⟨w1,am,k,af,bf,hk,hwl,hx⟩ hJ
 have e7:r7=4:=aj.symm
 have e8:v8=4:=by rw[a1,G4,e7];rfl
 have e9:v9=16:=by rw[a2,G4];rfl
 have a7:a6=15:=by rw[al,ak,G4,G4];rfl
 have hlt:u.toNat/16^k≤u.toNat:=Nat.div_le_self _ _
 have a8:16≤u.toNat/16^k→k<7:=by
  intro h
  rcases Nat.lt_or_ge k 7 with h7|h7
  ·exact h7
  ·obtain rfl:k=7:=by omega
   omega
 have hnx:u.toNat/16^ (k+1)=u.toNat/16^k/16:=by rw[Nat.pow_succ,←Nat.div_div_eq_div_mul]
 generalize hq:u.toNat/16^k=q at*
 conv=>cbv
 refine .geq (fun h12=>?_) fun h12=>?_
 conv=>cbv
 refine .sub fun ag an=>?_
 conv=>cbv
 refine .and fun ac ad=>?_
 conv=>cbv
 have h7:=a8 (by omega)
 have ah:ac=((q% 16:Nat):Int):=by rw[ad,a7,af,Xnt (by omega)]
 have bg:q% 16<16:=Nat.mod_lt _ (by omega)
 refine .go ac.toNat (hj:=by show ac.toNat<36;omega) fun hjv15 ba ao bv15=>?_
 conv=>cbv
 refine .go hP Tryz.underlying275 (by kernel_rfl) fun ap bh=>?_
 conv=>cbv
 have bb:[D.sc (.int .u8 ba)]=cB (dig q):=Xi3 (by rw[ao,digF _ (by omega),ah,Int.toNat_natCast,XeF])
 refine .all (dig q) am bb fun bc aq=>?_
 conv=>cbv
 refine .shrW fun bd ar=>?_
 conv=>cbv
 exact .go [] (bd,ag,bc) (hJ _ ⟨_,aq,k+1,by rw[ar,e8,af,Int.fdiv_eq_ediv_of_nonneg _ (by decide),hnx];show(q:Int)/16=_;omega,by omega,by omega,by rw[List.length_set];exact hwl,by rw[hx,XcF (show¬q<16 by omega),List.append_assoc,hnx,show 65 - (k+1)=ap by omega,XfS (by omega),show ap+1=65 - k by omega];rfl⟩ mlt)
 conv=>cbv
 refine .sub fun ag an=>?_
 conv=>cbv
 refine .go i1.toNat (hj:=by show i1.toNat<36;omega) fun hjv14 ac ad bv14=>?_
 conv=>cbv
 refine .go hP Tryz.underlying275 (by kernel_rfl) fun au bi=>?_
 conv=>cbv
 have ah:[D.sc (.int .u8 ac)]=cB (dig q):=Xi3 (by rw[ad,digF _ (by omega),af,Int.toNat_natCast])
 refine .all (dig q) am ah fun bk ae=>?_
 conv=>cbv
 refine .lo hP ae Tryz.underlying275 (by kernel_rfl) fun on17 bl hon17 aw=>?_
 conv=>cbv
 refine .off ae fun be ax=>?_
 conv=>cbv
 have e:([],be)=Ni u:=(by unfold Ni;rw[ax,hx,Tx (show q<16 by omega),hon17,aw,show ag.toNat=au by omega,XfS (by omega),show au+1=65 - k by omega,List.take_of_length_le (by simp;omega)];rfl)
 rw[hr]at e
 simp only[Prod.mk.injEq]at e
 obtain⟨rfl,rfl⟩:=e
 refine hQ _ _ ?_
 exact .m rfl (.ref rfl rfl (by rw[←hoa];rfl) .d1)
theorem Ku(hn:0≤n∧n≤1000000000)(hr:Ik n=o):Fn Tryz.prog 289 [I n,I 16] [] ⟨S o,[],[]⟩:=by
 refine Fn.go Pf Tryz.func289 fun P hP Q hQ=>?_
 conv=>cbv
 refine .eql (fun h1=>?_) fun h1=>?_
 omega
 conv=>cbv
 refine .go fun v2 aa=>?_
 conv=>cbv
 refine .lss (fun h3=>?_) fun h3=>?_
 omega
 conv=>cbv
 rcases ab:Ni v2 with⟨ad,ae⟩
 generalize ac:ad.map cB=af
 refine .dd hP (Ka (by rw[aa,G4];omega) ab ac) ?_
 conv=>cbv
 have e:ae=Ik n:=(by have e2:v2=n:=(by rw[aa,G4];omega);unfold Ik;rw[←e2];exact(congrArg Prod.snd ab).symm)
 rw[hr]at e
 subst e
 exact hQ _ _ (.s rfl rfl)
theorem Rk(hn:0≤n∧n≤1000000000)(hr:Ik n=o):Fn Tryz.prog 243 [I n,I 16] [] ⟨S o,[],[]⟩:=by
 refine Fn.go Pf Tryz.func243 fun P hP Q hQ=>?_
 conv=>cbv
 generalize aa:Ik n=r1
 refine .dd hP (Ku hn aa) ?_
 conv=>cbv
 have e:r1=Ik n:=(by exact aa.symm)
 rw[hr]at e
 subst e
 exact hQ _ _ (.s rfl rfl)
theorem U4{c:Int}(hc:0≤c∧c≤8)(hr:V4 c=o):Fn Tryz.prog 244 [S (tx [48]),I c] [] ⟨S o,[],[]⟩:=by
 refine⟨E8 Tryz.func244 rfl rfl,CallOk.ofCalls fun E vs hS hA=>?_⟩
 obtain⟨u,v,rfl,h1,h2⟩:=XmS hA
 rw[Qj h1,Qj h2]
 obtain⟨k,rfl⟩:=Int.eq_ofNat_of_zero_le hc.1
 refine(Tryz.strings_Repeat (tx [48]) k E.w (by omega) (by rw[Bz];simp;omega)).mono ?_
 rintro e w' ⟨rfl,hb⟩
 refine⟨_,rfl,hb,?_⟩
 have:(⟨(Lib.repeatL (tx [48]).data.toList k).toArray⟩:ByteArray)=o:=by
  rw[←hr]
  unfold V4 tx
  congr 2
  rw[Int.toNat_natCast]
  have key:∀k,Lib.repeatL (tx [48]).data.toList k=List.replicate k 48:=by
   intro k
   induction k with
   |zero=>rfl
   |succ k ih=>show[48]++Lib.repeatL _ k=_;rw[ih];rfl
  exact key k
 rw[this]
 exact .sc _ rfl
theorem G6(hr:A4 n=o):Fn Tryz.prog 182 [I n] [] ⟨S o,[],[]⟩:=by
 refine Fn.go Pf Tryz.func182 fun P hP Q hQ=>?_
 conv=>cbv
 generalize aa:Br n=r1
 refine .dd hP (Fx aa) ?_
 cases r1
 simp only[Br,decide_eq_true_eq,decide_eq_false_iff_not]at aa
 conv=>cbv
 have e:(tx [])=A4 n:=(by unfold A4;rw[if_neg (by omega)])
 rw[hr]at e
 subst e
 exact hQ _ _ (.s rfl rfl)
 simp only[Br,decide_eq_true_eq,decide_eq_false_iff_not]at aa
 conv=>cbv
 generalize ab:Ik n=r2
 refine .dd hP (Rk aa ab) ?_
 conv=>cbv
 obtain⟨p1,p2,p3⟩:=Xlu 7 n.toNat (by omega)
 have z2:r2.size=(XdT n.toNat).length:=by rw[←ab];exact Bz
 refine .go fun v3 ag=>?_
 conv=>cbv
 refine .sub fun v4 ah=>?_
 conv=>cbv
 generalize ac:V4 v4=r5
 refine .dd hP (U4 (by omega) ac) ?_
 conv=>cbv
 have z5:r5.size=v4.toNat:=by rw[←ac];unfold V4;rw[Bz,List.length_replicate]
 refine .litL 1 fun s6 ad ai=>?_
 conv=>cbv
 refine .go fun s7 ae aj=>?_
 conv=>cbv
 refine .litR 4 fun s8 af ak=>?_
 conv=>cbv
 have e:s8=A4 n:=(by unfold A4;rw[if_pos (by omega),af,ae,ad,←ac,←ab,p1];unfold V4 Ik;show tx [115]++tx _++tx _++tx [46,115,101,103]=_;rw[D1,D1,D1,show v4.toNat=7+1 - (XdT n.toNat).length by omega];simp)
 rw[hr]at e
 subst e
 exact hQ _ _ (.s rfl rfl)
end
section
open Go Go.Proofs
def Xdb:List (Nat×TyRow):=[ty3,ty5,ty9,Xgj]
theorem Xb8:B1 Tryz.prog Xdb:=B1.of (by kernel_rfl)
theorem Qd:Setup Tryz.prog Xdb:=⟨Xb8,mixed⟩
open Go.RowKit
theorem CallOk.callsV{P:Program}{f:FuncId}{as0:List AV}{val:Value}(h:CallOk P f as0 [] ⟨.d (.sc val),[],[]⟩){w:World}(hG:Globs.ok w fun b=>b<w.heap.size){vs:Array Value}
  (hA:XeJ (By w (fun b=>b<w.heap.size) (fun _=>none) [] []) as0 vs):Calls P f vs w fun e w'=>e= .returned val∧Below w.heap.size w w':=by
 have hM:Mem (Ga w (fun b=>b<w.heap.size) (fun _=>none) []) (By w (fun b=>b<w.heap.size) (fun _=>none) [] []):={
  os:=rfl
  output:=rfl
  tape:=rfl
  size:=Nat.le_refl _
  keep:=fun _ _ _=>rfl
  shape:=fun _ _ h=>h
  s0:=fun _ h=>h
  slt:=fun _ h=>h
  glob:=hG
  snew:=fun _ h=>.inl h
  blt:=fun r b h=>absurd h (Nat.not_lt_zero r)
  bown:=fun r R b h=>absurd h (Nat.not_lt_zero r)
  bkeep:=fun r R h=>absurd h (Nat.not_lt_zero r)
  inj:=fun r r' R R' b h=>absurd h (Nat.not_lt_zero r)
  roots:=fun r R h=>absurd h (Nat.not_lt_zero r)}
 refine(h _ _ _ _ hM hA).mono ?_
 rintro e w' ⟨v,E',rfl,rfl,o⟩
 refine⟨?_,⟨o.mem.os,o.mem.tape,o.mem.output,o.mem.size,fun b hb=>o.mem.keep b hb (fun hn=>?_)⟩⟩
 ·have:=o.rel
  have h2:=Qj this
  rw[h2]
 ·obtain⟨r,R,h1,-⟩:=hn
  simp at h1
theorem Dh{w w':World}(hG:Globs.ok w fun b=>b<w.heap.size)(hb:Below w.heap.size w w'):Globs.ok w' fun b=>b<w'.heap.size:=
 Globs.step (fun b h=>Nat.lt_of_lt_of_le h hb.size) (fun b h=>hb.block b h) hG
theorem Xi8{w:World}(hG:Globs.ok w fun b=>b<w.heap.size)(n:Int):Calls Tryz.prog 182 #[.int .i64 n] w fun e w'=>e= .returned (.string (A4 n))∧Below w.heap.size w w':=by
 refine(G6 (n:=n) rfl).ok.callsV hG ⟨rfl,?_⟩
 intro j y hy
 match j,hy with
 |0,hy=>cases hy;exact .d _ _ (.sc _ rfl)
def Cf(n:Int):ByteArray:=if 0≤n∧n≤1000000000 then A4 n++tx [46,116,109,112]else tx []
theorem Xek{n:Int}{o:ByteArray}(e:Cf n=o):o.size≤17:=by
 rw[←e]
 unfold Cf
 split
 ·rw[ByteArray.size_append]
  have:=Hx (n:=n) rfl
  have:(tx [46,116,109,112]).size=4:=rfl
  omega
 ·simp[Bz]
def I8(c:UInt8):Nat:=if 48≤c.toNat∧c.toNat≤57 then c.toNat - 48 else if 97≤c.toNat∧c.toNat≤102 then c.toNat - 87 else 16
def Fz:Nat→List UInt8→Option Nat
 |acc,[]=>some acc
 |acc,c::l=>if I8 c<16 then Fz (16*acc+I8 c) l else none
theorem Rf:∀(l:List UInt8) (acc:Nat) (c:UInt8),Fz acc (l++[c])=(Fz acc l).bind fun a=>if I8 c<16 then some (16*a+I8 c)else none
 |[],acc,c=>by
  show(if I8 c<16 then Fz _ []else none)=_
  rfl
 |b::l,acc,c=>by
  rw[List.cons_append,Fz,Fz]
  split
  ·exact Rf l _ c
  ·rfl
theorem X7:∀(l m:List UInt8) (acc:Nat),Fz acc l=none→Fz acc (l++m)=none
 |[],m,acc,h=>by cases h
 |b::l,m,acc,h=>by
  rw[Fz]at h
  rw[List.cons_append,Fz]
  split
  ·rename_i hb;rw[if_pos hb]at h;exact X7 l m _ h
  ·rfl
theorem Xhx(n:Nat):I8 (dig n)=n% 16:=by
 have key:∀i:Fin 16,I8 (dig i.val)=i.val:=by decide
 have:=key ⟨n% 16,Nat.mod_lt _ (by omega)⟩
 rw[XeF]at this
 exact this
theorem Zd:∀(k n:Nat),n<16^k→Fz 0 (XaA k n)=some n
 |0,n,h=>by
  have:n=0:=by simpa using h
  subst this;rfl
 |k+1,n,h=>by
  rw[XaA,Rf,Zd k (n/16) (by rw[Nat.pow_succ]at h;omega),Option.bind_some,Xhx,if_pos (Nat.mod_lt _ (by omega))]
  congr 1
  omega
def mid(name:ByteArray):List UInt8:=(name.data.toList.drop 1).take 8
def Bv(name:ByteArray):Int×Int:=
 match Fz 0 (mid name)with
 |some n=>if name.size=13∧A4 (n:Int)=name then(1,(n:Int))else if name.size=17∧Cf (n:Int)=name then(2,(n:Int))else(0,0)
 |none=>(0,0)
theorem Xjz{n:Int}(h:0≤n∧n≤1000000000):A4 n=tx (115::(XaA 8 n.toNat++[46,115,101,103])):=if_pos h
theorem XlK{n:Int}(h:0≤n∧n≤1000000000):(A4 n).size=13:=by
 rw[Xjz h,Bz,List.length_cons,List.length_append,Td];rfl
theorem Xli{n:Int}(h:0≤n∧n≤1000000000):(Cf n).size=17:=by
 unfold Cf
 rw[if_pos h,ByteArray.size_append,XlK h];rfl
theorem XnD{n:Int}{l:List UInt8}:mid (tx (115::(XaA 8 n.toNat++l)))=XaA 8 n.toNat:=by
 unfold mid tx
 show((115::(XaA 8 n.toNat++l)).drop 1).take 8=_
 rw[List.drop_succ_cons,List.drop_zero,List.take_left' (Td 8 n.toNat)]
theorem Xlq{n:Int}{l:List UInt8}(h:0≤n∧n≤1000000000):Fz 0 (mid (tx (115::(XaA 8 n.toNat++l))))=some n.toNat:=by
 rw[XnD,Zd 8 n.toNat (by omega)]
theorem XfR{n:Int}(h:0≤n∧n≤1000000000):Bv (A4 n)=(1,n):=by
 have hh:Fz 0 (mid (A4 n))=some n.toNat:=by rw[Xjz h];exact Xlq h
 unfold Bv
 rw[hh]
 dsimp only
 rw[Int.toNat_of_nonneg h.1,if_pos ⟨XlK h,rfl⟩]
theorem XbG{n:Int}(h:0≤n∧n≤1000000000):Bv (Cf n)=(2,n):=by
 have hh:Fz 0 (mid (Cf n))=some n.toNat:=by
  unfold Cf
  rw[if_pos h,Xjz h,D1,List.cons_append,List.append_assoc];exact Xlq h
 unfold Bv
 rw[hh]
 dsimp only
 rw[Int.toNat_of_nonneg h.1,if_neg (by rw[Xli h];simp),if_pos ⟨Xli h,rfl⟩]
theorem Xex{n:Int}{name:ByteArray}(e:A4 n=name)(h:name.size≠0):0≤n∧n≤1000000000:=by
 rcases Decidable.em (0≤n∧n≤1000000000)with h1|h1
 ·exact h1
 ·exfalso;apply h;rw[←e];unfold A4;rw[if_neg h1];rfl
theorem Xfv{n:Int}{name:ByteArray}(e:Cf n=name)(h:name.size≠0):0≤n∧n≤1000000000:=by
 rcases Decidable.em (0≤n∧n≤1000000000)with h1|h1
 ·exact h1
 ·exfalso;apply h;rw[←e];unfold Cf;rw[if_neg h1];rfl
theorem Uf{name:ByteArray}(h:∀n,Fz 0 (mid name)=some n→A4 (n:Int)≠name∧Cf (n:Int)≠name):Bv name=(0,0):=by
 unfold Bv
 split
 ·rename_i n hn
  rw[if_neg (fun hh=>(h n hn).1 hh.2),if_neg (fun hh=>(h n hn).2 hh.2)]
 ·rfl
theorem XbC{name:ByteArray}(h:¬(13≤name.size∧name.size≤17)):Bv name=(0,0):=by
 unfold Bv
 split
 ·rw[if_neg (fun hh=>h (by omega)),if_neg (fun hh=>h (by omega))]
 ·rfl
theorem Xcc{name:ByteArray}(h:Fz 0 (mid name)=none):Bv name=(0,0):=by
 unfold Bv
 rw[h]
theorem Xkz{c:UInt8}(h:I8 c<16):Fs c=I8 c:=by
 have key:∀i:Fin 256,I8 (UInt8.ofNat i.val)<16→Fs (UInt8.ofNat i.val)=I8 (UInt8.ofNat i.val):=by decide+kernel
 have e:UInt8.ofNat c.toNat=c:=by simp
 have:=key ⟨c.toNat,c.toNat_lt⟩
 rw[e]at this
 exact this h
theorem Xaw:∀(l:List UInt8) (acc n:Nat),Fz acc l=some n→G0 acc l=some n
 |[],acc,n,h=>h
 |c::l,acc,n,h=>by
  rw[Fz]at h
  split at h
  ·rename_i hc
   rw[G0,Xkz hc,if_pos hc]
   exact Xaw l _ n h
  ·cases h
theorem Zr:∀(l:List UInt8) (acc n:Nat),G0 acc l=some n→n<(acc+1)*16^l.length
 |[],acc,n,h=>by cases h;simp
 |c::l,acc,n,h=>by
  rw[G0]at h
  split at h
  ·have:=Zr l _ n h
   rw[List.length_cons,Nat.pow_succ]
   refine Nat.lt_of_lt_of_le this ?_
   have h2:(16*acc+Fs c+1)*16^l.length≤(16*(acc+1))*16^l.length:=Nat.mul_le_mul_right _ (by omega)
   refine Nat.le_trans h2 (Nat.le_of_eq ?_)
   rw[Nat.mul_comm 16 (acc+1),Nat.mul_assoc,Nat.mul_comm 16]
  ·cases h
theorem CallOk.ofCallsT{P:Program}{f:FuncId}{as0:List AV}{v1 v2:Value}(o1:v1.oneCell'=true)(o2:v2.oneCell'=true)(h:∀(E:Env) (vs:Array Value),(∀b,E.S b→b<E.w.heap.size)→Globs.ok E.w E.S→XeJ E as0 vs→Calls P f vs E.w fun e w'=>e= .returned (.tuple #[v1,v2])∧Below E.w.heap.size E.w w'):CallOk P f as0 [] ⟨.tup [.d (.sc v1),.d (.sc v2)],[],[]⟩:=by
 intro w S β vs hM hA
 refine(h (By w S β [] []) vs hM.slt hM.glob hA).mono ?_
 rintro e w' ⟨he,hb⟩
 have hb:Below w.heap.size w w':=hb
 have st:Step (By w S β [] []) {By w S β [] []with w:=w'}:=⟨fun r R hR=>⟨R,hR,.inr rfl⟩,fun _ h=>h,fun _ _=>rfl,fun _ h=>h,fun b hS=>hb.block b (hM.slt b hS),fun b s hs=>Ny hb hs⟩
 refine⟨.tuple #[v1,v2],{By w S β [] []with w:=w'},he,rfl,?_,st,?_,?_,hb.size,.tup _ _ rfl ?_⟩
 ·exact{
   os:=hb.os.trans hM.os
   output:=hb.output.trans hM.output
   tape:=hb.tape.trans hM.tape
   size:=hb.size
   keep:=fun b hlt hn=>hb.block b hlt
   shape:=fun b s hs=>Ny hb hs
   s0:=hM.s0
   slt:=fun b hS=>Nat.lt_of_lt_of_le (hM.slt b hS) hb.size
   glob:=Globs.step st.S st.heap hM.glob
   snew:=hM.snew
   blt:=fun r b hp hβ=>absurd hp (Nat.not_lt_zero r)
   bown:=fun r R b hp=>absurd hp (Nat.not_lt_zero r)
   bkeep:=fun r R hlt hp=>absurd hp (Nat.not_lt_zero r)
   inj:=fun r r' R R' b hp=>absurd hp (Nat.not_lt_zero r)
   roots:=fun r R hp=>absurd hp (Nat.not_lt_zero r)}
 ·rfl
 ·intro r
  constructor
  ·exact fun h=>.inl h
  ·rintro(h|⟨_,h⟩)
   ·exact h
   ·exact absurd h (by simp)
 ·intro j y hy
  match j,hy with
  |0,hy=>cases hy;exact .d _ _ (.sc _ o1)
  |1,hy=>cases hy;exact .d _ _ (.sc _ o2)
variable {n:Int} {o:ByteArray}
theorem Zs(hr:Cf n=o):Fn Tryz.prog 205 [I n] [] ⟨S o,[],[]⟩:=by
 refine Fn.go Qd Tryz.func205 fun P hP Q hQ=>?_
 conv=>cbv
 generalize aa:Br n=r1
 refine .dd hP (Fx aa) ?_
 cases r1
 simp only[Br,decide_eq_true_eq,decide_eq_false_iff_not]at aa
 conv=>cbv
 have e:(tx [])=Cf n:=(by unfold Cf;rw[if_neg (by omega)])
 rw[hr]at e
 subst e
 exact hQ _ _ (.s rfl rfl)
 simp only[Br,decide_eq_true_eq,decide_eq_false_iff_not]at aa
 conv=>cbv
 generalize ab:A4 n=r2
 refine .dd hP (G6 ab) ?_
 conv=>cbv
 have ad:=Hx (n:=n) (by assumption)
 refine .litR 4 fun s3 ac ae=>?_
 conv=>cbv
 have e:s3=Cf n:=(by unfold Cf;rw[if_pos (by omega),ac,←ab];rfl)
 rw[hr]at e
 subst e
 exact hQ _ _ (.s rfl rfl)
theorem Zk(hr:Cf n=o):Fn Tryz.prog 193 [I n] [] ⟨S o,[],[]⟩:=by
 refine Fn.go Qd Tryz.func193 fun P hP Q hQ=>?_
 conv=>cbv
 generalize aa:A4 n=r1
 refine .dd hP (I0 aa) ?_
 conv=>cbv
 refine .eql (fun h2=>?_) fun h2=>?_
 conv=>cbv
 have e:(tx [])=Cf n:=(by unfold Cf;rw[if_neg];intro hh;have:=XlK hh;rw[aa,h2]at this;cases this)
 rw[hr]at e
 subst e
 exact hQ _ _ (.s rfl rfl)
 conv=>cbv
 have ac:=Hx aa
 refine .litR 4 fun s3 ab ad=>?_
 conv=>cbv
 have e:s3=Cf n:=(by unfold Cf;rw[if_pos,ab,←aa];rfl;exact Xex aa (fun h0=>h2 (by apply ByteArray.ext;exact Array.eq_empty_of_size_eq_zero h0)))
 rw[hr]at e
 subst e
 exact hQ _ _ (.s rfl rfl)
theorem Xme{name:ByteArray}{k:Nat}(h:k+1<name.size)(hk:k<8):(mid name)[k]? =some name[k+1]:=by
 have h':k+1<name.data.toList.length:=by rw[Array.length_toList];exact h
 unfold mid
 rw[List.getElem?_take_of_lt hk,List.getElem?_drop,Nat.add_comm 1 k,List.getElem?_eq_getElem h']
 rfl
theorem XhM{name:ByteArray}(h:9≤name.size):(mid name).length=8:=by
 have h':name.data.toList.length=name.size:=by rw[Array.length_toList];rfl
 unfold mid
 rw[List.length_take,List.length_drop,h']
 omega
theorem XkI{name:ByteArray}{k n:Nat}(h:k+1<name.size)(hk:k<8)(e:Fz 0 ((mid name).take k)=some n):
  Fz 0 ((mid name).take (k+1))=if I8 name[k+1]<16 then some (16*n+I8 name[k+1])else none:=by
 rw[List.take_add_one,Xme h hk]
 show Fz 0 ((mid name).take k++[name[k+1]])=_
 rw[Rf,e]
 rfl
theorem Xmv{name:ByteArray}{k:Nat}(e:Fz 0 ((mid name).take k)=none):Fz 0 (mid name)=none:=by
 rw[←List.take_append_drop k (mid name)]
 exact X7 _ _ _ e
theorem Xky{c:UInt8}(h:48≤c.toNat∧c.toNat≤57):I8 c=c.toNat - 48:=if_pos h
theorem XkZ{c:UInt8}(h:¬(48≤c.toNat∧c.toNat≤57))(h2:97≤c.toNat∧c.toNat≤102):I8 c=c.toNat - 87:=by unfold I8;rw[if_neg h,if_pos h2]
theorem XkM{c:UInt8}(h:¬(48≤c.toNat∧c.toNat≤57))(h2:¬(97≤c.toNat∧c.toNat≤102)):I8 c=16:=by unfold I8;rw[if_neg h,if_neg h2]
theorem pow16{k:Nat}(h:k≤7):16^k*16≤4294967296:=by
 have:=Nat.pow_le_pow_right (n:=16) (by decide) (show k+1≤8 by omega)
 rw[Nat.pow_succ]at this
 exact this
def Mf(l:List Int)(n:Int):Bool:=decide (n∈l)
theorem Xj3{l:List Int}{xl:List (List D)}{o:Bool}(hl:l.map cI=xl)(hn:l.length<2^40)(hr:Mf l n=o):Fn Tryz.prog 160 [.d (.row 1 xl),I n] [] ⟨B o,[],[]⟩:=by
 refine Fn.go Qd Tryz.func160 fun P hP Q hQ=>?_
 conv=>cbv
 refine LoopW.lp (κ:=Int) Qd hP [] [0,1] (fun i5=>[(5,I i5)]) (fun i5=>[])
  (fun i5=>0≤i5∧i5≤l.length∧∀(j:Nat) (hj:j<l.length),j<i5.toNat→l[j]≠n)
  (fun i5=>(l.length - i5).toNat) (0) ⟨by omega,by omega,fun j _ h=>by simp at h⟩ ⟨rfl,trivial⟩ rfl ?_
 rintro i5 J ⟨h0,h1,hb⟩ hJ
 conv=>cbv
 refine .go hl fun v1 ad=>?_
 conv=>cbv
 refine .lss (fun h2=>?_) fun h2=>?_
 conv=>cbv
 refine .go i5.toNat hl fun aa e3 ab=>?_
 conv=>cbv
 refine .eql (fun h4=>?_) fun h4=>?_
 conv=>cbv
 have e:true=Mf l n:=(by unfold Mf;symm;rw[decide_eq_true_eq,←h4,ab];exact List.getElem_mem aa)
 rw[hr]at e
 subst e
 exact hQ _ _ (.b rfl rfl)
 conv=>cbv
 refine .add fun v5 ae=>?_
 conv=>cbv
 exact .go [] (v5) (hJ _ ⟨by omega,by omega,fun j hj h=>if e:j=i5.toNat then by subst e;rw[←ab];exact h4 else hb j hj (by omega)⟩ mlt)
 conv=>cbv
 have e:false=Mf l n:=(by unfold Mf;symm;rw[decide_eq_false_iff_not];intro hm;obtain⟨j,hj,ac⟩:=List.getElem_of_mem hm;exact hb j hj (by omega) ac)
 rw[hr]at e
 subst e
 exact hQ _ _ (.b rfl rfl)
theorem Tg{name:ByteArray}{oa:Int}{ob:Int}(hs:name.size≤1000000000)(hr:Bv name=(oa,ob)):Fn Tryz.prog 159 [S name] [] ⟨.tup [I oa,I ob],[],[]⟩:=by
 refine Fn.go Qd Tryz.func159 fun P hP Q hQ=>?_
 conv=>cbv
 refine .go fun v1 al=>?_
 conv=>cbv
 generalize ae:Bi v1 13 17=r2
 refine .dd hP (Dt ae) ?_
 cases r2
 simp only[Bi,decide_eq_true_eq,decide_eq_false_iff_not]at ae
 conv=>cbv
 have e:(0,0)=Bv name:=(by exact(XbC (by omega)).symm)
 rw[hr]at e
 simp only[Prod.mk.injEq]at e
 obtain⟨rfl,rfl⟩:=e
 refine hQ _ _ ?_
 exact .m rfl .d2
 simp only[Bi,decide_eq_true_eq,decide_eq_false_iff_not]at ae
 conv=>cbv
 refine LoopW.lp (κ:=Int×Int) Qd hP [] [0] (fun(i4,i5)=>[(4,I i4),(5,I i5)]) (fun(i4,i5)=>[])
  (fun(i4,i5)=>1≤i5∧i5≤9∧0≤i4∧i4.toNat<16^ (i5 - 1).toNat∧Fz 0 ((mid name).take (i5 - 1).toNat)=some i4.toNat)
  (fun(i4,i5)=>(9 - i5).toNat) (0,1) ⟨by omega,by omega,by omega,by simp,rfl⟩ ⟨rfl,rfl,trivial⟩ rfl ?_
 rintro⟨i4,i5⟩ J ⟨h0,h1,h2,h3_,he⟩ hJ
 conv=>cbv
 refine .lss (fun h3=>?_) fun h3=>?_
 conv=>cbv
 refine .go i5.toNat fun hjv4 v4 ah bv4=>?_
 conv=>cbv
 have hp:=pow16 (k:=(i5 - 1).toNat) (by omega)
 have hc:v4=(name[(i5 - 1).toNat+1].toNat:Int):=by rw[ah];congr 2;congr 1;omega
 have hstep:=XkI (name:=name) (k:=(i5 - 1).toNat) (by omega) (by omega) he
 have am:=name[(i5 - 1).toNat+1].toNat_lt
 refine .id fun v5 an=>?_
 conv=>cbv
 generalize aa:Bi v5 48 57=r6
 refine .dd hP (Dt aa) ?_
 cases r6
 simp only[Bi,decide_eq_true_eq,decide_eq_false_iff_not]at aa
 conv=>cbv
 generalize af:Bi v5 97 102=r7
 refine .dd hP (Dt af) ?_
 cases r7
 simp only[Bi,decide_eq_true_eq,decide_eq_false_iff_not]at af
 conv=>cbv
 have e:(0,0)=Bv name:=(by exact(Xcc (Xmv (k:=(i5 - 1).toNat+1) (by rw[hstep,XkM (by omega) (by omega)];rfl))).symm)
 rw[hr]at e
 simp only[Prod.mk.injEq]at e
 obtain⟨rfl,rfl⟩:=e
 refine hQ _ _ ?_
 exact .m rfl .d2
 simp only[Bi,decide_eq_true_eq,decide_eq_false_iff_not]at af
 conv=>cbv
 have hval:=XkZ (c:=name[(i5 - 1).toNat+1]) (by omega) (by omega)
 refine .mul fun v8 ai=>?_
 conv=>cbv
 refine .add fun v9 aj=>?_
 conv=>cbv
 refine .sub fun ab ag=>?_
 conv=>cbv
 refine .add fun ac ak=>?_
 conv=>cbv
 exact .go [] (ab,ac) (hJ _ ⟨by omega,by omega,by omega,by first|(rw[show(ac - 1).toNat=(i5 - 1).toNat+1 by omega,Nat.pow_succ];omega)|(rw[show(ab - 1).toNat=(i5 - 1).toNat+1 by omega,Nat.pow_succ];omega),by first|(rw[show(ac - 1).toNat=(i5 - 1).toNat+1 by omega,hstep,hval,if_pos (by omega)];congr 1;omega)|(rw[show(ab - 1).toNat=(i5 - 1).toNat+1 by omega,hstep,hval,if_pos (by omega)];congr 1;omega)⟩ mlt)
 simp only[Bi,decide_eq_true_eq,decide_eq_false_iff_not]at aa
 conv=>cbv
 have hval:=Xky (c:=name[(i5 - 1).toNat+1]) (by omega)
 refine .mul fun v7 ao=>?_
 conv=>cbv
 refine .add fun v8 ai=>?_
 conv=>cbv
 refine .sub fun v9 aj=>?_
 conv=>cbv
 refine .add fun ab ag=>?_
 conv=>cbv
 exact .go [] (v9,ab) (hJ _ ⟨by omega,by omega,by omega,by first|(rw[show(ac - 1).toNat=(i5 - 1).toNat+1 by omega,Nat.pow_succ];omega)|(rw[show(ab - 1).toNat=(i5 - 1).toNat+1 by omega,Nat.pow_succ];omega),by first|(rw[show(ac - 1).toNat=(i5 - 1).toNat+1 by omega,hstep,hval,if_pos (by omega)];congr 1;omega)|(rw[show(ab - 1).toNat=(i5 - 1).toNat+1 by omega,hstep,hval,if_pos (by omega)];congr 1;omega)⟩ mlt)
 conv=>cbv
 generalize ad:A4 i4=r4
 refine .dd hP (I0 ad) ?_
 conv=>cbv
 refine .eql (fun h5=>?_) fun h5=>?_
 conv=>cbv
 have e:(1,i4)=Bv name:=(by have:=XfR (Xex (ad.trans h5) (by omega));rw[ad,h5]at this;exact this.symm)
 rw[hr]at e
 simp only[Prod.mk.injEq]at e
 obtain⟨rfl,rfl⟩:=e
 refine hQ _ _ ?_
 exact .m rfl .d2
 conv=>cbv
 generalize aa:Cf i4=r6
 refine .dd hP (Zk aa) ?_
 conv=>cbv
 refine .eql (fun h7=>?_) fun h7=>?_
 conv=>cbv
 have e:(2,i4)=Bv name:=(by have:=XbG (Xfv (aa.trans h7) (by omega));rw[aa,h7]at this;exact this.symm)
 rw[hr]at e
 simp only[Prod.mk.injEq]at e
 obtain⟨rfl,rfl⟩:=e
 refine hQ _ _ ?_
 exact .m rfl .d2
 conv=>cbv
 have e:(0,0)=Bv name:=(by refine(Uf fun n hn=>?_).symm;rw[show(i5 - 1).toNat=8 by omega,List.take_of_length_le (by rw[XhM (by omega)];omega),hn]at he;cases he;rw[Int.toNat_of_nonneg h2,ad,aa];exact⟨h5,h7⟩)
 rw[hr]at e
 simp only[Prod.mk.injEq]at e
 obtain⟨rfl,rfl⟩:=e
 refine hQ _ _ ?_
 exact .m rfl .d2
end
section
open Go Go.Proofs
open Go.RowKit
theorem puPub(t:ByteArray)(h8:t.size=8){w:World}(hi:Ha w 0):Calls Tryz.prog 229 #[.string t,.int .i64 16,.int .i64 32] w fun e w'=>
  (match G0 0 t.data.toList with|some n=>e= .returned (.tuple #[.int .u64 n,.nilIface])|none=>∃x T p,e= .returned (.tuple #[.int .u64 x,.iface T p]))∧Below w.heap.size w w':=by
 obtain⟨ev,h1,h2⟩:=hi
 have hp:=fun w=>pu16 Tryz.lays287 t (by omega) (by omega) w
 have hlt:0<w.heap.size:=Lib.lt_of_cell h1
 have hbel:Below w.heap.size w (Lib.bytesWorld w (Tryz.lays287_ren.t 5) t):=Lib.bytesWorld_below _ _ _
 cases hh:G0 0 t.data.toList with
 |some n=>
  rw[hh]at hp
  replace hp:∀w,Calls Tryz.prog 278 #[.string t,.int .i64 16,.int .i64 32] w fun e w'=>e= .returned (.tuple #[.int .u64 n,.nilIface])∧w'=Lib.bytesWorld w (Tryz.lays287_ren.t 5) t:=hp
  go_enter Tryz.func229,Tryz.ntmps229
  go_wp2_with (go_at_call 278;refine(hp _).mono ?_;rintro e w' ⟨rfl,rfl⟩)
  go_ret2
  exact⟨rfl,hbel⟩
 |none=>
  rw[hh]at hp
  replace hp:∀w,Calls Tryz.prog 278 #[.string t,.int .i64 16,.int .i64 32] w fun e w'=>e= .returned (.tuple #[.int .u64 0,.iface 247 (.int .i64 2)])∧w'=Lib.bytesWorld w (Tryz.lays287_ren.t 5) t:=hp
  go_enter Tryz.func229,Tryz.ntmps229
  go_wp2_with (first
   |(go_at_call 278;refine(hp _).mono ?_;rintro e w' ⟨rfl,rfl⟩)
   |(go_at_call 279;refine(Tryz.strconv_toError_syntax _ t _ _ ev _ (by omega) ((hbel.cell hlt).trans h1) h2).mono ?_;rintro e w' ⟨N,rfl,-,-,hb2⟩))
  go_ret2
  exact⟨⟨_,_,_,rfl⟩,hbel.trans (hb2.mono hbel.size)⟩
theorem XfV{a b:ByteArray}(h:¬a=b):(a.toList==b.toList)=false:=by
 rw[Bool.eq_false_iff]
 exact fun hh=>h ((Lib.bytes_beq_iff _ _).1 hh)
theorem Pw{w:World}(hG:Globs.ok w fun b=>b<w.heap.size){n:Int}{o:ByteArray}(hr:A4 n=o):Calls Tryz.prog 182 #[.int .i64 n] w fun e w'=>e= .returned (.string o)∧Below w.heap.size w w':=by
 rw[←hr];exact Xi8 hG n
theorem P3{w:World}(hG:Globs.ok w fun b=>b<w.heap.size){n:Int}{o:ByteArray}(hr:Cf n=o):Calls Tryz.prog 205 #[.int .i64 n] w fun e w'=>e= .returned (.string o)∧Below w.heap.size w w':=by
 refine(Zs (n:=n) hr).ok.callsV hG ⟨rfl,?_⟩
 intro j y hy
 match j,hy with
 |0,hy=>cases hy;exact .d _ _ (.sc _ rfl)
theorem K3{w:World}(hG:Globs.ok w fun b=>b<w.heap.size){n:Int}{o:Bool}(hr:Br n=o):Calls Tryz.prog 230 #[.int .i64 n] w fun e w'=>e= .returned (.bool o)∧Below w.heap.size w w':=by
 refine(Fx (n:=n) hr).ok.callsV hG ⟨rfl,?_⟩
 intro j y hy
 match j,hy with
 |0,hy=>cases hy;exact .d _ _ (.sc _ rfl)
theorem Xec{name:ByteArray}(h:9≤name.size):(name.extract 1 9).size=8∧(name.extract 1 9).data.toList=mid name:=by
 have h':9≤name.data.size:=h
 constructor
 ·rw[ByteArray.size_extract];omega
 ·unfold mid
  rw[ByteArray.data_extract,Array.toList_extract,List.extract_eq_take_drop]
set_option maxHeartbeats 1000000 in
set_option maxRecDepth 100000 in
theorem Yn{name:ByteArray}(hs:name.size≤1000000000){w:World}(hG:Globs.ok w fun b=>b<w.heap.size):Calls Tryz.prog 156 #[.string name] w fun e w'=>
  e= .returned (.tuple #[.int .i64 (Bv name).1,.int .i64 (Bv name).2])∧Below w.heap.size w w':=by
 by_cases h9:name.size<9
 ·rw[XbC (by omega)]
  go_enter Tryz.func156,Tryz.ntmps156
  go_wp2
  go_ret2
  exact⟨rfl,Below.refl _ _⟩
 obtain⟨hx8,hxl⟩:=Xec (name:=name) (by omega)
 have hpu:=fun(w:World) (hi:Ha w 0)=>puPub (name.extract 1 9) hx8 hi
 rw[hxl]at hpu
 have hG3:∀{w:World},(Globs.ok w fun b=>b<w.heap.size)→Ha w 0:=fun h=>Xih h
 cases hh:G0 0 (mid name)with
 |none=>
  simp only[hh]at hpu
  rw[Xcc (by
   cases h:Fz 0 (mid name)with
   |none=>rfl
   |some n=>rw[Xaw _ _ _ h]at hh;cases hh)]
  go_enter Tryz.func156,Tryz.ntmps156
  go_wp2_with (go_at_call 229;refine(hpu _ (hG3 hG)).mono ?_;rintro e w' ⟨⟨x,T,p,rfl⟩,hb⟩)
  go_ret2
  exact⟨rfl,hb⟩
 |some m=>
  simp only[hh]at hpu
  have hm:m<4294967296:=by
   have:=Zr _ _ _ hh
   rw[XhM (by omega)]at this
   omega
  have hmn:∀n,Fz 0 (mid name)=some n→n=m:=fun n hn=>by
   have:=Xaw _ _ _ hn
   rw[hh]at this
   exact(Option.some.inj this).symm
  obtain⟨M,hM⟩:∃M:Int,M=(m:Int):=⟨_,rfl⟩
  have hM0:0≤M:=by omega
  have hM1:M<4294967296:=by omega
  simp only[←hM]at hpu
  by_cases hnum:M≤1000000000
  ·have hrn:Br M=true:=decide_eq_true ⟨hM0,hnum⟩
   obtain⟨sg,hsg⟩:∃s,A4 M=s:=⟨_,rfl⟩
   obtain⟨tp,htp⟩:∃s,Cf M=s:=⟨_,rfl⟩
   by_cases hse:name=sg
   ·have hR:Bv name=(1,M):=by rw[hse,←hsg];exact XfR ⟨hM0,hnum⟩
    rw[hR]
    dsimp only
    clear hmn hh hxl hR hM
    subst hse
    go_enter Tryz.func156,Tryz.ntmps156
    go_wp2_with (first
     |(go_at_call 229;refine(hpu _ (hG3 hG)).mono ?_;rintro e w1 ⟨rfl,aa⟩;have hG1:=Dh hG aa)
     |(go_at_call 230;refine(K3 hG1 hrn).mono ?_;rintro e w2 ⟨rfl,hb2⟩;have hG2:=Dh hG1 hb2)
     |(go_at_call 182;refine(Pw hG2 hsg).mono ?_;rintro e w3 ⟨rfl,ab⟩;have hG3_:=Dh hG2 ab)
     |(go_at_call 205;refine(P3 hG3_ htp).mono ?_;rintro e w4 ⟨rfl,ac⟩))
    go_ret2
    exact⟨rfl,(aa.trans (hb2.mono aa.size)).trans (ab.mono (aa.trans (hb2.mono aa.size)).size)⟩
   ·by_cases hte:name=tp
    ·have hR:Bv name=(2,M):=by rw[hte,←htp];exact XbG ⟨hM0,hnum⟩
     rw[hR]
     dsimp only
     clear hmn hh hxl hR hM
     subst hte
     have ad:=XfV hse
     go_enter Tryz.func156,Tryz.ntmps156
     go_wp2_with (first
      |(go_at_call 229;refine(hpu _ (hG3 hG)).mono ?_;rintro e w1 ⟨rfl,aa⟩;have hG1:=Dh hG aa)
      |(go_at_call 230;refine(K3 hG1 hrn).mono ?_;rintro e w2 ⟨rfl,hb2⟩;have hG2:=Dh hG1 hb2)
      |(go_at_call 182;refine(Pw hG2 hsg).mono ?_;rintro e w3 ⟨rfl,ab⟩;have hG3_:=Dh hG2 ab)
      |(go_at_call 205;refine(P3 hG3_ htp).mono ?_;rintro e w4 ⟨rfl,ac⟩))
     go_ret2
     exact⟨rfl,((aa.trans (hb2.mono aa.size)).trans (ab.mono (aa.trans (hb2.mono aa.size)).size)).trans (ac.mono ((aa.trans (hb2.mono aa.size)).trans (ab.mono (aa.trans (hb2.mono aa.size)).size)).size)⟩
    ·have hR:Bv name=(0,0):=Uf fun n hn=>by
      rw[hmn n hn,←hM,hsg,htp]
      exact⟨fun e=>hse e.symm,fun e=>hte e.symm⟩
     rw[hR]
     dsimp only
     clear hmn hh hxl hR hM
     have ad:=XfV hse
     have ae:=XfV hte
     go_enter Tryz.func156,Tryz.ntmps156
     go_wp2_with (first
      |(go_at_call 229;refine(hpu _ (hG3 hG)).mono ?_;rintro e w1 ⟨rfl,aa⟩;have hG1:=Dh hG aa)
      |(go_at_call 230;refine(K3 hG1 hrn).mono ?_;rintro e w2 ⟨rfl,hb2⟩;have hG2:=Dh hG1 hb2)
      |(go_at_call 182;refine(Pw hG2 hsg).mono ?_;rintro e w3 ⟨rfl,ab⟩;have hG3_:=Dh hG2 ab)
      |(go_at_call 205;refine(P3 hG3_ htp).mono ?_;rintro e w4 ⟨rfl,ac⟩))
     go_ret2
     exact⟨rfl,((aa.trans (hb2.mono aa.size)).trans (ab.mono (aa.trans (hb2.mono aa.size)).size)).trans (ac.mono ((aa.trans (hb2.mono aa.size)).trans (ab.mono (aa.trans (hb2.mono aa.size)).size)).size)⟩
  ·have hrn:Br M=false:=decide_eq_false fun h=>hnum h.2
   obtain⟨sg,hsg⟩:∃s,A4 M=s:=⟨_,rfl⟩
   obtain⟨tp,htp⟩:∃s,Cf M=s:=⟨_,rfl⟩
   have hR:Bv name=(0,0):=Uf fun n hn=>by
    rw[hmn n hn,←hM]
    exact⟨fun e=>hnum (Xex e (by omega)).2,fun e=>hnum (Xfv e (by omega)).2⟩
   rw[hR]
   dsimp only
   clear hmn hh hxl hR hM
   go_enter Tryz.func156,Tryz.ntmps156
   go_wp2_with (first
    |(go_at_call 229;refine(hpu _ (hG3 hG)).mono ?_;rintro e w1 ⟨rfl,aa⟩;have hG1:=Dh hG aa)
    |(go_at_call 230;refine(K3 hG1 hrn).mono ?_;rintro e w2 ⟨rfl,hb2⟩;have hG2:=Dh hG1 hb2)
    |(go_at_call 182;refine(Pw hG2 hsg).mono ?_;rintro e w3 ⟨rfl,ab⟩;have hG3_:=Dh hG2 ab)
    |(go_at_call 205;refine(P3 hG3_ htp).mono ?_;rintro e w4 ⟨rfl,ac⟩))
   go_ret2
   exact⟨rfl,aa.trans (hb2.mono aa.size)⟩
theorem Xal{name:ByteArray}{oa ob:Int}(hs:name.size≤1000000000)(hr:Bv name=(oa,ob)):Fn Tryz.prog 156 [S name] [] ⟨.tup [I oa,I ob],[],[]⟩:=by
 refine⟨E8 Tryz.func156 rfl rfl,CallOk.ofCallsT rfl rfl fun E vs hS hG hA=>?_⟩
 obtain⟨u,rfl,h1⟩:=Xlb hA
 rw[Qj h1]
 have h2:=Yn hs (Globs.step hS (fun _ _=>rfl) hG)
 rw[hr]at h2
 exact h2
end
section
open Go Go.Proofs
def XfF:List (Nat×TyRow):=[ty3,ty9,XaC,Xp,Xgj,Xmd,ty92,ty96,Xmh]
theorem XeL:B1 Tryz.prog XfF:=B1.of (by kernel_rfl)
theorem H5:Setup Tryz.prog XfF:=⟨XeL,mixed⟩
def Du(d:Aa)(base:Int):ByteArray:=(Gu d (A4 base)).1
def Dz(b:ByteArray)(base link:Int):Bool:=(Ck b).2&&decide ((Ck b).1.base_=base)&&decide ((Ck b).1.link_=link)
def I2(link:Int)(r:ByteArray):Int:=Gl link (Be r.size 4++r)
def Gm(link:Int)(l:List ByteArray):Int:=l.foldl I2 link
def D6(b:ByteArray):List ByteArray:=(Bu b).records_
def Ja(b:ByteArray):Int:=Gm (Bu b).head_.link_ (Bu b).records_
def Ki(d:Aa):Nat→Int→Int→List T5
 |0,_,_=>[]
 |k+1,base,sum=>if Dz (Du d base) base sum=true∧D6 (Du d base)≠[]then
   ⟨base,Du d base,Bu (Du d base)⟩::Ki d k (base+(D6 (Du d base)).length) (Gm sum (D6 (Du d base)))else[]
def N9(d:Aa):List T5:=Ki d 16 0 0
def Fo(d:Aa):List Int:=(N9 d).map (·.base_)
theorem Ps{d:Aa}{b:Int}{t:ByteArray}(hd:okD d)(e:Du d b=t):t.size≤1000000000:=by
 rw[←e]
 exact Xet (ok:=(Gu d (A4 b)).2) hd rfl
theorem V0{t:ByteArray}{b s:Int}(h:Dz t b s=true):∃hh,Ck t=(hh,true)∧hh.base_=b∧hh.link_=s∧0≤b∧b≤1000000000:=by
 unfold Dz at h
 simp only[Bool.and_eq_true,decide_eq_true_eq]at h
 rcases e:Ck t with⟨hh,ok⟩
 rw[e]at h
 obtain⟨⟨h1,h2⟩,h3⟩:=h
 simp only[]at h1 h2 h3
 subst h1
 have h4:=(H7 e).2.2
 obtain⟨v,st,bs,lk⟩:=hh
 have h5:=Is h4
 exact⟨_,rfl,h2,h3,by simp only[]at h2;omega,by simp only[]at h2;omega⟩
theorem XjF{t:ByteArray}{hh:B9}(e:Ck t=(hh,true)):(Bu t).head_=hh∧(Bu t).ok_=true:=by unfold Bu;rw[e];exact⟨rfl,rfl⟩
theorem Yg{t:ByteArray}{b s:Int}(h:Dz t b s=true):Ja t=Gm s (D6 t):=by
 obtain⟨hh,h1,h2,h3,_⟩:=V0 h
 unfold Ja D6
 rw[(XjF h1).1,h3]
theorem Ts{t:ByteArray}{b s:Int}{l:List ByteArray}(h:Dz t b s=true)(e:D6 t=l):Ja t=Gm s l:=by rw[Yg h,e]
theorem R7{d:Aa}{k:Nat}{b s:Int}{t:ByteArray}(h1:Du d b=t)(h2:Dz t b s=false∨D6 t=[]):Ki d k b s=[]:=by
 cases k with
 |zero=>rfl
 |succ k=>
  rw[Ki,h1,if_neg]
  rintro⟨h3,h4⟩
  rcases h2 with h2|h2
  ·rw[h2]at h3;cases h3
  ·exact h4 h2
theorem Vv{d:Aa}{k:Nat}{b s:Int}{t:ByteArray}(h1:Du d b=t)(h2:Dz t b s=true)(h3:D6 t≠[]):Ki d (k+1) b s=⟨b,t,Bu t⟩::Ki d k (b+(D6 t).length) (Gm s (D6 t)):=by
 rw[Ki,h1,if_pos ⟨h2,h3⟩]
theorem T0{d:Aa}:∀{k:Nat} {b s:Int},(Ki d k b s).length≤k
 |0,_,_=>Nat.le_refl _
 |k+1,b,s=>by
  rw[Ki]
  split
  ·rw[List.length_cons];exact Nat.succ_le_succ T0
  ·exact Nat.zero_le _
theorem Xam{d:Aa}:∀{k:Nat} {b s:Int},∀x∈Ki d k b s,x.text_=Du d x.base_∧x.scan_=Bu (Du d x.base_)∧∃s',Dz (Du d x.base_) x.base_ s'=true
 |0,_,_,x,hx=>by simp[Ki]at hx
 |k+1,b,s,x,hx=>by
  rw[Ki]at hx
  split at hx
  ·rename_i h
   rw[List.mem_cons]at hx
   rcases hx with rfl|hx
   ·exact⟨rfl,rfl,s,h.1⟩
   ·exact Xam x hx
  ·simp at hx
theorem Th{d:Aa}{l:List T5}(e:N9 d=l):l.length≤16:=by rw[←e];exact T0
theorem M1{d:Aa}{l:List Int}(e:Fo d=l):l.length≤16:=by rw[←e];unfold Fo;rw[List.length_map];exact T0
theorem Z1{d:Aa}{l:List T5}(e:N9 d=l){x:T5}(hx:x∈l):x.text_=Du d x.base_∧x.scan_=Bu (Du d x.base_)∧∃s',Dz (Du d x.base_) x.base_ s'=true:=by rw[←e]at hx;exact Xam x hx
theorem Xiw{d:Aa}{α:Type}(f:T5→α)(g:Int→α)(h:∀x,x.text_=Du d x.base_→x.scan_=Bu (Du d x.base_)→f x=g x.base_):(N9 d).map f=(Fo d).map g:=by
 unfold Fo
 rw[List.map_map]
 refine List.map_congr_left fun x hx=>?_
 obtain⟨h1,h2,_⟩:=Z1 rfl hx
 exact h x h1 h2
theorem XfX:∀(k:Nat) {h:B9} {b:ByteArray} {n:Nat} {p:Int},(b.size - p).toNat≤k→0≤p∧p≤b.size→∀r∈(Jn h b n p).1,r.size≤60
 |k,h,b,n,p,hk,hp=>by
  cases hm:Ez h.version_ (h.base_+n) b p
  ·rcases hf:Bg h.version_ (h.base_+n) b p with⟨r,q,ok⟩
   cases ok
   ·rw[P7 hm hf];simp
   ·have h2:=Iy hf
    rw[Qe hm hf]
    cases k with
    |zero=>omega
    |succ k=>
     have ih:=XfX k (h:=h) (b:=b) (n:=n+1) (p:=q) (by omega) (by omega)
     intro x hx
     rcases List.mem_cons.1 hx with rfl|hx
     ·omega
     ·exact ih x hx
  ·rw[P1 hm];simp
theorem Xfh{b:ByteArray}:∀r∈(Bu b).records_,r.size≤60:=by
 unfold Bu
 split
 ·rename_i h e
  have h2:=H7 e
  exact XfX _ (h:=h) (b:=b) (n:=0) (p:=24) (Nat.le_refl _) (by omega)
 ·simp
theorem Xbv{α β:Type}{f:α→β}{l:List α}{k:Nat}(h:k<l.length):(l.take (k+1)).map f=(l.take k).map f++[f l[k]]:=by rw[List.take_succ_eq_append_getElem h,List.map_append];rfl
theorem Pg{α β:Type}{f:α→List β}{l:List α}{k:Nat}(h:k<l.length):(l.take (k+1)).flatMap f=(l.take k).flatMap f++f l[k]:=by rw[List.take_succ_eq_append_getElem h,List.flatMap_append];simp
variable {Af:List A0} {Bo Bn Bm Bp xo:List (List D)} {Ah Ai:List Ad} {Ag:List ByteArray} {Ap An base o link:Int} {b r:ByteArray}
theorem Xlh{o:ByteArray}(Al:Af.map Bf=Bo)(Am:Ah.map Ac=Bn)(Aq:Ai.map Ac=Bm)(Ao:Ag.map cS=Bp)(hd:okD ⟨Af,Ah,Ai,Ag,Ap,An⟩)(hr:Du (⟨Af,Ah,Ai,Ag,Ap,An⟩:Aa) base=o):Fn Tryz.prog 202 [.agg [.d (.row 3 Bo),.d (.row 2 Bn),.d (.row 2 Bm),.d (.row 1 Bp),I Ap,I An],I base] [] ⟨S o,[],[]⟩:=by
 refine Fn.go H5 Tryz.func202 fun P hP Q hQ=>?_
 conv=>cbv
 generalize aa:A4 base=r1
 refine .dd hP (G6 aa) ?_
 conv=>cbv
 rcases ab:Gu (⟨Af,Ah,Ai,Ag,Ap,An⟩:Aa) r1 with⟨ac,ad⟩
 refine .dd hP (XhA Al Am Aq Ao hd ab) ?_
 conv=>cbv
 have e:ac=Du (⟨Af,Ah,Ai,Ag,Ap,An⟩:Aa) base:=(by unfold Du;rw[aa,ab])
 rw[hr]at e
 subst e
 exact hQ _ _ (.s rfl rfl)
theorem XfU{o:ByteArray}(Al:Af.map Bf=Bo)(Am:Ah.map Ac=Bn)(Aq:Ai.map Ac=Bm)(Ao:Ag.map cS=Bp)(hd:okD ⟨Af,Ah,Ai,Ag,Ap,An⟩)(hr:Du (⟨Af,Ah,Ai,Ag,Ap,An⟩:Aa) base=o):Fn Tryz.prog 15 [.agg [.d (.row 3 Bo),.d (.row 2 Bn),.d (.row 2 Bm),.d (.row 1 Bp),I Ap,I An],I base] [] ⟨S o,[],[]⟩:=by
 refine Fn.go H5 Tryz.func15 fun P hP Q hQ=>?_
 conv=>cbv
 generalize aa:A4 base=r1
 refine .dd hP (I0 aa) ?_
 conv=>cbv
 rcases ab:Gu (⟨Af,Ah,Ai,Ag,Ap,An⟩:Aa) r1 with⟨ac,ad⟩
 refine .dd hP (Xg5 Al Am Aq Ao hd ab) ?_
 conv=>cbv
 have e:ac=Du (⟨Af,Ah,Ai,Ag,Ap,An⟩:Aa) base:=(by unfold Du;rw[aa,ab])
 rw[hr]at e
 subst e
 exact hQ _ _ (.s rfl rfl)
theorem Xkk{o:Bool}(hs:b.size<2^47)(hr:Dz b base link=o):Fn Tryz.prog 203 [S b,I base,I link] [] ⟨B o,[],[]⟩:=by
 refine Fn.go H5 Tryz.func203 fun P hP Q hQ=>?_
 conv=>cbv
 rcases aa:Ck b with⟨⟨ab,ac,ad,ae⟩,af⟩
 refine .dd hP (Z9 (by omega) aa) ?_
 conv=>cbv
 cases af
 conv=>cbv
 have e:false=Dz b base link:=(by unfold Dz;rw[aa];rfl)
 rw[hr]at e
 subst e
 exact hQ _ _ (.b rfl rfl)
 conv=>cbv
 refine .eql (fun h2=>?_) fun h2=>?_
 conv=>cbv
 refine .eql (fun h3=>?_) fun h3=>?_
 conv=>cbv
 have e:true=Dz b base link:=(by unfold Dz;rw[aa];simp[h2,h3])
 rw[hr]at e
 subst e
 exact hQ _ _ (.b rfl rfl)
 conv=>cbv
 have e:false=Dz b base link:=(by unfold Dz;rw[aa];simp[h2,h3])
 rw[hr]at e
 subst e
 exact hQ _ _ (.b rfl rfl)
 conv=>cbv
 have e:false=Dz b base link:=(by unfold Dz;rw[aa];simp[h2])
 rw[hr]at e
 subst e
 exact hQ _ _ (.b rfl rfl)
theorem Xg6(hb:r.size<2^40)(hr:I2 link r=o):Fn Tryz.prog 246 [I link,S r] [] ⟨I o,[],[]⟩:=by
 refine Fn.go H5 Tryz.func246 fun P hP Q hQ=>?_
 conv=>cbv
 refine .go fun v1 ac=>?_
 conv=>cbv
 generalize aa:Be v1 4=r2
 have zr2:=Cg aa
 refine .dd hP (Fw (by omega) aa) ?_
 conv=>cbv
 refine .go fun s3 ad ae=>?_
 conv=>cbv
 generalize ab:Gl link s3=r4
 have zr4:=Qc ab
 refine .dd hP (XbI (by omega) ab) ?_
 conv=>cbv
 have e:r4=I2 link r:=(by subst_vars;rfl)
 rw[hr]at e
 subst e
 exact hQ _ _ (.i rfl rfl)
theorem Xj5{o:Bool}(hs:b.size<2^47)(hr:Dz b base link=o):Fn Tryz.prog 66 [S b,I base,I link] [] ⟨B o,[],[]⟩:=by
 refine Fn.go H5 Tryz.func66 fun P hP Q hQ=>?_
 conv=>cbv
 rcases aa:Ck b with⟨⟨ab,ac,ad,ae⟩,af⟩
 refine .dd hP (Zv (by omega) aa) ?_
 conv=>cbv
 cases af
 conv=>cbv
 have e:false=Dz b base link:=(by unfold Dz;rw[aa];rfl)
 rw[hr]at e
 subst e
 exact hQ _ _ (.b rfl rfl)
 conv=>cbv
 refine .eql (fun h2=>?_) fun h2=>?_
 conv=>cbv
 refine .eql (fun h3=>?_) fun h3=>?_
 conv=>cbv
 have e:true=Dz b base link:=(by unfold Dz;rw[aa];simp[h2,h3])
 rw[hr]at e
 subst e
 exact hQ _ _ (.b rfl rfl)
 conv=>cbv
 have e:false=Dz b base link:=(by unfold Dz;rw[aa];simp[h2,h3])
 rw[hr]at e
 subst e
 exact hQ _ _ (.b rfl rfl)
 conv=>cbv
 have e:false=Dz b base link:=(by unfold Dz;rw[aa];simp[h2])
 rw[hr]at e
 subst e
 exact hQ _ _ (.b rfl rfl)
theorem Xhn(hb:r.size<2^40)(hr:I2 link r=o):Fn Tryz.prog 146 [I link,S r] [] ⟨I o,[],[]⟩:=by
 refine Fn.go H5 Tryz.func146 fun P hP Q hQ=>?_
 conv=>cbv
 refine .go fun v1 ac=>?_
 conv=>cbv
 generalize aa:Be v1 4=r2
 have zr2:=Cg aa
 refine .dd hP (Fp (by omega) aa) ?_
 conv=>cbv
 refine .go fun s3 ad ae=>?_
 conv=>cbv
 generalize ab:Gl link s3=r4
 have zr4:=Qc ab
 refine .dd hP (XcB (by omega) ab) ?_
 conv=>cbv
 have e:r4=I2 link r:=(by subst_vars;rfl)
 rw[hr]at e
 subst e
 exact hQ _ _ (.i rfl rfl)
theorem Xjv{l:List ByteArray}{xl:List (List D)}(hl:l.map cS=xl)(hn:l.length<2^40)(hb:∀r∈l,r.size≤60)(hr:Gm link l=o):Fn Tryz.prog 204 [I link,.d (.row 1 xl)] [] ⟨I o,[],[]⟩:=by
 refine Fn.go H5 Tryz.func204 fun P hP Q hQ=>?_
 conv=>cbv
 refine .go hl fun v1 ad=>?_
 conv=>cbv
 refine LoopW.lp (κ:=Int×Int) H5 hP [] [7,8] (fun(i0,i9)=>[(0,I i0),(9,I i9)]) (fun(i0,i9)=>[])
  (fun(i0,i9)=>0≤i9∧i9≤l.length∧i0=Gm link (l.take i9.toNat))
  (fun(i0,i9)=>(l.length - i9).toNat) (link,0) ⟨by omega,by omega,rfl⟩ ⟨rfl,rfl,trivial⟩ rfl ?_
 rintro⟨i0,i9⟩ J ⟨h0,h1,hx⟩ hJ
 conv=>cbv
 refine .lss (fun h2=>?_) fun h2=>?_
 conv=>cbv
 refine .go i9.toNat hl fun aa e3 ab=>?_
 conv=>cbv
 have zb:=hb e3 (ab▸List.getElem_mem _)
 generalize ac:I2 i0 e3=r4
 refine .dd hP (Xg6 (by omega) ac) ?_
 conv=>cbv
 refine .add fun v5 ae=>?_
 conv=>cbv
 exact .go [] (r4,v5) (hJ _ ⟨by omega,by omega,by rw[show v5.toNat=i9.toNat+1 by omega,List.take_succ_eq_append_getElem aa,Gm,List.foldl_append,←ab];show r4=I2 (Gm link (l.take i9.toNat)) e3;rw[←hx,ac]⟩ mlt)
 conv=>cbv
 have e:i0=Gm link l:=(by rw[hx,List.take_of_length_le (by omega)])
 rw[hr]at e
 subst e
 exact hQ _ _ (.i rfl rfl)
theorem Xeh{o:List ByteArray}(hs:b.size<2^47)(hr:D6 b=o)(ho:o.map cS=xo):Fn Tryz.prog 18 [S b] [] ⟨.d (.row 1 xo),[],[]⟩:=by
 refine Fn.go H5 Tryz.func18 fun P hP Q hQ=>?_
 conv=>cbv
 rcases ai:Bu b with⟨an,⟨ae,af,ag,ah⟩,ab,ad,al,am⟩
 generalize aa:ab.map cS=aj
 generalize ac:ad.map cI=ak
 refine .dd hP (Ue (by omega) ai aa ac) ?_
 conv=>cbv
 have e:ab=D6 b:=(by unfold D6;rw[ai])
 rw[hr]at e
 subst e
 exact hQ _ _ (.d rfl (by rw[←aa,←ho]))
theorem Xeq(hs:b.size<2^40)(hr:Ja b=o):Fn Tryz.prog 67 [S b] [] ⟨I o,[],[]⟩:=by
 refine Fn.go H5 Tryz.func67 fun P hP Q hQ=>?_
 conv=>cbv
 rcases ae:Bu b with⟨aq,⟨ag,ah,ai,aa⟩,ab,af,ao,ap⟩
 generalize ac:ab.map cS=am
 generalize ad:af.map cI=an
 refine .dd hP (Ue (by omega) ae ac ad) ?_
 conv=>cbv
 refine LoopW.lp (κ:=Int×Int) H5 hP [] [3] (fun(i4,i5)=>[(4,I i4),(5,I i5)]) (fun(i4,i5)=>[])
  (fun(i4,i5)=>0≤i5∧i5≤ab.length∧i4=Gm aa (ab.take i5.toNat))
  (fun(i4,i5)=>(ab.length - i5).toNat) (aa,0) ⟨by omega,by omega,rfl⟩ ⟨rfl,rfl,trivial⟩ rfl ?_
 rintro⟨i4,i5⟩ J ⟨h0,h1,hx⟩ hJ
 have zs:=Xfh (b:=b)
 have zl:=M4 (b:=b)
 rw[ae]at zs zl
 simp only[]at zs zl
 conv=>cbv
 refine .go ac fun v2 ar=>?_
 conv=>cbv
 refine .lss (fun h3=>?_) fun h3=>?_
 conv=>cbv
 refine .go i5.toNat ac fun aj e4 ak=>?_
 conv=>cbv
 have zb:=zs e4 (ak▸List.getElem_mem _)
 generalize al:I2 i4 e4=r5
 refine .dd hP (Xhn (by omega) al) ?_
 conv=>cbv
 refine .add fun v6 au=>?_
 conv=>cbv
 exact .go [] (r5,v6) (hJ _ ⟨by omega,by omega,by rw[show v6.toNat=i5.toNat+1 by omega,List.take_succ_eq_append_getElem aj,Gm,List.foldl_append,←ak];show r5=I2 (Gm aa (ab.take i5.toNat)) e4;rw[←hx,al]⟩ mlt)
 conv=>cbv
 have e:i4=Ja b:=(by unfold Ja;rw[ae,hx,List.take_of_length_le (by omega)])
 rw[hr]at e
 subst e
 exact hQ _ _ (.i rfl rfl)
theorem XjA{o:List T5}(Al:Af.map Bf=Bo)(Am:Ah.map Ac=Bn)(Aq:Ai.map Ac=Bm)(Ao:Ag.map cS=Bp)(hd:okD ⟨Af,Ah,Ai,Ag,Ap,An⟩)(hr:N9 (⟨Af,Ah,Ai,Ag,Ap,An⟩:Aa)=o)(ho:o.map Xk0=xo):Fn Tryz.prog 121 [.agg [.d (.row 3 Bo),.d (.row 2 Bn),.d (.row 2 Bm),.d (.row 1 Bp),I Ap,I An]] [] ⟨.d (.row 11 xo),[],[]⟩:=by
 refine Fn.go H5 Tryz.func121 fun P hP Q hQ=>?_
 conv=>cbv
 refine LoopW.lp (κ:=Int×Int×(List (List D))×Nat) H5 hP [2] [1] (fun(i4,i5,af,ac)=>[(3,.ref 3 0 ac),(4,I i4),(5,I i5)]) (fun(i4,i5,af,ac)=>[(3,.row 11 false af)])
  (fun(i4,i5,af,ac)=>∃(w3:List T5),w3.map Xk0=af∧ac=w3.length∧(w3.length≤16∧0≤i4∧i4≤2000000000)∧N9 (⟨Af,Ah,Ai,Ag,Ap,An⟩:Aa)=w3++Ki (⟨Af,Ah,Ai,Ag,Ap,An⟩:Aa) (16 - w3.length) i4 i5)
  (fun(i4,i5,af,ac)=>16 - ac) (0,0,[],0) ⟨[],rfl,rfl,by simp,rfl⟩ ⟨rfl,rfl,rfl,trivial⟩ rfl ?_
 rintro⟨i4,i5,af,ac⟩ J ⟨w3,ad,a8,hb,hI⟩ hJ
 conv=>cbv
 refine .go fun v1 bb=>?_
 conv=>cbv
 refine .lss (fun h2=>?_) fun h2=>?_
 conv=>cbv
 generalize ak:Du (⟨Af,Ah,Ai,Ag,Ap,An⟩:Aa) i4=r3
 refine .dd hP (Xlh Al Am Aq Ao hd ak) ?_
 conv=>cbv
 have z3:=Ps hd ak
 rcases am:Bu r3 with⟨au,⟨ag,ah,ai,aj⟩,ab,al,ap,aq⟩
 generalize aa:ab.map cS=ax
 generalize ae:al.map cI=ay
 refine .dd hP (Zf (by omega) am aa ae) ?_
 conv=>cbv
 have zr:=M4 (b:=r3)
 have zq:=Xfh (b:=r3)
 rw[am]at zr zq
 simp only[]at zr zq
 have rq:D6 r3=ab:=by unfold D6;rw[am]
 generalize an:Dz r3 i4 i5=r5
 refine .dd hP (Xkk (by omega) an) ?_
 cases r5
 conv=>cbv
 have e:w3=N9 (⟨Af,Ah,Ai,Ag,Ap,An⟩:Aa):=(by rw[hI,R7 ak (.inl an),List.append_nil])
 rw[hr]at e
 subst e
 exact hQ _ _ (.r rfl rfl (by rw[←ad,List.length_map];first|omega|(simp;omega)) (by rw[←ad,←ho]))
 conv=>cbv
 refine .go aa fun v6 ar=>?_
 conv=>cbv
 refine .eql (fun h7=>?_) fun h7=>?_
 conv=>cbv
 have e:w3=N9 (⟨Af,Ah,Ai,Ag,Ap,An⟩:Aa):=(by rw[hI,R7 ak (.inr (by rw[rq];exact List.eq_nil_of_length_eq_zero (by omega))),List.append_nil])
 rw[hr]at e
 subst e
 exact hQ _ _ (.r rfl rfl (by rw[←ad,List.length_map];first|omega|(simp;omega)) (by rw[←ad,←ho]))
 conv=>cbv
 have hg:=V0 an
 obtain⟨hh,g1,g2,g3,g4,g5⟩:=hg
 have hne:ab≠[]:=by intro e;rw[e]at ar;simp at ar;exact h7 ar
 refine .one (⟨i4,r3,⟨au,⟨ag,ah,ai,aj⟩,ab,al,ap,aq⟩⟩:T5) ad (by rw[←aa,←ae];rfl) fun az z8 ba a1=>?_
 conv=>cbv
 refine .go aa fun v9 a2=>?_
 conv=>cbv
 refine .add fun a6 aw=>?_
 conv=>cbv
 generalize ao:Gm i5 ab=a7
 refine .dd hP (Xjv aa (by omega) zq ao) ?_
 conv=>cbv
 exact .go [10] (a6,a7,z8,az) (hJ _ ⟨_,a1,Ic,by rw[List.length_append];simp;omega,by rw[hI,show 16 - w3.length=(15 - w3.length)+1 by omega,Vv ak an (by rw[rq];exact hne),List.append_assoc,am,List.length_append,rq,ao,←a2,←aw];simp only[List.length_singleton];rw[show 16 - (w3.length+1)=15 - w3.length by omega];rfl⟩ mlt)
 conv=>cbv
 have e:w3=N9 (⟨Af,Ah,Ai,Ag,Ap,An⟩:Aa):=(by rw[hI,show 16 - w3.length=0 by omega];simp[Ki])
 rw[hr]at e
 subst e
 exact hQ _ _ (.r rfl rfl (by rw[←ad,List.length_map];first|omega|(simp;omega)) (by rw[←ad,←ho]))
theorem Xin{o:List Int}(Al:Af.map Bf=Bo)(Am:Ah.map Ac=Bn)(Aq:Ai.map Ac=Bm)(Ao:Ag.map cS=Bp)(hd:okD ⟨Af,Ah,Ai,Ag,Ap,An⟩)(hr:Fo (⟨Af,Ah,Ai,Ag,Ap,An⟩:Aa)=o)(ho:o.map cI=xo):Fn Tryz.prog 14 [.agg [.d (.row 3 Bo),.d (.row 2 Bn),.d (.row 2 Bm),.d (.row 1 Bp),I Ap,I An]] [] ⟨.d (.row 1 xo),[],[]⟩:=by
 refine Fn.go H5 Tryz.func14 fun P hP Q hQ=>?_
 conv=>cbv
 refine LoopW.lp (κ:=Int×Int×(List (List D))×Nat) H5 hP [2] [1] (fun(i4,i5,ac,aa)=>[(3,.ref 3 0 aa),(4,I i4),(5,I i5)]) (fun(i4,i5,ac,aa)=>[(3,.row 1 false ac)])
  (fun(i4,i5,ac,aa)=>∃(w3:List Int),w3.map cI=ac∧aa=w3.length∧(w3.length≤16∧0≤i4∧i4≤2000000000)∧Fo (⟨Af,Ah,Ai,Ag,Ap,An⟩:Aa)=w3++(Ki (⟨Af,Ah,Ai,Ag,Ap,An⟩:Aa) (16 - w3.length) i4 i5).map (·.base_))
  (fun(i4,i5,ac,aa)=>16 - aa) (0,0,[],0) ⟨[],rfl,rfl,by simp,rfl⟩ ⟨rfl,rfl,rfl,trivial⟩ rfl ?_
 rintro⟨i4,i5,ac,aa⟩ J ⟨w3,ab,an,hb,hI⟩ hJ
 conv=>cbv
 refine .go fun v1 ap=>?_
 conv=>cbv
 refine .lss (fun h2=>?_) fun h2=>?_
 conv=>cbv
 generalize ae:Du (⟨Af,Ah,Ai,Ag,Ap,An⟩:Aa) i4=r3
 refine .dd hP (XfU Al Am Aq Ao hd ae) ?_
 conv=>cbv
 have z3:=Ps hd ae
 generalize ad:D6 r3=l4
 generalize ah:l4.map cS=aq
 refine .dd hP (Xeh (by omega) ad ah) ?_
 conv=>cbv
 refine .go ah fun v5 ag=>?_
 conv=>cbv
 refine .eql (fun h6=>?_) fun h6=>?_
 conv=>cbv
 have e:w3=Fo (⟨Af,Ah,Ai,Ag,Ap,An⟩:Aa):=(by rw[hI,R7 ae (.inr (by rw[ad];exact List.eq_nil_of_length_eq_zero (by omega)))];simp)
 rw[hr]at e
 subst e
 exact hQ _ _ (.r rfl rfl (by rw[←ab,List.length_map];first|omega|(simp;omega)) (by rw[←ab,←ho]))
 conv=>cbv
 generalize af:Dz r3 i4 i5=r7
 refine .dd hP (Xj5 (by omega) af) ?_
 cases r7
 conv=>cbv
 have e:w3=Fo (⟨Af,Ah,Ai,Ag,Ap,An⟩:Aa):=(by rw[hI,R7 ae (.inl af)];simp)
 rw[hr]at e
 subst e
 exact hQ _ _ (.r rfl rfl (by rw[←ab,List.length_map];first|omega|(simp;omega)) (by rw[←ab,←ho]))
 conv=>cbv
 have hg:=V0 af
 obtain⟨hh,g1,g2,g3,g4,g5⟩:=hg
 have hne:l4≠[]:=by intro e;rw[e]at ag;simp at ag;exact h6 ag
 have zr:=M4 (b:=r3)
 have rq:(Bu r3).records_=l4:=ad
 rw[rq]at zr
 refine .one i4 ab rfl fun ak z8 ao al=>?_
 conv=>cbv
 generalize ai:Ja r3=r9
 refine .dd hP (Xeq (by omega) ai) ?_
 conv=>cbv
 refine .add fun am aj=>?_
 conv=>cbv
 exact .go [5] (am,r9,z8,ak) (hJ _ ⟨_,al,Ic,by rw[List.length_append];simp;omega,by rw[hI,show 16 - w3.length=(15 - w3.length)+1 by omega,Vv ae af (by rw[ad];exact hne),ad,List.map_cons,List.append_assoc,List.length_append,←Ts af ad,ai,←ag,←aj];simp only[List.length_singleton];rw[show 16 - (w3.length+1)=15 - w3.length by omega];rfl⟩ mlt)
 conv=>cbv
 have e:w3=Fo (⟨Af,Ah,Ai,Ag,Ap,An⟩:Aa):=(by rw[hI,show 16 - w3.length=0 by omega];simp[Ki])
 rw[hr]at e
 subst e
 exact hQ _ _ (.r rfl rfl (by rw[←ab,List.length_map];first|omega|(simp;omega)) (by rw[←ab,←ho]))
end
section
open Go Go.Proofs
def XlL{α:Type}(f:α→Int)(l:List α):Int:=(l.map f).foldl (·+·) 0
theorem Xca{α:Type}{f:α→Int}{l:List α}{k:Nat}(h:k<l.length):XlL f (l.take (k+1))=XlL f (l.take k)+f l[k]:=by unfold XlL;rw[Xbv h,List.foldl_append];rfl
def Jy{α:Type}[DecidableEq α](a b:List α):Bool:=decide (a=b)
end
section
open Go Go.Proofs
def Xb3:List (Nat×TyRow):=[ty3,ty9,Z2,XaC,Xp,Xgj,U1]
theorem Xdo:B1 Tryz.prog Xb3:=B1.of (by kernel_rfl)
theorem Px:Setup Tryz.prog Xb3:=⟨Xdo,mixed⟩
def Xe8(l:List Int)(x:Int):Int:=Ug (fun y=>decide (y=x)) l
def My(l:List Int)(x:Int):Bool:=decide (x∈l)
def N8(chain:List Int)(name:ByteArray):Bool:=decide ((Bv name).1=2∨((Bv name).1=1∧(Bv name).2∉chain))
def Cc(d:Aa):List ByteArray:=(d.entries_.map fun e=>e.name_).filter (N8 (Fo d))
def B0(name:ByteArray)(chain:List Int):Bool:=!N8 chain name
theorem Xh4(name:ByteArray):(Bv name).1=0∨(Bv name).1=1∨(Bv name).1=2:=by
 unfold Bv
 split
 ·split
  ·exact .inr (.inl rfl)
  ·split
   ·exact .inr (.inr rfl)
   ·exact .inl rfl
 ·exact .inl rfl
variable {l:List Int} {xl:List (List D)} {x:Int} {o:Bool}
theorem Oi{o:Int}(hl:l.map cI=xl)(hn:l.length<2^40)(hr:Xe8 l x=o):Fn Tryz.prog 231 [.d (.row 1 xl),I x] [] ⟨I o,[],[]⟩:=by
 refine Fn.go Px Tryz.func231 fun P hP Q hQ=>?_
 conv=>cbv
 refine .go hl fun v1 ac=>?_
 conv=>cbv
 refine LoopW.lp (κ:=Int) Px hP [] [0,1,7] (fun i8=>[(8,I i8)]) (fun i8=>[])
  (fun i8=>0≤i8∧i8≤l.length∧∀(j:Nat) (hj:j<l.length),j<i8.toNat→decide (l[j]=x)=false)
  (fun i8=>(l.length - i8).toNat) (0) ⟨by omega,by omega,fun j _ h=>by simp at h⟩ ⟨rfl,trivial⟩ rfl ?_
 rintro i8 J ⟨h0,h1,hb⟩ hJ
 conv=>cbv
 refine .lss (fun h2=>?_) fun h2=>?_
 conv=>cbv
 refine .go i8.toNat hl fun ab e3 aa=>?_
 conv=>cbv
 refine .eql (fun h4=>?_) fun h4=>?_
 conv=>cbv
 have e:i8=Xe8 l x:=(by exact Me (p:=fun y=>decide (y=x)) h0 (by omega) (by rw[←aa];exact decide_eq_true h4.symm) hb)
 rw[hr]at e
 subst e
 exact hQ _ _ (.i rfl rfl)
 conv=>cbv
 refine .add fun v5 ad=>?_
 conv=>cbv
 exact .go [] (v5) (hJ _ ⟨by omega,by omega,fun j hj h=>if e:j=i8.toNat then by subst e;rw[←aa];exact decide_eq_false (Ne.symm h4)else hb j hj (by omega)⟩ mlt)
 conv=>cbv
 have e:(-1)=Xe8 l x:=(by exact Hs (p:=fun y=>decide (y=x)) fun j hj=>hb j hj (by omega))
 rw[hr]at e
 subst e
 exact hQ _ _ (.i rfl rfl)
theorem Mk(hl:l.map cI=xl)(hn:l.length<2^40)(hr:My l x=o):Fn Tryz.prog 157 [.d (.row 1 xl),I x] [] ⟨B o,[],[]⟩:=by
 refine Fn.go Px Tryz.func157 fun P hP Q hQ=>?_
 conv=>cbv
 generalize aa:Xe8 l x=r1
 refine .dd hP (Oi hl (by omega) aa) ?_
 conv=>cbv
 refine .geq (fun h2=>?_) fun h2=>?_
 conv=>cbv
 have e:true=My l x:=(by unfold My;symm;rw[decide_eq_true_eq];obtain⟨hi,hp⟩:=Rx (p:=fun y=>decide (y=x)) aa h2;have hp:=of_decide_eq_true hp;rw[←hp];exact List.getElem_mem hi)
 rw[hr]at e
 subst e
 exact hQ _ _ (.b rfl rfl)
 conv=>cbv
 have e:false=My l x:=(by unfold My;symm;rw[decide_eq_false_iff_not];intro hm;have:=XdW (p:=fun y=>decide (y=x)) aa (by omega) x hm;simp at this)
 rw[hr]at e
 subst e
 exact hQ _ _ (.b rfl rfl)
theorem Qp{name:ByteArray}{chain:List Int}{xchain:List (List D)}(hchain:chain.map cI=xchain)(hs:name.size≤1000000000)(hc:chain.length<2^40)(hr:B0 name chain=o):Fn Tryz.prog 155 [S name,.ptr 0 0 0] [.box 34 [.d (.row 1 xchain)]] ⟨B o,[],[]⟩:=by
 refine Fn.goR Px Tryz.func155 fun P hP Q hQ=>?_
 conv=>cbv
 rcases aa:Bv name with⟨ad,ac⟩
 refine .dd hP (Xal (by omega) aa) ?_
 conv=>cbv
 refine .eql (fun h2=>?_) fun h2=>?_
 conv=>cbv
 have e:true=B0 name chain:=(by unfold B0 N8;rw[aa];dsimp only;rw[decide_eq_false (by omega)];rfl)
 rw[hr]at e
 subst e
 exact hQ _ _ (.o [] rfl)
 conv=>cbv
 refine .eql (fun h3=>?_) fun h3=>?_
 conv=>cbv
 generalize ab:My chain ac=r4
 refine .dd hP (Mk hchain (by omega) ab) ?_
 cases r4
 conv=>cbv
 have e:false=B0 name chain:=(by unfold B0 N8;rw[aa];dsimp only;rw[decide_eq_true (.inr ⟨h3,of_decide_eq_false ab⟩)];rfl)
 rw[hr]at e
 subst e
 exact hQ _ _ (.o [] rfl)
 conv=>cbv
 have e:true=B0 name chain:=(by unfold B0 N8;rw[aa];dsimp only;rw[decide_eq_false (by rintro(h|⟨_,h⟩);omega;exact h (of_decide_eq_true ab))];rfl)
 rw[hr]at e
 subst e
 exact hQ _ _ (.o [] rfl)
 conv=>cbv
 have e:false=B0 name chain:=(by have hk:=Xh4 name;rw[aa]at hk;dsimp only at hk;unfold B0 N8;rw[aa];dsimp only;rw[decide_eq_true (.inl (by omega))];rfl)
 rw[hr]at e
 subst e
 exact hQ _ _ (.o [] rfl)
theorem XdK{Af:List A0}{Bo:List (List D)}{Ah:List Ad}{Bn:List (List D)}{Ai:List Ad}{Bm:List (List D)}{Ag:List ByteArray}{Bp:List (List D)}{Ap:Int}{An:Int}{o:List ByteArray}{xo:List (List D)}(Al:Af.map Bf=Bo)(Am:Ah.map Ac=Bn)(Aq:Ai.map Ac=Bm)(Ao:Ag.map cS=Bp)(hd:okD ⟨Af,Ah,Ai,Ag,Ap,An⟩)(hr:Cc (⟨Af,Ah,Ai,Ag,Ap,An⟩:Aa)=o)(ho:o.map cS=xo):Fn Tryz.prog 82 [.agg [.d (.row 3 Bo),.d (.row 2 Bn),.d (.row 2 Bm),.d (.row 1 Bp),I Ap,I An]] [] ⟨.d (.row 1 xo),[],[]⟩:=by
 refine Fn.go Px Tryz.func82 fun P hP Q hQ=>?_
 conv=>cbv
 have bf:Ah.length≤1000000000:=hd.2.2.1
 have aw:∀e∈Ah,e.name_.size≤1000000000:=hd.2.2.2.1
 generalize ao:Fo (⟨Af,Ah,Ai,Ag,Ap,An⟩:Aa)=l1
 generalize ap:l1.map cI=bg
 refine .dd hP (Xin Al Am Aq Ao hd ao ap) ?_
 conv=>cbv
 refine LoopW.lp (κ:=Int×(List (List D))×Nat) Px hP [2] [1,4] (fun(i5,ag,ah)=>[(3,.ref 3 0 ah),(5,I i5)]) (fun(i5,ag,ah)=>[(3,.row 1 false ag)])
  (fun(i5,ag,ah)=>∃(w3:List ByteArray),w3.map cS=ag∧ah=w3.length∧0≤i5∧i5≤Ah.length∧w3=((Ah.take i5.toNat).map fun e=>e.name_).filter (N8 l1)∧w3.length≤i5.toNat)
  (fun(i5,ag,ah)=>Ah.length - i5.toNat) (0,[],0) ⟨[],rfl,rfl,by omega,by omega,rfl,by simp⟩ ⟨rfl,rfl,trivial⟩ rfl ?_
 rintro⟨i5,ag,ah⟩ J ⟨w3,aj,a6,h0,hle,hw,hwl⟩ hJ
 conv=>cbv
 refine .go Am fun v2 bh=>?_
 conv=>cbv
 refine .lss (fun h3=>?_) fun h3=>?_
 conv=>cbv
 refine .go i5.toNat Am fun ai ⟨aa,a7⟩ ac=>?_
 conv=>cbv
 have hsz4:aa.size≤1000000000:=by have:=aw _ (List.getElem_mem ai);rw[←ac]at this;exact this
 have hle1:=M1 ao
 rcases aq:Bv aa with⟨ab,ak⟩
 refine .dd hP (Tg (by omega) aq) ?_
 conv=>cbv
 have hl:N8 l1 aa=decide (ab=2∨(ab=1∧ak∉l1)):=by unfold N8;rw[aq]
 refine .eql (fun h6=>?_) fun h6=>?_
 conv=>cbv
 refine .go i5.toNat Am fun a8 ⟨ae,ba⟩ am=>?_
 conv=>cbv
 refine .one ae aj rfl fun ax z8 bb ay=>?_
 conv=>cbv
 refine .add fun v9 az=>?_
 conv=>cbv
 exact .go [5] (v9,z8,ax) (hJ _ ⟨_,ay,Ic,by omega,by omega,by(first|rw[show v9.toNat=i5.toNat+1 by omega]|rw[show al.toNat=i5.toNat+1 by omega]|rw[show v8.toNat=i5.toNat+1 by omega]);rw[hw,List.take_succ_eq_append_getElem ai,List.map_append,List.filter_append,←ac];simp only[List.map_cons,List.map_nil,List.filter_cons,List.filter_nil,hl];first|(guard_hyp h6:ab=2;rw[decide_eq_true (.inl h6)];try rw[if_pos rfl,show ae=aa from congrArg Ad.name_ (am.trans ac.symm)])|(guard_hyp h7:ab=1;guard_hyp ad:Mf l1 ak=false;rw[decide_eq_true (.inr ⟨h7,of_decide_eq_false ad⟩),if_pos rfl,show af=aa from congrArg Ad.name_ (an.trans ac.symm)])|(guard_hyp h7:ab=1;rw[decide_eq_false (by rintro(h|⟨_,h⟩);exact h6 h;exact h (of_decide_eq_true ad))];simp)|(rw[decide_eq_false (by rintro(h|⟨h,_⟩);exact h6 h;exact h7 h)];simp),by first|omega|(rw[List.length_append,List.length_singleton];omega)⟩ mlt)
 conv=>cbv
 refine .eql (fun h7=>?_) fun h7=>?_
 conv=>cbv
 generalize ad:Mf l1 ak=r8
 refine .dd hP (Xj3 ap (by omega) ad) ?_
 cases r8
 conv=>cbv
 refine .go i5.toNat Am fun bc ⟨af,bd⟩ an=>?_
 conv=>cbv
 refine .one af aj rfl fun ar a1 a2 au=>?_
 conv=>cbv
 refine .add fun al be=>?_
 conv=>cbv
 exact .go [5] (al,a1,ar) (hJ _ ⟨_,au,Ic,by omega,by omega,by(first|rw[show v9.toNat=i5.toNat+1 by omega]|rw[show al.toNat=i5.toNat+1 by omega]|rw[show v8.toNat=i5.toNat+1 by omega]);rw[hw,List.take_succ_eq_append_getElem ai,List.map_append,List.filter_append,←ac];simp only[List.map_cons,List.map_nil,List.filter_cons,List.filter_nil,hl];first|(guard_hyp h6:ab=2;rw[decide_eq_true (.inl h6)];try rw[if_pos rfl,show ae=aa from congrArg Ad.name_ (am.trans ac.symm)])|(guard_hyp h7:ab=1;guard_hyp ad:Mf l1 ak=false;rw[decide_eq_true (.inr ⟨h7,of_decide_eq_false ad⟩),if_pos rfl,show af=aa from congrArg Ad.name_ (an.trans ac.symm)])|(guard_hyp h7:ab=1;rw[decide_eq_false (by rintro(h|⟨_,h⟩);exact h6 h;exact h (of_decide_eq_true ad))];simp)|(rw[decide_eq_false (by rintro(h|⟨h,_⟩);exact h6 h;exact h7 h)];simp),by first|omega|(rw[List.length_append,List.length_singleton];omega)⟩ mlt)
 conv=>cbv
 refine .add fun v9 az=>?_
 conv=>cbv
 exact .go [3] (v9,ag,ah) (hJ _ ⟨_,aj,Ic,by omega,by omega,by(first|rw[show v9.toNat=i5.toNat+1 by omega]|rw[show al.toNat=i5.toNat+1 by omega]|rw[show v8.toNat=i5.toNat+1 by omega]);rw[hw,List.take_succ_eq_append_getElem ai,List.map_append,List.filter_append,←ac];simp only[List.map_cons,List.map_nil,List.filter_cons,List.filter_nil,hl];first|(guard_hyp h6:ab=2;rw[decide_eq_true (.inl h6)];try rw[if_pos rfl,show ae=aa from congrArg Ad.name_ (am.trans ac.symm)])|(guard_hyp h7:ab=1;guard_hyp ad:Mf l1 ak=false;rw[decide_eq_true (.inr ⟨h7,of_decide_eq_false ad⟩),if_pos rfl,show af=aa from congrArg Ad.name_ (an.trans ac.symm)])|(guard_hyp h7:ab=1;rw[decide_eq_false (by rintro(h|⟨_,h⟩);exact h6 h;exact h (of_decide_eq_true ad))];simp)|(rw[decide_eq_false (by rintro(h|⟨h,_⟩);exact h6 h;exact h7 h)];simp),by first|omega|(rw[List.length_append,List.length_singleton];omega)⟩ mlt)
 conv=>cbv
 refine .add fun v8 bi=>?_
 conv=>cbv
 exact .go [3] (v8,ag,ah) (hJ _ ⟨_,aj,Ic,by omega,by omega,by(first|rw[show v9.toNat=i5.toNat+1 by omega]|rw[show al.toNat=i5.toNat+1 by omega]|rw[show v8.toNat=i5.toNat+1 by omega]);rw[hw,List.take_succ_eq_append_getElem ai,List.map_append,List.filter_append,←ac];simp only[List.map_cons,List.map_nil,List.filter_cons,List.filter_nil,hl];first|(guard_hyp h6:ab=2;rw[decide_eq_true (.inl h6)];try rw[if_pos rfl,show ae=aa from congrArg Ad.name_ (am.trans ac.symm)])|(guard_hyp h7:ab=1;guard_hyp ad:Mf l1 ak=false;rw[decide_eq_true (.inr ⟨h7,of_decide_eq_false ad⟩),if_pos rfl,show af=aa from congrArg Ad.name_ (an.trans ac.symm)])|(guard_hyp h7:ab=1;rw[decide_eq_false (by rintro(h|⟨_,h⟩);exact h6 h;exact h (of_decide_eq_true ad))];simp)|(rw[decide_eq_false (by rintro(h|⟨h,_⟩);exact h6 h;exact h7 h)];simp),by first|omega|(rw[List.length_append,List.length_singleton];omega)⟩ mlt)
 conv=>cbv
 have e:w3=Cc (⟨Af,Ah,Ai,Ag,Ap,An⟩:Aa):=(by unfold Cc;rw[ao,hw,List.take_of_length_le (by omega)])
 rw[hr]at e
 subst e
 exact hQ _ _ (.r rfl rfl (by rw[←aj,List.length_map];first|omega|(simp;omega)) (by rw[←aj,←ho]))
end
section
open Go Go.Proofs
def Xci:List (Nat×TyRow):=[ty3,ty9,Z2,XaC,Xp,Xgj,ty96,U1,Xmh]
theorem XbY:B1 Tryz.prog Xci:=B1.of (by kernel_rfl)
theorem Ky:Setup Tryz.prog Xci:=⟨XbY,mixed⟩
theorem Xiq{α:Type}{p:α→Bool}{l:List α}{i:Int}(e:Ug p l=i)(h:i≠-1):0≤i∧i<l.length∧l.take i.toNat=(l.take (i+1).toNat).filter (fun x=>!p x):=by
 have hb:=Xgo e
 have h0:0≤i:=by omega
 obtain⟨hi,hp⟩:=Rx e h0
 refine⟨h0,hb.2,?_⟩
 rw[show(i+1).toNat=i.toNat+1 by omega,List.take_succ_eq_append_getElem hi,List.filter_append]
 have h1:(l.take i.toNat).filter (fun x=>!p x)=l.take i.toNat:=by
  rw[List.filter_eq_self]
  intro x hx
  obtain⟨j,hj,rfl⟩:=List.getElem_of_mem hx
  have aa:j<i.toNat:=by have:=hj;rw[List.length_take]at this;omega
  rw[List.getElem_take]
  have e2:l.findIdx p=i.toNat:=by
   unfold Ug at e
   split at e<;>omega
  have:=List.not_of_lt_findIdx (p:=p) (xs:=l) (i:=j) (by omega)
  simpa using this
 rw[h1]
 simp[hp]
theorem Xh2{α:Type}{p:α→Bool}{l w:List α}{i j:Nat}(hj:j<l.length)(hij:i<j)(hl:w.length=l.length)(h1:w.take i=(l.take j).filter (fun x=>!p x))(h2:w.drop j=l.drop j)(hp:p l[j]=false):
  (w.set i l[j]).take (i+1)=(l.take (j+1)).filter (fun x=>!p x)∧(w.set i l[j]).drop (j+1)=l.drop (j+1):=by
 constructor
 ·rw[List.take_succ_eq_append_getElem (by rw[List.length_set];omega),List.take_set_of_le (Nat.le_refl i),h1,List.take_succ_eq_append_getElem hj,List.filter_append]
  simp[hp]
 ·rw[List.drop_set_of_lt (by omega),←List.drop_drop,←List.drop_drop,h2]
theorem XiN{α:Type}{p:α→Bool}{l w:List α}{i j:Nat}(hj:j<l.length)(h1:w.take i=(l.take j).filter (fun x=>!p x))(h2:w.drop j=l.drop j)(hp:p l[j]=true):
  w.take i=(l.take (j+1)).filter (fun x=>!p x)∧w.drop (j+1)=l.drop (j+1):=by
 constructor
 ·rw[List.take_succ_eq_append_getElem hj,List.filter_append,h1]
  simp[hp]
 ·rw[←List.drop_drop,←List.drop_drop,h2]
theorem Xm8{α:Type}{l w:List α}{j:Nat}(hj:j<w.length)(aa:j<l.length)(h2:w.drop j=l.drop j):w[j]=l[j]:=by
 have:=congrArg (·[0]?) h2
 simpa[hj,aa]using this
theorem Xls{α:Type}{c:α→List D}{w o:List α}{z:α}{i n:Nat}{x:List (List D)}(hn:n=w.length - i)(hi:i≤w.length)(ho:w.take i=o)(h:(w.take i++(List.replicate n z++w.drop (i+n))).map c=x):i=o.length∧(o++List.replicate (w.length - o.length) z).map c=x:=by
 have h1:i=o.length:=by rw[←ho,List.length_take];omega
 refine⟨h1,?_⟩
 rw[←h,ho,List.drop_of_length_le (by omega),List.append_nil,hn,h1]
def Ex(l:List ByteArray)(chain:List Int):Int:=Ug (fun x=>B0 x chain) l
variable {l o Ag:List ByteArray} {xl xchain Bo Bn Bm Bp xo:List (List D)} {nl no:Nat} {chain:List Int} {Af:List A0} {Ah Ai:List Ad} {Ap An:Int}
theorem M7{o:Int}(hl:l.map cS=xl)(hnl:nl=l.length)(hchain:chain.map cI=xchain)(hn:l.length<2^40)(hc:chain.length<2^40)(hel:∀x∈l,x.size≤1000000000)(hr:Ex l chain=o):Fn Tryz.prog 228 [.ref 0 0 nl,.clo 155 [.ptr 1 0 0]] [.row 1 false xl,.box 34 [.d (.row 1 xchain)]] ⟨I o,[],[]⟩:=by
 refine Fn.goR Ky Tryz.func228 fun P hP Q hQ=>?_
 conv=>cbv
 refine .go fun v1 af=>?_
 conv=>cbv
 refine LoopW.lp (κ:=Int) Ky hP [] [0,1,7] (fun i8=>[(8,I i8)]) (fun i8=>[])
  (fun i8=>0≤i8∧i8≤l.length∧∀(j:Nat) (hj:j<l.length),j<i8.toNat→B0 l[j] chain=false)
  (fun i8=>(l.length - i8).toNat) (0) ⟨by omega,by omega,fun j _ h=>by simp at h⟩ ⟨rfl,trivial⟩ rfl ?_
 rintro i8 J ⟨h0,h1,hb⟩ hJ
 conv=>cbv
 refine .lss (fun h2=>?_) fun h2=>?_
 conv=>cbv
 refine .go i8.toNat fun p3 ac ad=>?_
 conv=>cbv
 refine .go hl fun ae e4 aa=>?_
 conv=>cbv
 subst ac
 generalize ab:B0 e4 chain=r5
 refine .bx [1] [] hP (Qp hchain (hel e4 (aa▸List.getElem_mem _)) hc ab) rfl rfl rfl rfl ?_
 cases r5
 conv=>cbv
 refine .add fun v6 ag=>?_
 conv=>cbv
 exact .go [] (v6) (hJ _ ⟨by omega,by omega,fun j hj h=>if e:j=i8.toNat then by subst e;rw[←aa];exact ab else hb j hj (by omega)⟩ mlt)
 conv=>cbv
 have e:i8=Ex l chain:=(by exact Me (p:=fun x=>B0 x chain) h0 (by omega) (by rw[←aa];exact ab) hb)
 rw[hr]at e
 subst e
 exact hQ _ _ (.o [] rfl)
 conv=>cbv
 have e:(-1)=Ex l chain:=(by exact Hs (p:=fun x=>B0 x chain) fun j hj=>hb j hj (by omega))
 rw[hr]at e
 subst e
 exact hQ _ _ (.o [] rfl)
def Em(l:List ByteArray)(chain:List Int):List ByteArray:=l.filter (fun x=>!B0 x chain)
theorem Mr{xf:List (List D)}(hl:l.map cS=xl)(hnl:nl=l.length)(hchain:chain.map cI=xchain)(hn:l.length<2^40)(hc:chain.length<2^40)(hel:∀x∈l,x.size≤1000000000)(hr:Em l chain=o)(hf:(o++List.replicate (l.length - o.length) (tx [])).map cS=xf)(hno:no=o.length):Fn Tryz.prog 154 [.ref 0 0 nl,.clo 155 [.ptr 1 0 0]] [.row 1 false xl,.box 34 [.d (.row 1 xchain)]] ⟨.ref 0 0 no,[],[(0,.row 1 false xf)]⟩:=by
 refine Fn.goR Ky Tryz.func154 fun P hP Q hQ=>?_
 conv=>cbv
 generalize ad:Ex l chain=r1
 refine .bx [0,1] [] hP (M7 hl (by first|rfl|omega|(simp;omega)) hchain hn hc hel ad) rfl rfl rfl rfl ?_
 conv=>cbv
 refine .eql (fun h2=>?_) fun h2=>?_
 conv=>cbv
 have e:l=o:=by rw[←hr];unfold Em;symm;rw[List.filter_eq_self];intro x hx;rw[XdW (p:=fun x=>B0 x chain) ad (by omega) x hx];rfl
 subst e
 obtain rfl:xl=xf:=by rw[←hl,←hf];simp
 obtain rfl:nl=no:=by omega
 exact hQ _ _ (.o [] rfl)
 conv=>cbv
 have hd:=Xiq (p:=fun x=>B0 x chain) ad h2
 refine .add fun v3 aj=>?_
 conv=>cbv
 refine LoopW.lp (κ:=Int×Int×(List (List D))) Ky hP [] [0,1] (fun(i5,i6,aa)=>[(5,I i5),(6,I i6)]) (fun(i5,i6,aa)=>[(0,.row 1 false aa)])
  (fun(i5,i6,aa)=>∃(w0:List ByteArray),w0.map cS=aa∧(0≤i5∧i5<i6∧i6≤l.length)∧w0.length=l.length∧w0.take i5.toNat=(l.take i6.toNat).filter (fun x=>!B0 x chain)∧w0.drop i6.toNat=l.drop i6.toNat)
  (fun(i5,i6,aa)=>(l.length - i6).toNat) (r1,v3,xl) ⟨l,hl,by omega,rfl,by rw[hd.2.2,aj],rfl⟩ ⟨rfl,rfl,trivial⟩ rfl ?_
 rintro⟨i5,i6,aa⟩ J ⟨w0,ab,hb,hwl,hwt,hwd⟩ hJ
 conv=>cbv
 refine .go fun v4 aw=>?_
 conv=>cbv
 refine .lss (fun h5=>?_) fun h5=>?_
 conv=>cbv
 refine .go i6.toNat fun p6 ak ap=>?_
 conv=>cbv
 refine .go ab fun ag e7 al=>?_
 conv=>cbv
 subst ak
 have ac:e7=l[i6.toNat]:=al.trans (Xm8 ag (by omega) hwd)
 generalize ae:B0 e7 chain=r8
 refine .bx [1] [] hP (Qp hchain (hel e7 (by rw[ac];exact List.getElem_mem _)) hc ae) rfl rfl rfl rfl ?_
 cases r8
 conv=>cbv
 refine .go i5.toNat fun p9 am aq=>?_
 conv=>cbv
 refine .all (e7) ab rfl fun an ah=>?_
 conv=>cbv
 refine .add fun ai ar=>?_
 conv=>cbv
 refine .add fun af au=>?_
 conv=>cbv
 have hk:=Xh2 (i:=i5.toNat) (p:=fun x=>B0 x chain) (show i6.toNat<l.length by omega) (by omega) hwl hwt hwd (by rw[←ac];exact ae)
 rw[←ac]at hk
 subst am
 exact .go [] (ai,af,an) (hJ _ ⟨_,ah,by omega,by rw[List.length_set];exact hwl,by rw[show ai.toNat=i5.toNat+1 by omega,show af.toNat=i6.toNat+1 by omega];exact hk.1,by rw[show af.toNat=i6.toNat+1 by omega];exact hk.2⟩ mlt)
 conv=>cbv
 refine .add fun v9 ax=>?_
 conv=>cbv
 have hk:=XiN (p:=fun x=>B0 x chain) (show i6.toNat<l.length by omega) hwt hwd (by rw[←ac];exact ae)
 exact .go [] (i5,v9,aa) (hJ _ ⟨_,ab,by omega,hwl,by rw[show v9.toNat=i6.toNat+1 by omega];exact hk.1,by rw[show v9.toNat=i6.toNat+1 by omega];exact hk.2⟩ mlt)
 conv=>cbv
 refine .lo fun on6 n6 hon6 ay=>?_
 conv=>cbv
 refine .go (tx []) hP ab Tryz.underlying26 (by kernel_rfl) rfl fun z7 ao=>?_
 conv=>cbv
 refine .hi fun on8 n8 hon8 az=>?_
 conv=>cbv
 have e:w0.take on6=o:=by rw[hon6,Nat.zero_add,hwt,List.take_of_length_le (by omega),←hr];rfl
 obtain⟨e1,e2⟩:=Xls (by omega) (by omega) e ao
 rw[hwl,hf]at e2
 subst e2
 obtain rfl:n8=no:=by omega
 subst hon8
 exact hQ _ _ (.o [] rfl)
def Pv(d:Aa):List ByteArray:=d.entries_.map fun e=>e.name_
theorem Xl1{o:List Int}(Al:Af.map Bf=Bo)(Am:Ah.map Ac=Bn)(Aq:Ai.map Ac=Bm)(Ao:Ag.map cS=Bp)(hd:okD ⟨Af,Ah,Ai,Ag,Ap,An⟩)(hr:Fo (⟨Af,Ah,Ai,Ag,Ap,An⟩:Aa)=o)(ho:o.map cI=xo):Fn Tryz.prog 153 [.agg [.d (.row 3 Bo),.d (.row 2 Bn),.d (.row 2 Bm),.d (.row 1 Bp),I Ap,I An]] [] ⟨.d (.row 1 xo),[],[]⟩:=by
 refine Fn.go Ky Tryz.func153 fun P hP Q hQ=>?_
 conv=>cbv
 generalize an:N9 (⟨Af,Ah,Ai,Ag,Ap,An⟩:Aa)=l1
 generalize ao:l1.map Xk0=ba
 refine .dd hP (XjA Al Am Aq Ao hd an ao) ?_
 conv=>cbv
 refine .go ao fun v2 bb=>?_
 conv=>cbv
 refine LoopW.lp (κ:=Int×(List (List D))×Nat) Ky hP [2] [8,9] (fun(aa,ah,ai)=>[(3,.ref 3 0 ai),(10,I aa)]) (fun(aa,ah,ai)=>[(3,.row 1 false ah)])
  (fun(aa,ah,ai)=>∃(w3:List Int),w3.map cI=ah∧ai=w3.length∧0≤aa∧aa≤l1.length∧w3=(l1.take aa.toNat).map fun x=>x.base_)
  (fun(aa,ah,ai)=>(l1.length - aa).toNat) (0,[],0) ⟨[],rfl,rfl,by omega,by omega,by simp⟩ ⟨rfl,rfl,trivial⟩ rfl ?_
 rintro⟨aa,ah,ai⟩ J ⟨w3,ap,a6,h0,h1,hw⟩ hJ
 have a7:=Th an
 have hwl:w3.length=aa.toNat:=by rw[hw,List.length_map,List.length_take];omega
 conv=>cbv
 refine .lss (fun h3=>?_) fun h3=>?_
 conv=>cbv
 refine .goX aa.toNat ao fun ay ⟨al,aq,⟨am,⟨ad,ae,af,ag⟩,ab,ac,aj,ak⟩⟩ fe4 az hfe4=>?_
 replace hfe4:[.sc (.int .i64 al),.sc (.string aq),.sc (.bool am),.sc (.int .i64 ad),.sc (.int .i64 ae),.sc (.int .i64 af),.sc (.int .i64 ag),.row 1 (ab.map cS),.row 1 (ac.map cI),.sc (.int .i64 aj),.sc (.bool ak)]=fe4:=hfe4
 generalize ar:ab.map cS=au at hfe4
 generalize aw:ac.map cI=ax at hfe4
 subst hfe4
 conv=>cbv
 refine .one al ap rfl fun a1 z5 a8 a2=>?_
 conv=>cbv
 refine .add fun v6 bc=>?_
 conv=>cbv
 exact .go [8] (v6,z5,a1) (hJ _ ⟨_,a2,Ic,by omega,by omega,by rw[hw,show v6.toNat=aa.toNat+1 by omega,Xbv ay,←az]⟩ mlt)
 conv=>cbv
 have e:w3=Fo (⟨Af,Ah,Ai,Ag,Ap,An⟩:Aa):=(by unfold Fo;rw[an,hw,List.take_of_length_le (by omega)])
 rw[hr]at e
 subst e
 exact hQ _ _ (.r rfl rfl (by rw[←ap,List.length_map];first|omega|(simp;omega)) (by rw[←ap,←ho]))
theorem XbS(Al:Af.map Bf=Bo)(Am:Ah.map Ac=Bn)(Aq:Ai.map Ac=Bm)(Ao:Ag.map cS=Bp)(am:Ah.length≤1000000000)(hr:Pv (⟨Af,Ah,Ai,Ag,Ap,An⟩:Aa)=o)(ho:o.map cS=xo)(hno:no=o.length):Fn Tryz.prog 92 [.agg [.d (.row 3 Bo),.d (.row 2 Bn),.d (.row 2 Bm),.d (.row 1 Bp),I Ap,I An]] [] ⟨.ref 0 0 no,[.row 1 false xo],[]⟩:=by
 refine Fn.goR Ky Tryz.func92 fun P hP Q hQ=>?_
 conv=>cbv
 refine .go Am fun v1 an=>?_
 conv=>cbv
 refine LoopW.lp (κ:=Int×(List (List D))×Nat) Ky hP [2] [8,9] (fun(aa,ab,ac)=>[(3,.ref 3 0 ac),(10,I aa)]) (fun(aa,ab,ac)=>[(3,.row 1 false ab)])
  (fun(aa,ab,ac)=>∃(w3:List ByteArray),w3.map cS=ab∧ac=w3.length∧0≤aa∧aa≤Ah.length∧w3=(Ah.take aa.toNat).map (fun e=>e.name_)∧w3.length=aa.toNat)
  (fun(aa,ab,ac)=>Ah.length - aa.toNat) (0,[],0) ⟨[],rfl,rfl,by omega,by omega,rfl,rfl⟩ ⟨rfl,rfl,trivial⟩ rfl ?_
 rintro⟨aa,ab,ac⟩ J ⟨w3,ae,aj,h0,hle,hw,hwl⟩ hJ
 conv=>cbv
 refine .lss (fun h2=>?_) fun h2=>?_
 conv=>cbv
 refine .go aa.toNat Am fun af ⟨ad,ak⟩ ag=>?_
 conv=>cbv
 refine .one ad ae rfl fun ah z4 al ai=>?_
 conv=>cbv
 refine .add fun v5 ao=>?_
 conv=>cbv
 exact .go [6] (v5,z4,ah) (hJ _ ⟨_,ai,Ic,by omega,by omega,by rw[hw,show v5.toNat=aa.toNat+1 by omega,List.take_succ_eq_append_getElem af,List.map_append,←ag];rfl,by rw[List.length_append,hwl];simp;omega⟩ mlt)
 conv=>cbv
 have e:w3=Pv (⟨Af,Ah,Ai,Ag,Ap,An⟩:Aa):=(by unfold Pv;rw[hw,List.take_of_length_le (by omega)])
 rw[hr]at e
 subst e
 obtain rfl:ab=xo:=by rw[←ae,←ho]
 obtain rfl:ac=no:=by first|omega|(rw[hno];simp;done)|(rw[hno];simp;omega)
 exact hQ _ _ (.o [3] rfl)
theorem XbE(Al:Af.map Bf=Bo)(Am:Ah.map Ac=Bn)(Aq:Ai.map Ac=Bm)(Ao:Ag.map cS=Bp)(hd:okD ⟨Af,Ah,Ai,Ag,Ap,An⟩)(hr:Cc (⟨Af,Ah,Ai,Ag,Ap,An⟩:Aa)=o)(ho:o.map cS=xo):Fn Tryz.prog 78 [.agg [.d (.row 3 Bo),.d (.row 2 Bn),.d (.row 2 Bm),.d (.row 1 Bp),I Ap,I An]] [] ⟨.d (.row 1 xo),[],[]⟩:=by
 refine Fn.go Ky Tryz.func78 fun P hP Q hQ=>?_
 conv=>cbv
 have ah:Ah.length≤1000000000:=hd.2.2.1
 have ai:∀e∈Ah,e.name_.size≤1000000000:=hd.2.2.2.1
 generalize ab:Fo (⟨Af,Ah,Ai,Ag,Ap,An⟩:Aa)=l1
 generalize ae:l1.map cI=al
 refine .dd hP (Xl1 Al Am Aq Ao hd ab ae) ?_
 conv=>cbv
 generalize af:Pv (⟨Af,Ah,Ai,Ag,Ap,An⟩:Aa)=l2
 generalize ac:l2.map cS=am
 obtain⟨nl2,hnl2⟩:∃m,m=l2.length:=⟨_,rfl⟩
 refine .ddA hP (XbS Al Am Aq Ao ah af ac hnl2) rfl rfl rfl (ac▸Ff (fun _=>rfl) l2) ?_
 conv=>cbv
 have aj:=M1 ab
 have aa:l2=Ah.map (fun e=>e.name_):=af.symm
 have ak:l2.length=Ah.length:=by rw[aa,List.length_map]
 have hel:∀x∈l2,x.size≤1000000000:=by rw[aa];intro x hx;obtain⟨y,hy,rfl⟩:=List.mem_map.1 hx;exact ai y hy
 generalize ag:Em l2 l1=l3
 generalize ad:(l3++List.replicate (l2.length - l3.length) (tx [])).map cS=an
 obtain⟨nl3,hnl3⟩:∃m,m=l3.length:=⟨_,rfl⟩
 refine .bx [4,3] [] hP (Mr ac (by first|rfl|omega|(simp;omega)) ae (by omega) (by omega) hel ag ad hnl3) rfl rfl rfl rfl ?_
 conv=>cbv
 have e:l3=Cc (⟨Af,Ah,Ai,Ag,Ap,An⟩:Aa):=by
  rw[←ag,aa]
  unfold Cc Em B0
  rw[ab]
  simp only[Bool.not_not]
 rw[hr]at e
 subst e
 exact hQ _ _ (.rs rfl rfl (by rw[←ad,hnl3];simp) (by rw[←ad,←ho,hnl3];simp))
theorem XaI{d:Aa}{l:List ByteArray}(hd:okD d)(e:Cc d=l):l.length≤1000000000:=by
 rw[←e]
 unfold Cc
 have:=List.length_filter_le (N8 (Fo d)) (d.entries_.map fun e=>e.name_)
 rw[List.length_map]at this
 have:=hd.2.2.1
 omega
end
section
open Go Go.Proofs
def Xcb:List (Nat×TyRow):=[ty3,ty4,ty9,XaC,Xmd,ty92]
theorem Xb9:B1 Tryz.prog Xcb:=B1.of (by kernel_rfl)
theorem Xgi:Setup Tryz.prog Xcb:=⟨Xb9,mixed⟩
def C3(b:ByteArray)(v:Int):ByteArray:=
 if(Bu b).ok_=true∧(0≤v∧v≤2)then(if 0<v then Cd ⟨v,(Bu b).head_.stride_,(Bu b).head_.base_,(Bu b).head_.link_⟩ (Bu b).records_ else Cd (Bu b).head_ (Bu b).records_)else tx []
theorem Rl{b:ByteArray}{v:Int}{o:ByteArray}(e:C3 b v=o):o.size≤200000:=by
 rw[←e]
 unfold C3
 split
 ·split
  ·exact G1 rfl
  ·exact G1 rfl
 ·simp[Bz]
variable {b o:ByteArray} {version:Int}
theorem Xhf(hn:b.size<2^40)(hr:C3 b version=o):Fn Tryz.prog 125 [S b,I version] [] ⟨S o,[],[]⟩:=by
 refine Fn.go Xgi Tryz.func125 fun P hP Q hQ=>?_
 conv=>cbv
 rcases ag:Bu b with⟨am,⟨af,aa,ab,ac⟩,ae,ak,ap,aq⟩
 generalize ad:ae.map cS=an
 generalize aj:ak.map cI=ao
 refine .dd hP (Zf (by omega) ag ad aj) ?_
 conv=>cbv
 have zl:=M4 (b:=b)
 rw[ag]at zl
 simp only[]at zl
 cases am
 conv=>cbv
 have e:(tx [])=C3 b version:=(by unfold C3;rw[ag];simp only[];rw[if_neg];rintro⟨q,_⟩;cases q)
 rw[hr]at e
 subst e
 exact hQ _ _ (.s rfl rfl)
 conv=>cbv
 refine .neq (fun h2=>?_) fun h2=>?_
 conv=>cbv
 generalize al:C4 version=r3
 refine .dd hP (K5 al) ?_
 cases r3
 simp only[C4,decide_eq_true_eq,decide_eq_false_iff_not]at al
 conv=>cbv
 have e:(tx [])=C3 b version:=(by unfold C3;rw[ag];simp only[];rw[if_neg];rintro⟨_,q⟩;omega)
 rw[hr]at e
 subst e
 exact hQ _ _ (.s rfl rfl)
 simp only[C4,decide_eq_true_eq,decide_eq_false_iff_not]at al
 conv=>cbv
 refine .neq (fun h4=>?_) fun h4=>?_
 conv=>cbv
 generalize ah:Cd (⟨version,aa,ab,ac⟩:B9) ae=r5
 have zr5:=G1 ah
 refine .dd hP (P0 ad (by omega) ah) ?_
 conv=>cbv
 have e:r5=C3 b version:=(by unfold C3;rw[ag];simp only[];rw[if_pos ⟨trivial,by omega⟩,if_pos (by omega)];exact ah.symm)
 rw[hr]at e
 subst e
 exact hQ _ _ (.s rfl rfl)
 conv=>cbv
 generalize ah:Cd (⟨af,aa,ab,ac⟩:B9) ae=r5
 have zr5:=G1 ah
 refine .dd hP (P0 ad (by omega) ah) ?_
 conv=>cbv
 have e:r5=C3 b version:=(by exact absurd h4 h2)
 rw[hr]at e
 subst e
 exact hQ _ _ (.s rfl rfl)
 conv=>cbv
 refine .neq (fun h3=>?_) fun h3=>?_
 conv=>cbv
 generalize ai:Cd (⟨version,aa,ab,ac⟩:B9) ae=r4
 have zr4:=G1 ai
 refine .dd hP (P0 ad (by omega) ai) ?_
 conv=>cbv
 have e:r4=C3 b version:=(by exact absurd h2 h3)
 rw[hr]at e
 subst e
 exact hQ _ _ (.s rfl rfl)
 conv=>cbv
 generalize ai:Cd (⟨af,aa,ab,ac⟩:B9) ae=r4
 have zr4:=G1 ai
 refine .dd hP (P0 ad (by omega) ai) ?_
 conv=>cbv
 have e:r4=C3 b version:=(by unfold C3;rw[ag];simp only[];rw[if_pos ⟨trivial,by omega⟩,if_neg (by omega)];exact ai.symm)
 rw[hr]at e
 subst e
 exact hQ _ _ (.s rfl rfl)
theorem Xg7(hn:b.size<2^40)(hr:C3 b version=o):Fn Tryz.prog 114 [S b,I version] [] ⟨S o,[],[]⟩:=by
 refine Fn.go Xgi Tryz.func114 fun P hP Q hQ=>?_
 conv=>cbv
 rcases ag:Bu b with⟨al,⟨ah,aa,ab,ac⟩,ae,aj,ao,ap⟩
 generalize ad:ae.map cS=am
 generalize ai:aj.map cI=an
 refine .dd hP (Ue (by omega) ag ad ai) ?_
 conv=>cbv
 have zl:=M4 (b:=b)
 rw[ag]at zl
 simp only[]at zl
 cases al
 conv=>cbv
 have e:(tx [])=C3 b version:=(by unfold C3;rw[ag];simp only[];rw[if_neg];rintro⟨q,_⟩;cases q)
 rw[hr]at e
 subst e
 exact hQ _ _ (.s rfl rfl)
 conv=>cbv
 generalize ak:Bi version 0 2=r2
 refine .dd hP (Dt ak) ?_
 cases r2
 simp only[Bi,decide_eq_true_eq,decide_eq_false_iff_not]at ak
 conv=>cbv
 have e:(tx [])=C3 b version:=(by unfold C3;rw[ag];simp only[];rw[if_neg];rintro⟨_,q⟩;omega)
 rw[hr]at e
 subst e
 exact hQ _ _ (.s rfl rfl)
 simp only[Bi,decide_eq_true_eq,decide_eq_false_iff_not]at ak
 conv=>cbv
 refine .gtr (fun h3=>?_) fun h3=>?_
 conv=>cbv
 generalize af:Cd (⟨version,aa,ab,ac⟩:B9) ae=r4
 have zr4:=G1 af
 refine .dd hP (Xad ad (by omega) af) ?_
 conv=>cbv
 have e:r4=C3 b version:=(by unfold C3;rw[ag];simp only[];rw[if_pos ⟨trivial,by omega⟩,if_pos (by omega)];exact af.symm)
 rw[hr]at e
 subst e
 exact hQ _ _ (.s rfl rfl)
 conv=>cbv
 generalize af:Cd (⟨ah,aa,ab,ac⟩:B9) ae=r4
 have zr4:=G1 af
 refine .dd hP (Xad ad (by omega) af) ?_
 conv=>cbv
 have e:r4=C3 b version:=(by unfold C3;rw[ag];simp only[];rw[if_pos ⟨trivial,by omega⟩,if_neg (by omega)];exact af.symm)
 rw[hr]at e
 subst e
 exact hQ _ _ (.s rfl rfl)
end
end Go.Proofs.YtjbmpmmffjgedaaGreatDoor.Ab
