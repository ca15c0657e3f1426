/- What functions of the program come to, for all arguments in the given bounds. -/
import Derived.Test.YtjbmpmmffjgedaaGreatDoorCch06b
import Derived.Test.YtjbmpmmffjgedaaGreatDoorCZ10
set_option linter.unusedVariables false
set_option linter.unusedSimpArgs false
namespace Go.Proofs.YtjbmpmmffjgedaaGreatDoor.Ab
section
open Go Go.Proofs
set_option maxRecDepth 20000
set_option maxHeartbeats 4000000
def Xgh:List (Nat×TyRow):=[ty3,ty5,ty9,XhT,Xb7,XkC,Xk1]
theorem Xfo:B3 Tryz.prog Xgh:=B3.of (by kernel_rfl)
theorem Ss:Setup Tryz.prog Xgh:=⟨Xfo,mixed⟩
theorem XhB(a:Int):0≤La .and .i64 a 255∧La .and .i64 a 255≤255:=by
 have h:La .and .i64 a 255=IntKind.i64.wrap (BitVec.ofInt 64 a&&&BitVec.ofInt 64 255).toNat:=rfl
 have h2:(BitVec.ofInt 64 a&&&BitVec.ofInt 64 255).toNat≤255:=by
  rw[BitVec.toNat_and]
  exact Nat.le_trans Nat.and_le_right (by decide)
 rw[h,IntKind.wrap_i64]
 omega
theorem and30(a:Int):0≤La .and .i64 a 1073741823∧La .and .i64 a 1073741823≤1073741823:=by
 have h:La .and .i64 a 1073741823=IntKind.i64.wrap (BitVec.ofInt 64 a&&&BitVec.ofInt 64 1073741823).toNat:=rfl
 have h2:(BitVec.ofInt 64 a&&&BitVec.ofInt 64 1073741823).toNat≤1073741823:=by
  rw[BitVec.toNat_and]
  exact Nat.le_trans Nat.and_le_right (by decide)
 rw[h,IntKind.wrap_i64]
 omega
def drH(h:Int):Int:=IntKind.i64.wrap (IntKind.i64.wrap (h*6364136223846793005)+1442695040888963407)
def drX(h:Int):Int:=La .and .i64 (La .xor .i64 (h/2^ (33:Int).toNat) (h/2^ (45:Int).toNat)) 255
def C0(b:List UInt8)(i h:Int):Int×Int×Int:=if i<b.length then(La .and .i64 (drX (drH h)+(b.getD i.toNat 0).toNat) 255,i+1,drH h)else(drX (drH h),i,drH h)
def Ag(b:List UInt8)(i h n:Int):Int×Int×Int:=
 if n≤0 then(0,i,h)else if n≤256 then match C0 b i h with|(x,i,h)=>(x% n,i,h)
 else match C0 b i h with|(x,i,h)=>match C0 b i h with|(y,i,h)=>match C0 b i h with|(z,i,h)=>match C0 b i h with|(w,i,h)=>((x*16777216+y*65536+z*256+w)% n,i,h)
def Bw(b:List UInt8)(i h n:Int):Bool×Int×Int:=match Ag b i h n with|(x,i,h)=>(decide (x=0),i,h)
def Cd(b:List UInt8)(i h:Int)(l:List Int):Int×Int×Int:=match Ag b i h l.length with|(x,i,h)=>(l.getD x.toNat 0,i,h)
def Xfu(b:List UInt8):Nat→Int→Int→List UInt8×Int×Int
 |0,i,h=>([],i,h)
 |k+1,i,h=>match C0 b i h with|(x,i,h)=>match Xfu b k i h with|(l,i,h)=>(UInt8.ofNat x.toNat::l,i,h)
def D5(b:List UInt8)(i h n:Int):ByteArray×Int×Int:=match Xfu b (min n 5000).toNat i h with|(l,i,h)=>(tx l,i,h)
def Dq(b:List UInt8)(i h:Int):ByteArray×Int×Int:=
 match Ag b i h 6 with|(x,i,h)=>if x=0 then(tx [],i,h)else if x=1 then match Ag b i h 41 with|(y,i,h)=>D5 b i h (20+y)else match Ag b i h 12 with|(y,i,h)=>D5 b i h y
theorem Eg{b:List UInt8}{i h o oi oh:Int}(e:C0 b i h=(o,oi,oh))(hc:0≤i∧i≤b.length∧b.length≤1000000000000):(0≤o∧o≤255)∧0≤oi∧oi≤b.length:=by
 unfold C0 at e
 split at e
 ·simp only[Prod.mk.injEq]at e
  have:=XhB (drX (drH h)+(b.getD i.toNat 0).toNat)
  omega
 ·simp only[Prod.mk.injEq]at e
  have:0≤drX (drH h)∧drX (drH h)≤255:=XhB _
  omega
theorem Aj{b:List UInt8}{i h n o oi oh:Int}(e:Ag b i h n=(o,oi,oh))(hc:0≤i∧i≤b.length∧b.length≤1000000000000):(0≤o∧(n≤0→o=0)∧(0<n→o<n))∧0≤oi∧oi≤b.length:=by
 unfold Ag at e
 split at e
 ·simp only[Prod.mk.injEq]at e
  omega
 ·split at e
  ·rcases h1:C0 b i h with⟨x,i1,h1'⟩
   have z1:=Eg h1 hc
   simp only[h1,Prod.mk.injEq]at e
   have:=Int.emod_nonneg x (show n≠0 by omega)
   have:=Int.emod_lt_of_pos x (show 0<n by omega)
   omega
  ·rcases h1:C0 b i h with⟨x,i1,h1'⟩
   have z1:=Eg h1 hc
   rcases h2:C0 b i1 h1' with⟨y,i2,h2'⟩
   have z2:=Eg h2 (by omega)
   rcases h3:C0 b i2 h2' with⟨z,i3,h3'⟩
   have z3:=Eg h3 (by omega)
   rcases h4:C0 b i3 h3' with⟨w,i4,h4'⟩
   have z4:=Eg h4 (by omega)
   simp only[h1,h2,h3,h4,Prod.mk.injEq]at e
   have:=Int.emod_nonneg (x*16777216+y*65536+z*256+w) (show n≠0 by omega)
   have:=Int.emod_lt_of_pos (x*16777216+y*65536+z*256+w) (show 0<n by omega)
   omega
theorem Cf{b:List UInt8}{i h n oi oh:Int}{o:Bool}(e:Bw b i h n=(o,oi,oh))(hc:0≤i∧i≤b.length∧b.length≤1000000000000):0≤oi∧oi≤b.length:=by
 unfold Bw at e
 rcases h1:Ag b i h n with⟨x,i1,h1'⟩
 have z1:=Aj h1 hc
 simp only[h1,Prod.mk.injEq]at e
 omega
theorem Ds{b:List UInt8}{i h o oi oh:Int}{l:List Int}(e:Cd b i h l=(o,oi,oh))(hc:0≤i∧i≤b.length∧b.length≤1000000000000):0≤oi∧oi≤b.length:=by
 unfold Cd at e
 rcases h1:Ag b i h l.length with⟨x,i1,h1'⟩
 have z1:=Aj h1 hc
 simp only[h1,Prod.mk.injEq]at e
 omega
theorem Xjl{b:List UInt8}:∀{k:Nat} {i h oi oh:Int} {l:List UInt8},Xfu b k i h=(l,oi,oh)→(0≤i∧i≤b.length∧b.length≤1000000000000)→l.length=k∧0≤oi∧oi≤b.length
 |0,i,h,oi,oh,l,e,hc=>by
  simp only[Xfu,Prod.mk.injEq]at e
  rw[←e.1]
  exact⟨rfl,by omega,by omega⟩
 |k+1,i,h,oi,oh,l,e,hc=>by
  rcases h1:C0 b i h with⟨x,i1,h1'⟩
  have z1:=Eg h1 hc
  rcases h2:Xfu b k i1 h1' with⟨l2,i2,h2'⟩
  have z2:=Xjl h2 (by omega)
  simp only[Xfu,h1,h2,Prod.mk.injEq]at e
  rw[←e.1,List.length_cons]
  omega
theorem Hh{b:List UInt8}{i h n oi oh:Int}{o:ByteArray}(e:D5 b i h n=(o,oi,oh))(hc:0≤i∧i≤b.length∧b.length≤1000000000000):(o.size≤5000∧(0≤n→(o.size:Int)≤n))∧0≤oi∧oi≤b.length:=by
 unfold D5 at e
 rcases h1:Xfu b (min n 5000).toNat i h with⟨l,i1,h1'⟩
 have z1:=Xjl h1 hc
 simp only[h1,Prod.mk.injEq]at e
 have:o.size=l.length:=by rw[←e.1,A4]
 omega
theorem Ku{b:List UInt8}{i h oi oh:Int}{o:ByteArray}(e:Dq b i h=(o,oi,oh))(hc:0≤i∧i≤b.length∧b.length≤1000000000000):o.size≤60∧0≤oi∧oi≤b.length:=by
 unfold Dq at e
 rcases h1:Ag b i h 6 with⟨x,i1,h1'⟩
 have z1:=Aj h1 hc
 simp only[h1]at e
 split at e
 ·simp only[Prod.mk.injEq]at e
  rw[←e.1]
  exact⟨by decide,by omega,by omega⟩
 ·split at e
  ·rcases h2:Ag b i1 h1' 41 with⟨y,i2,h2'⟩
   have z2:=Aj h2 (by omega)
   simp only[h2]at e
   have z3:=Hh e (by omega)
   omega
  ·rcases h2:Ag b i1 h1' 12 with⟨y,i2,h2'⟩
   have z2:=Aj h2 (by omega)
   simp only[h2]at e
   have z3:=Hh e (by omega)
   omega
theorem Qg{v:Int}(h:0≤v∧v<256):[D.sc (.int .u8 v)]=cB (UInt8.ofNat v.toNat):=by
 have e:((UInt8.ofNat v.toNat).toNat:Int)=v:=by
  rw[UInt8.toNat_ofNat',Nat.mod_eq_of_lt (by omega)]
  omega
 show[D.sc (.int .u8 v)]=[D.sc (.int .u8 ((UInt8.ofNat v.toNat).toNat:Int))]
 rw[e]
variable {cb:List UInt8} {xcb:List (List D)} {ci ch o oi oh n:Int}
theorem J8(hcb:cb.map cB=xcb)(hc:0≤ci∧ci≤cb.length∧cb.length≤1000000000000)(hr:C0 cb ci ch=(o,oi,oh)):Fn Tryz.prog 239 [.ptr 0 0 0] [.box 140 [.d (.row 1 xcb),I ci,I ch]] ⟨I o,[],[(0,.box 140 [.d (.row 1 xcb),I oi,I oh])]⟩:=by
 refine Fn.goR Ss Tryz.func239 fun P hP Q hQ=>?_
 conv=>cbv
 refine .mulW fun v1 ab=>?_
 conv=>cbv
 refine .addW fun v2 ac=>?_
 conv=>cbv
 refine .shr fun v3 ad=>?_
 conv=>cbv
 refine .shr fun v4 ae=>?_
 conv=>cbv
 refine .xor fun v5 af=>?_
 conv=>cbv
 refine .and fun v6 aa=>?_
 conv=>cbv
 refine .go hcb fun v7 ao=>?_
 conv=>cbv
 refine .lss (fun h8=>?_) fun h8=>?_
 conv=>cbv
 refine .go ci.toNat hcb fun ag e9 al=>?_
 conv=>cbv
 have ap:=e9.toNat_lt
 refine .id (a:=(e9.toNat:Int)) fun aq ah=>?_
 conv=>cbv
 have hx6:0≤v6∧v6≤255:=by rw[aa];exact XhB _
 refine .add fun ar ai=>?_
 conv=>cbv
 refine .and fun am aj=>?_
 conv=>cbv
 refine .add fun an ak=>?_
 conv=>cbv
 have e:(am,an,v2)=C0 cb ci ch:=(by unfold C0;rw[if_pos (by omega),List.getD_eq_getElem?_getD,List.getElem?_eq_getElem ag,Option.getD_some,←al,aj,ai,ah,ak];unfold drX drH;rw[aa,af,ae,ad,ac,ab])
 rw[hr]at e
 simp only[Prod.mk.injEq]at e
 obtain⟨rfl,rfl,rfl⟩:=e
 exact hQ _ _ (.of [] (.inl rfl) rfl rfl rfl rfl)
 conv=>cbv
 have e:(v6,ci,v2)=C0 cb ci ch:=(by unfold C0;rw[if_neg (by omega)];unfold drX drH;rw[aa,af,ae,ad,ac,ab])
 rw[hr]at e
 simp only[Prod.mk.injEq]at e
 obtain⟨rfl,rfl,rfl⟩:=e
 exact hQ _ _ (.of [] (.inl rfl) rfl rfl rfl rfl)
theorem B0(hcb:cb.map cB=xcb)(hc:0≤ci∧ci≤cb.length∧cb.length≤1000000000000)(hr:Ag cb ci ch n=(o,oi,oh)):Fn Tryz.prog 174 [.ptr 0 0 0,I n] [.box 140 [.d (.row 1 xcb),I ci,I ch]] ⟨I o,[],[(0,.box 140 [.d (.row 1 xcb),I oi,I oh])]⟩:=by
 refine Fn.goR Ss Tryz.func174 fun P hP Q hQ=>?_
 conv=>cbv
 refine .leq (fun h1=>?_) fun h1=>?_
 conv=>cbv
 have e:(0,ci,ch)=Ag cb ci ch n:=(by unfold Ag;rw[if_pos (by omega)])
 rw[hr]at e
 simp only[Prod.mk.injEq]at e
 obtain⟨rfl,rfl,rfl⟩:=e
 exact hQ _ _ (.of [] (.inl rfl) rfl rfl rfl rfl)
 conv=>cbv
 refine .leq (fun h2=>?_) fun h2=>?_
 conv=>cbv
 rcases aa:C0 cb ci ch with⟨d4,ri4,rh4⟩
 have zr4:=Eg aa (by omega)
 refine .bx [0] [] hP (J8 hcb (by omega) aa) rfl rfl rfl rfl ?_
 conv=>cbv
 refine .rem fun v5 al=>?_
 conv=>cbv
 have e:(v5,ri4,rh4)=Ag cb ci ch n:=(by unfold Ag;rw[if_neg (by omega),if_pos (by omega)];simp only[aa];rw[al])
 rw[hr]at e
 simp only[Prod.mk.injEq]at e
 obtain⟨rfl,rfl,rfl⟩:=e
 exact hQ _ _ (.of [] (.inl rfl) rfl rfl rfl rfl)
 conv=>cbv
 rcases aa:C0 cb ci ch with⟨d4,ri4,rh4⟩
 have zr4:=Eg aa (by omega)
 refine .bx [0] [] hP (J8 hcb (by omega) aa) rfl rfl rfl rfl ?_
 conv=>cbv
 rcases ac:C0 cb ri4 rh4 with⟨d6,ri6,rh6⟩
 have zr6:=Eg ac (by omega)
 refine .bx [0] [] hP (J8 hcb (by omega) ac) rfl rfl rfl rfl ?_
 conv=>cbv
 rcases ad:C0 cb ri6 rh6 with⟨d8,ri8,rh8⟩
 have zr8:=Eg ad (by omega)
 refine .bx [0] [] hP (J8 hcb (by omega) ad) rfl rfl rfl rfl ?_
 conv=>cbv
 rcases ab:C0 cb ri8 rh8 with⟨d10,ri10,rh10⟩
 have zr10:=Eg ab (by omega)
 refine .bx [0] [] hP (J8 hcb (by omega) ab) rfl rfl rfl rfl ?_
 conv=>cbv
 refine .mul fun an ae=>?_
 conv=>cbv
 refine .mul fun ao af=>?_
 conv=>cbv
 refine .add fun ap ag=>?_
 conv=>cbv
 refine .mul fun aq ah=>?_
 conv=>cbv
 refine .add fun ar ai=>?_
 conv=>cbv
 refine .add fun au aj=>?_
 conv=>cbv
 refine .rem fun am ak=>?_
 conv=>cbv
 have e:(am,ri10,rh10)=Ag cb ci ch n:=(by unfold Ag;rw[if_neg (by omega),if_neg (by omega)];simp only[aa,ac,ad,ab];rw[ak,aj,ai,ah,ag,af,ae])
 rw[hr]at e
 simp only[Prod.mk.injEq]at e
 obtain⟨rfl,rfl,rfl⟩:=e
 exact hQ _ _ (.of [] (.inl rfl) rfl rfl rfl rfl)
theorem Fj{o:Bool}(hcb:cb.map cB=xcb)(hc:0≤ci∧ci≤cb.length∧cb.length≤1000000000000)(hr:Bw cb ci ch n=(o,oi,oh)):Fn Tryz.prog 140 [.ptr 0 0 0,I n] [.box 140 [.d (.row 1 xcb),I ci,I ch]] ⟨B o,[],[(0,.box 140 [.d (.row 1 xcb),I oi,I oh])]⟩:=by
 refine Fn.goR Ss Tryz.func140 fun P hP Q hQ=>?_
 conv=>cbv
 rcases aa:Ag cb ci ch n with⟨d2,ri2,rh2⟩
 have zr2:=Aj aa (by omega)
 refine .bx [0] [] hP (B0 hcb (by omega) aa) rfl rfl rfl rfl ?_
 conv=>cbv
 refine .eql (fun h3=>?_) fun h3=>?_
 conv=>cbv
 have e:(true,ri2,rh2)=Bw cb ci ch n:=(by unfold Bw;simp only[aa];rw[decide_eq_true h3])
 rw[hr]at e
 simp only[Prod.mk.injEq]at e
 obtain⟨rfl,rfl,rfl⟩:=e
 exact hQ _ _ (.of [] (.inl rfl) rfl rfl rfl rfl)
 conv=>cbv
 have e:(false,ri2,rh2)=Bw cb ci ch n:=(by unfold Bw;simp only[aa];rw[decide_eq_false h3])
 rw[hr]at e
 simp only[Prod.mk.injEq]at e
 obtain⟨rfl,rfl,rfl⟩:=e
 exact hQ _ _ (.of [] (.inl rfl) rfl rfl rfl rfl)
theorem It{list:List Int}{xlist:List (List D)}(hcb:cb.map cB=xcb)(hlist:list.map cI=xlist)(hc:0≤ci∧ci≤cb.length∧cb.length≤1000000000000)(hl:0<list.length∧list.length≤1000)(hr:Cd cb ci ch list=(o,oi,oh)):Fn Tryz.prog 175 [.ptr 0 0 0,.d (.row 1 xlist)] [.box 140 [.d (.row 1 xcb),I ci,I ch]] ⟨I o,[],[(0,.box 140 [.d (.row 1 xcb),I oi,I oh])]⟩:=by
 refine Fn.goR Ss Tryz.func175 fun P hP Q hQ=>?_
 conv=>cbv
 refine .go hlist fun v1 ab=>?_
 conv=>cbv
 have ae:v1=(list.length:Int):=ab
 rcases aa:Ag cb ci ch v1 with⟨d3,ri3,rh3⟩
 have zr3:=Aj aa (by omega)
 refine .bx [0] [] hP (B0 hcb (by omega) aa) rfl rfl rfl rfl ?_
 conv=>cbv
 refine .go d3.toNat hlist fun ac e4 ad=>?_
 conv=>cbv
 have e:(e4,ri3,rh3)=Cd cb ci ch list:=(by unfold Cd;rw[←ab];simp only[aa];rw[List.getD_eq_getElem?_getD,List.getElem?_eq_getElem ac,Option.getD_some,←ad])
 rw[hr]at e
 simp only[Prod.mk.injEq]at e
 obtain⟨rfl,rfl,rfl⟩:=e
 exact hQ _ _ (.of [] (.inl rfl) rfl rfl rfl rfl)
theorem Pz{o:ByteArray}(hcb:cb.map cB=xcb)(hc:0≤ci∧ci≤cb.length∧cb.length≤1000000000000)(hr:D5 cb ci ch n=(o,oi,oh)):Fn Tryz.prog 181 [.ptr 0 0 0,I n] [.box 140 [.d (.row 1 xcb),I ci,I ch]] ⟨S o,[],[(0,.box 140 [.d (.row 1 xcb),I oi,I oh])]⟩:=by
 refine Fn.goR Ss Tryz.func181 fun P hP Q hQ=>?_
 conv=>cbv
 refine .gtr (fun h1=>?_) fun h1=>?_
 conv=>cbv
 refine LoopW.lp (κ:=Int×Int×Int×(List (List D))×Nat) Ss hP [1] [0,1] (fun(i6,aa,ab,ac,ad)=>[(5,.ref 2 0 ad),(6,I i6)]) (fun(i6,aa,ab,ac,ad)=>[(0,.box 140 [.d (.row 1 xcb),I aa,I ab]),(2,.row 1 false ac)])
  (fun(i6,aa,ab,ac,ad)=>∃(w2:List UInt8),w2.map cB=ac∧ad=w2.length∧0≤i6∧(0≤aa∧aa≤cb.length)∧w2.length=i6.toNat∧i6≤5000∧D5 cb ci ch n=(match Xfu cb ((min n 5000).toNat - i6.toNat) aa ab with|(l,i,h)=>(tx (w2++l),i,h)))
  (fun(i6,aa,ab,ac,ad)=>(5000 - i6).toNat) (0,ci,ch,[],0) ⟨[],rfl,rfl,by omega,by omega,rfl,by omega,by unfold D5;simp⟩ ⟨rfl,rfl,trivial⟩ rfl ?_
 rintro⟨i6,aa,ab,ac,ad⟩ J ⟨w2,af,ak,h0,hcu,hwl,h5,hw⟩ hJ
 conv=>cbv
 refine .lss (fun h2=>?_) fun h2=>?_
 conv=>cbv
 rcases ae:C0 cb aa ab with⟨d4,ri4,rh4⟩
 have zr4:=Eg ae (by omega)
 refine .bx [0] [] hP (J8 hcb (by omega) ae) rfl rfl rfl rfl ?_
 conv=>cbv
 refine .go fun v5 ag=>?_
 conv=>cbv
 refine .one (UInt8.ofNat v5.toNat) af (Qg (by rw[ag,G9];omega)) fun ah z6 al ai=>?_
 conv=>cbv
 refine .add fun v7 am=>?_
 conv=>cbv
 exact .go [4] (v7,ri4,rh4,z6,ah) (hJ _ ⟨_,ai,D4,by omega,by omega,by rw[List.length_append,hwl];simp;omega,by omega,by rw[hw,show(min n 5000).toNat - i6.toNat=((min n 5000).toNat - v7.toNat)+1 by omega];simp only[Xfu,ae];rw[show UInt8.ofNat d4.toNat=UInt8.ofNat v5.toNat by rw[ag,G9];congr 1;omega];simp⟩ mlt)
 conv=>cbv
 refine .go af fun s3 aj=>?_
 conv=>cbv
 have e:(s3,aa,ab)=D5 cb ci ch n:=(by rw[hw,show(min n 5000).toNat - i6.toNat=0 by omega];simp only[Xfu,List.append_nil];rw[aj])
 rw[hr]at e
 simp only[Prod.mk.injEq]at e
 obtain⟨rfl,rfl,rfl⟩:=e
 exact hQ _ _ (.of [] (.inl rfl) rfl rfl rfl rfl)
 conv=>cbv
 refine LoopW.lp (κ:=Int×Int×Int×(List (List D))×Nat) Ss hP [1] [0,1] (fun(i6,aa,ab,ac,ad)=>[(5,.ref 2 0 ad),(6,I i6)]) (fun(i6,aa,ab,ac,ad)=>[(0,.box 140 [.d (.row 1 xcb),I aa,I ab]),(2,.row 1 false ac)])
  (fun(i6,aa,ab,ac,ad)=>∃(w2:List UInt8),w2.map cB=ac∧ad=w2.length∧0≤i6∧(0≤aa∧aa≤cb.length)∧w2.length=i6.toNat∧i6≤5000∧D5 cb ci ch n=(match Xfu cb ((min n 5000).toNat - i6.toNat) aa ab with|(l,i,h)=>(tx (w2++l),i,h)))
  (fun(i6,aa,ab,ac,ad)=>(5000 - i6).toNat) (0,ci,ch,[],0) ⟨[],rfl,rfl,by omega,by omega,rfl,by omega,by unfold D5;simp⟩ ⟨rfl,rfl,trivial⟩ rfl ?_
 rintro⟨i6,aa,ab,ac,ad⟩ J ⟨w2,af,ak,h0,hcu,hwl,h5,hw⟩ hJ
 conv=>cbv
 refine .lss (fun h2=>?_) fun h2=>?_
 conv=>cbv
 rcases ae:C0 cb aa ab with⟨d4,ri4,rh4⟩
 have zr4:=Eg ae (by omega)
 refine .bx [0] [] hP (J8 hcb (by omega) ae) rfl rfl rfl rfl ?_
 conv=>cbv
 refine .go fun v5 ag=>?_
 conv=>cbv
 refine .one (UInt8.ofNat v5.toNat) af (Qg (by rw[ag,G9];omega)) fun ah z6 al ai=>?_
 conv=>cbv
 refine .add fun v7 am=>?_
 conv=>cbv
 exact .go [4] (v7,ri4,rh4,z6,ah) (hJ _ ⟨_,ai,D4,by omega,by omega,by rw[List.length_append,hwl];simp;omega,by omega,by rw[hw,show(min n 5000).toNat - i6.toNat=((min n 5000).toNat - v7.toNat)+1 by omega];simp only[Xfu,ae];rw[show UInt8.ofNat d4.toNat=UInt8.ofNat v5.toNat by rw[ag,G9];congr 1;omega];simp⟩ mlt)
 conv=>cbv
 refine .go af fun s3 aj=>?_
 conv=>cbv
 have e:(s3,aa,ab)=D5 cb ci ch n:=(by rw[hw,show(min n 5000).toNat - i6.toNat=0 by omega];simp only[Xfu,List.append_nil];rw[aj])
 rw[hr]at e
 simp only[Prod.mk.injEq]at e
 obtain⟨rfl,rfl,rfl⟩:=e
 exact hQ _ _ (.of [] (.inl rfl) rfl rfl rfl rfl)
theorem Ua{o:ByteArray}(hcb:cb.map cB=xcb)(hc:0≤ci∧ci≤cb.length∧cb.length≤1000000000000)(hr:Dq cb ci ch=(o,oi,oh)):Fn Tryz.prog 179 [.ptr 0 0 0] [.box 140 [.d (.row 1 xcb),I ci,I ch]] ⟨S o,[],[(0,.box 140 [.d (.row 1 xcb),I oi,I oh])]⟩:=by
 refine Fn.goR Ss Tryz.func179 fun P hP Q hQ=>?_
 conv=>cbv
 rcases ab:Ag cb ci ch 6 with⟨d2,ri2,rh2⟩
 have zr2:=Aj ab (by omega)
 refine .bx [0] [] hP (B0 hcb (by omega) ab) rfl rfl rfl rfl ?_
 conv=>cbv
 refine .eql (fun h3=>?_) fun h3=>?_
 conv=>cbv
 have e:((tx []),ri2,rh2)=Dq cb ci ch:=(by unfold Dq;simp only[ab];repeat (first|rw[if_pos (by omega)]|rw[if_neg (by omega)]))
 rw[hr]at e
 simp only[Prod.mk.injEq]at e
 obtain⟨rfl,rfl,rfl⟩:=e
 exact hQ _ _ (.of [] (.inl rfl) rfl rfl rfl rfl)
 conv=>cbv
 refine .eql (fun h4=>?_) fun h4=>?_
 conv=>cbv
 rcases aa:Ag cb ri2 rh2 41 with⟨d6,ri6,rh6⟩
 have zr6:=Aj aa (by omega)
 refine .bx [0] [] hP (B0 hcb (by omega) aa) rfl rfl rfl rfl ?_
 conv=>cbv
 refine .add fun v7 ae=>?_
 conv=>cbv
 rcases ac:D5 cb ri6 rh6 v7 with⟨d9,ri9,rh9⟩
 have zr9:=Hh ac (by omega)
 refine .bx [0] [] hP (Pz hcb (by omega) ac) rfl rfl rfl rfl ?_
 conv=>cbv
 have e:(d9,ri9,rh9)=Dq cb ci ch:=(by unfold Dq;simp only[ab,aa,ac];rw[if_neg (by omega),if_pos (by omega),←ae];simp only[ab,aa,ac])
 rw[hr]at e
 simp only[Prod.mk.injEq]at e
 obtain⟨rfl,rfl,rfl⟩:=e
 exact hQ _ _ (.of [] (.inl rfl) rfl rfl rfl rfl)
 conv=>cbv
 rcases aa:Ag cb ri2 rh2 12 with⟨d6,ri6,rh6⟩
 have zr6:=Aj aa (by omega)
 refine .bx [0] [] hP (B0 hcb (by omega) aa) rfl rfl rfl rfl ?_
 conv=>cbv
 rcases ad:D5 cb ri6 rh6 d6 with⟨d8,ri8,rh8⟩
 have zr8:=Hh ad (by omega)
 refine .bx [0] [] hP (Pz hcb (by omega) ad) rfl rfl rfl rfl ?_
 conv=>cbv
 have e:(d8,ri8,rh8)=Dq cb ci ch:=(by unfold Dq;simp only[ab,aa,ad];repeat (first|rw[if_pos (by omega)]|rw[if_neg (by omega)]))
 rw[hr]at e
 simp only[Prod.mk.injEq]at e
 obtain⟨rfl,rfl,rfl⟩:=e
 exact hQ _ _ (.of [] (.inl rfl) rfl rfl rfl rfl)
end
section
open Go Go.Proofs
set_option maxRecDepth 20000
set_option maxHeartbeats 4000000
def XfP:List (Nat×TyRow):=[ty3,ty5,ty9,XjO,XhS,Zy,Xb9,Xfc,Z9]
theorem XeB:B3 Tryz.prog XfP:=B3.of (by kernel_rfl)
theorem I5:Setup Tryz.prog XfP:=⟨XeB,mixed⟩
variable {l o Al An Ph Pn:List Ad} {xl xo Bj Be Bd Bf D9 Ec Ee Ed:List (List D)} {name:ByteArray} {no noanod noaent noaold noaste:Nat} {ob Aq As V6 V4:Int} {Ak Pk:List Cs} {Am Pp:List ByteArray}
theorem Jm(hl:l.map Ae=xl)(hn:l.length≤4000000000)(hr:Ck l name=o)(ho:o.map Ae=xo)(hno:no=o.length):Fn Tryz.prog 266 [.d (.row 2 xl),S name] [] ⟨.ref 0 0 no,[.row 2 false xo],[]⟩:=by
 refine Fn.goR I5 Tryz.func266 fun P hP Q hQ=>?_
 conv=>cbv
 refine LoopW.lp (κ:=Int×(List (List D))×Nat) I5 hP [1] [0,1] (fun(i6,aa,ab)=>[(5,.ref 2 0 ab),(6,I i6)]) (fun(i6,aa,ab)=>[(2,.row 2 false aa)])
  (fun(i6,aa,ab)=>∃(w2:List Ad),w2.map Ae=aa∧ab=w2.length∧0≤i6∧i6≤l.length∧w2=(l.take i6.toNat).filter (fun x=>!decide (x.name_=name))∧w2.length≤i6)
  (fun(i6,aa,ab)=>(l.length - i6).toNat) (0,[],0) ⟨[],rfl,rfl,by omega,by omega,rfl,by simp⟩ ⟨rfl,rfl,trivial⟩ rfl ?_
 rintro⟨i6,aa,ab⟩ J ⟨w2,ad,al,h0,h1,hx,hxl⟩ hJ
 conv=>cbv
 refine .go hl fun v1 ap=>?_
 conv=>cbv
 refine .lss (fun h2=>?_) fun h2=>?_
 conv=>cbv
 refine .go i6.toNat hl fun ac ⟨ah,am⟩ ae=>?_
 conv=>cbv
 refine .neq (fun h4=>?_) fun h4=>?_
 conv=>cbv
 refine .go i6.toNat hl fun an ⟨af,ag⟩ ai=>?_
 conv=>cbv
 refine .one (⟨af,ag⟩:Ad) ad rfl fun aj z6 ao ak=>?_
 conv=>cbv
 refine .add fun v7 aq=>?_
 conv=>cbv
 exact .go [4] (v7,z6,aj) (hJ _ ⟨_,ak,D4,by omega,by omega,by rw[show v7.toNat=i6.toNat+1 by omega,G8 ac,←hx,←ae];simp only[];rw[decide_eq_false h4,ai,←ae];rfl,by rw[List.length_append,List.length_singleton];omega⟩ mlt)
 conv=>cbv
 refine .add fun v5 ar=>?_
 conv=>cbv
 exact .go [2] (v5,aa,ab) (hJ _ ⟨_,ad,D4,by omega,by omega,by rw[show v5.toNat=i6.toNat+1 by omega,G8 ac,←hx,←ae];simp only[];rw[decide_eq_true h4];simp,by omega⟩ mlt)
 conv=>cbv
 have e:w2=Ck l name:=(by unfold Ck;rw[hx,List.take_of_length_le (by omega)])
 rw[hr]at e
 obtain rfl:=e
 obtain rfl:aa=xo:=by rw[←ad,←ho]
 obtain rfl:ab=no:=by first|omega|(rw[hno];simp;done)|(rw[hno];simp;omega)
 exact hQ _ _ (.of [2] (.inl rfl) rfl rfl rfl rfl)
theorem Gz{enam:ByteArray}{eid:Int}(hl:l.map Ae=xl)(hn:l.length≤4000000000)(hr:Cl l (⟨enam,eid⟩:Ad)=o)(ho:o.map Ae=xo)(hno:no=o.length):Fn Tryz.prog 267 [.d (.row 2 xl),.agg [S enam,I eid]] [] ⟨.ref 0 0 no,[.row 2 false xo],[]⟩:=by
 refine Fn.goR I5 Tryz.func267 fun P hP Q hQ=>?_
 conv=>cbv
 refine LoopW.lp (κ:=Bool×Int×(List (List D))×Nat) I5 hP [2] [0,3] (fun(b6,i7,ac,ad)=>[(5,.ref 3 0 ad),(6,B b6),(7,I i7)]) (fun(b6,i7,ac,ad)=>[(3,.row 2 false ac)])
  (fun(b6,i7,ac,ad)=>∃(w3:List Ad),w3.map Ae=ac∧ad=w3.length∧0≤i7∧i7≤l.length∧w3++P3 (⟨enam,eid⟩:Ad) (l.drop i7.toNat) b6=Cl l (⟨enam,eid⟩:Ad)∧w3.length≤2*i7)
  (fun(b6,i7,ac,ad)=>(l.length - i7).toNat) (false,0,[],0) ⟨[],rfl,rfl,by omega,by omega,rfl,by simp⟩ ⟨rfl,rfl,rfl,trivial⟩ rfl ?_
 rintro⟨b6,i7,ac,ad⟩ J ⟨w3,ag,bf,h0,h1,hx,hxl⟩ hJ
 conv=>cbv
 refine .go hl fun v1 bp=>?_
 conv=>cbv
 refine .lss (fun h2=>?_) fun h2=>?_
 conv=>cbv
 cases b6
 conv=>cbv
 refine .go i7.toNat hl fun aq ⟨ae,ak⟩ ab=>?_
 conv=>cbv
 refine .geq fun b4 al=>?_
 conv=>cbv
 cases b4
 conv=>cbv
 refine .go i7.toNat hl fun ar ⟨aa,af⟩ am=>?_
 conv=>cbv
 obtain⟨rfl,rfl⟩:aa=ae∧af=ak:=by have:=am.trans ab.symm;rw[Ad.mk.injEq]at this;exact this
 refine .neq (fun h6=>?_) fun h6=>?_
 conv=>cbv
 refine .go i7.toNat hl fun bg ⟨ah,an⟩ ay=>?_
 conv=>cbv
 obtain⟨rfl,rfl⟩:ah=aa∧an=af:=by have:=ay.trans am.symm;rw[Ad.mk.injEq]at this;exact this
 refine .one (⟨ah,an⟩:Ad) ag rfl fun az z8 bh a1=>?_
 conv=>cbv
 refine .add fun v9 bq=>?_
 conv=>cbv
 have hlt:ltB ah enam=true:=by simpa using al
 have hps:=G1 (show i7.toNat<l.length by omega) ab hx
 simp only[]at hps
 rw[hlt,if_neg (by simp),if_neg h6,List.nil_append,←List.append_assoc]at hps
 exact .go [5] (false,v9,z8,az) (hJ _ ⟨_,a1,D4,by omega,by omega,by rw[show v9.toNat=i7.toNat+1 by omega];exact hps,by first|omega|(simp;omega)⟩ mlt)
 conv=>cbv
 refine .add fun v7 a2=>?_
 conv=>cbv
 have hlt:ltB aa enam=true:=by simpa using al
 have hps:=G1 (show i7.toNat<l.length by omega) ab hx
 simp only[]at hps
 rw[hlt,if_neg (by simp),if_pos h6,List.nil_append,List.nil_append]at hps
 exact .go [3] (false,v7,ac,ad) (hJ _ ⟨_,ag,D4,by omega,by omega,by rw[show v7.toNat=i7.toNat+1 by omega];exact hps,by first|omega|(simp;omega)⟩ mlt)
 conv=>cbv
 refine .one (⟨enam,eid⟩:Ad) ag rfl fun a6 z5 bi au=>?_
 conv=>cbv
 refine .go i7.toNat hl fun bj ⟨ai,ao⟩ aw=>?_
 conv=>cbv
 obtain⟨rfl,rfl⟩:ai=ae∧ao=ak:=by have:=aw.trans ab.symm;rw[Ad.mk.injEq]at this;exact this
 refine .neq (fun h7=>?_) fun h7=>?_
 conv=>cbv
 refine .go i7.toNat hl fun bk ⟨aj,ap⟩ a7=>?_
 conv=>cbv
 obtain⟨rfl,rfl⟩:aj=ai∧ap=ao:=by have:=a7.trans aw.symm;rw[Ad.mk.injEq]at this;exact this
 refine .one (⟨aj,ap⟩:Ad) au rfl fun a8 z9 bl ba=>?_
 conv=>cbv
 refine .add fun ax bm=>?_
 conv=>cbv
 have hlt:ltB aj enam=false:=by simpa using al
 have hps:=G1 (show i7.toNat<l.length by omega) ab hx
 simp only[]at hps
 rw[hlt,if_pos (by simp),if_neg h7,←List.append_assoc,←List.append_assoc]at hps
 exact .go [7] (true,ax,z9,a8) (hJ _ ⟨_,ba,D4,by omega,by omega,by rw[show ax.toNat=i7.toNat+1 by omega];exact hps,by first|omega|(simp;omega)⟩ mlt)
 conv=>cbv
 refine .add fun v8 bt=>?_
 conv=>cbv
 have hlt:ltB ai enam=false:=by simpa using al
 have hps:=G1 (show i7.toNat<l.length by omega) ab hx
 simp only[]at hps
 rw[hlt,if_pos (by simp),if_pos h7,List.nil_append,←List.append_assoc]at hps
 exact .go [5] (true,v8,z5,a6) (hJ _ ⟨_,au,D4,by omega,by omega,by rw[show v8.toNat=i7.toNat+1 by omega];exact hps,by first|omega|(simp;omega)⟩ mlt)
 conv=>cbv
 refine .go i7.toNat hl fun aq ⟨ae,ak⟩ ab=>?_
 conv=>cbv
 refine .neq (fun h4=>?_) fun h4=>?_
 conv=>cbv
 refine .go i7.toNat hl fun ar ⟨aa,af⟩ am=>?_
 conv=>cbv
 obtain⟨rfl,rfl⟩:aa=ae∧af=ak:=by have:=am.trans ab.symm;rw[Ad.mk.injEq]at this;exact this
 refine .one (⟨aa,af⟩:Ad) ag rfl fun bb z6 bn bc=>?_
 conv=>cbv
 refine .add fun v7 a2=>?_
 conv=>cbv
 have hps:=G1 (show i7.toNat<l.length by omega) ab hx
 simp only[]at hps
 rw[if_neg (by simp),if_neg h4,List.nil_append,←List.append_assoc]at hps
 exact .go [5] (true,v7,z6,bb) (hJ _ ⟨_,bc,D4,by omega,by omega,by rw[show v7.toNat=i7.toNat+1 by omega];exact hps,by first|omega|(simp;omega)⟩ mlt)
 conv=>cbv
 refine .add fun v5 bu=>?_
 conv=>cbv
 have hps:=G1 (show i7.toNat<l.length by omega) ab hx
 simp only[]at hps
 rw[if_neg (by simp),if_pos h4,List.nil_append,List.nil_append]at hps
 exact .go [3] (true,v5,ac,ad) (hJ _ ⟨_,ag,D4,by omega,by omega,by rw[show v5.toNat=i7.toNat+1 by omega];exact hps,by first|omega|(simp;omega)⟩ mlt)
 conv=>cbv
 cases b6
 conv=>cbv
 refine .one (⟨enam,eid⟩:Ad) ag rfl fun bd z3 bo be=>?_
 conv=>cbv
 have e:(w3++[(⟨enam,eid⟩:Ad)])=Cl l (⟨enam,eid⟩:Ad):=(by rw[List.drop_of_length_le (by omega)]at hx;exact hx)
 rw[hr]at e
 obtain rfl:=e
 obtain rfl:z3=xo:=by rw[←be,←ho]
 obtain rfl:bd=no:=by first|omega|(rw[hno];simp;done)|(rw[hno];simp;omega)
 exact hQ _ _ (.of [5] (.inl rfl) rfl rfl rfl rfl)
 conv=>cbv
 have e:w3=Cl l (⟨enam,eid⟩:Ad):=(by rw[List.drop_of_length_le (by omega)]at hx;simpa[P3]using hx)
 rw[hr]at e
 obtain rfl:=e
 obtain rfl:ac=xo:=by rw[←ag,←ho]
 obtain rfl:ad=no:=by first|omega|(rw[hno];simp;done)|(rw[hno];simp;omega)
 exact hQ _ _ (.of [3] (.inl rfl) rfl rfl rfl rfl)
theorem Xar{old:List Ad}{xold:List (List D)}{steps:List ByteArray}{xsteps:List (List D)}{n:Int}{oa:List Ad}{xoa:List (List D)}{ob:Bool}{noa:Nat}(hold:old.map Ae=xold)(hsteps:steps.map cS=xsteps)(hol:old.length≤1000000000)(hsl:steps.length≤1000000000)(hss:okS steps)(hr:Cm old steps n=(oa,ob))(hoa:oa.map Ae=xoa)(hnoa:noa=oa.length):Fn Tryz.prog 212 [.d (.row 2 xold),.d (.row 1 xsteps),I n] [] ⟨.tup [.ref 0 0 noa,B ob],[.row 2 false xoa],[]⟩:=by
 refine Fn.goR I5 Tryz.func212 fun P hP Q hQ=>?_
 conv=>cbv
 refine .row0 hold fun ct z1 dc cu=>?_
 conv=>cbv
 refine .go hsteps fun v2 cv=>?_
 conv=>cbv
 generalize bv:Ff n 0 v2=r3
 refine .dd hP (Xai bv) ?_
 conv=>cbv
 have hbr:0≤r3∧r3≤steps.length:=by rw[←bv];unfold Ff;split<;>(try split)<;>omega
 refine LoopW.lp (κ:=Int×(List (List D))×Nat) I5 hP [2] [1,2] (fun(i9,aj,ak)=>[(8,.ref 3 0 ak),(9,I i9)]) (fun(i9,aj,ak)=>[(3,.row 2 false aj)])
  (fun(i9,aj,ak)=>∃(w3:List Ad),w3.map Ae=aj∧ak=w3.length∧0≤i9∧i9≤r3∧Cm old steps n=Cb w3 ((steps.take r3.toNat).drop i9.toNat)∧w3.length≤old.length+i9)
  (fun(i9,aj,ak)=>(r3 - i9).toNat) (0,z1,ct) ⟨old,cu,(by first|omega|(simp;omega)),by omega,by omega,by unfold Cm;rw[←cv,bv];rfl,by omega⟩ ⟨rfl,rfl,trivial⟩ rfl ?_
 rintro⟨i9,aj,ak⟩ J ⟨w3,aa,de,h0,h1,hio,hun⟩ hJ
 conv=>cbv
 refine .lss (fun h4=>?_) fun h4=>?_
 conv=>cbv
 refine .go i9.toNat hsteps fun b3 e5 ab=>?_
 conv=>cbv
 have dl:e5.size≤1000000000:=ab▸hss _ (List.getElem_mem b3)
 have hdc:(steps.take r3.toNat).drop i9.toNat=e5::(steps.take r3.toNat).drop (i9.toNat+1):=by rw[List.drop_eq_getElem_cons (by rw[List.length_take];omega),List.getElem_take,←ab]
 rw[hdc]at hio
 rcases an:Bi e5 with⟨ah,bn,bo,cw⟩
 refine .dd hP (Xbt (by omega) an) ?_
 conv=>cbv
 have hlf:=Xaf an
 cases cw
 conv=>cbv
 have e:([],false)=Cm old steps n:=(by rw[hio];show _=(if(Di w3 e5).2=false then _ else _);rw[Dt an (.inl rfl)];rfl)
 rw[hr]at e
 simp only[Prod.mk.injEq]at e
 obtain⟨rfl,rfl⟩:=e
 obtain rfl:[]=xoa:=by first|(rw[←hoa];done)|(rw[←hoa];rfl)
 obtain rfl:0=noa:=by first|omega|(rw[hnoa];simp;done)|(rw[hnoa];simp;omega)
 exact hQ _ _ (.of [4] (.inl rfl) rfl rfl rfl rfl)
 conv=>cbv
 obtain⟨h2z,hh0⟩:=hlf.2 rfl
 have h00:0<e5.size:=by omega
 have hh1:(e5[0]).toNat=43∨(e5[0]).toNat=45∨(e5[0]).toNat=62:=hh0.imp (fun h=>Xkq h00 h (by decide)) fun h=>h.imp (fun h=>Xkq h00 h (by decide)) fun h=>Xkq h00 h (by decide)
 generalize ba:Bo ah=r7
 refine .dd hP (Ks (by omega) ba) ?_
 cases r7
 conv=>cbv
 have e:([],false)=Cm old steps n:=(by rw[hio];show _=(if(Di w3 e5).2=false then _ else _);rw[Dt an (.inr (.inl ba))];rfl)
 rw[hr]at e
 simp only[Prod.mk.injEq]at e
 obtain⟨rfl,rfl⟩:=e
 obtain rfl:[]=xoa:=by first|(rw[←hoa];done)|(rw[←hoa];rfl)
 obtain rfl:0=noa:=by first|omega|(rw[hnoa];simp;done)|(rw[hnoa];simp;omega)
 exact hQ _ _ (.of [4] (.inl rfl) rfl rfl rfl rfl)
 conv=>cbv
 refine .go i9.toNat hsteps fun df e8 cx=>?_
 conv=>cbv
 obtain rfl:e5=e8:=ab.trans cx.symm
 refine .go 0 fun hjv9 v9 b4 bv9=>?_
 conv=>cbv
 refine .neq (fun h10=>?_) fun h10=>?_
 conv=>cbv
 generalize a6:Dr w3 ah=cy
 refine .lnt hP (Kv aa (by omega) a6) (.ref rfl (Af aa) (.d rfl .nil)) ?_
 cases cy
 conv=>cbv
 have e:([],false)=Cm old steps n:=(by rw[hio];show _=(if(Di w3 e5).2=false then _ else _);rw[Dt an (.inr (.inr ⟨(I1 (n:=43) h00 b4 (by omega) (by decide)),a6⟩))];rfl)
 rw[hr]at e
 simp only[Prod.mk.injEq]at e
 obtain⟨rfl,rfl⟩:=e
 obtain rfl:[]=xoa:=by first|(rw[←hoa];done)|(rw[←hoa];rfl)
 obtain rfl:0=noa:=by first|omega|(rw[hnoa];simp;done)|(rw[hnoa];simp;omega)
 exact hQ _ _ (.of [4] (.inl rfl) rfl rfl rfl rfl)
 conv=>cbv
 refine .go i9.toNat hsteps fun cz c0 b5=>?_
 conv=>cbv
 obtain rfl:e5=c0:=ab.trans b5.symm
 refine .go 0 fun hjv13 dm b6 bv13=>?_
 conv=>cbv
 refine .eql (fun h14=>?_) fun h14=>?_
 conv=>cbv
 generalize bq:Co w3 ah=b7
 refine .lnt hP (Ix aa (by omega) bq) (.ref rfl (Af aa) (.d rfl .nil)) ?_
 conv=>cbv
 refine .go i9.toNat hsteps fun c1 c2 b8=>?_
 conv=>cbv
 obtain rfl:e5=c2:=ab.trans b8.symm
 refine .go 0 fun hjv17 dn dg bv17=>?_
 conv=>cbv
 refine .neq (fun h18=>?_) fun h18=>?_
 conv=>cbv
 generalize bb:Ck w3 ah=bw
 have hln19:=Fd bb
 generalize ao:bw.map Ae=b9
 obtain⟨nl19,hnl19⟩:∃m,m=bw.length:=⟨_,rfl⟩
 refine .lntN hP (Jm aa (by omega) bb ao hnl19) (.ref rfl (Af aa) (.d rfl .nil)) rfl rfl rfl (by simp only[List.all_cons,List.all_nil,Bool.and_self,At (fun _=>rfl) ao]) ?_
 conv=>cbv
 refine .go i9.toNat hsteps fun c3 c4 ca=>?_
 conv=>cbv
 obtain rfl:e5=c4:=ab.trans ca.symm
 refine .go 0 fun hjv21 am a7 bv21=>?_
 conv=>cbv
 refine .neq (fun h22=>?_) fun h22=>?_
 conv=>cbv
 generalize bc:Cl bw (⟨bn,b7⟩:Ad)=cc
 have hln23:=C1 bc
 generalize bd:cc.map Ae=cd
 obtain⟨nl23,hnl23⟩:∃m,m=cc.length:=⟨_,rfl⟩
 refine .lntN hP (Gz ao (by omega) bc bd hnl23) (.ref rfl (Af ao) (.agg (.d rfl (.d rfl .nil)) .nil)) rfl rfl rfl (by simp only[List.all_cons,List.all_nil,Bool.and_self,At (fun _=>rfl) bd]) ?_
 conv=>cbv
 refine .add fun ce dh=>?_
 conv=>cbv
 exact .go [5] (ce,cd,nl23) (hJ _ ⟨_,bd,D4,by omega,by omega,by rw[hio,show ce.toNat=i9.toNat+1 by omega];show(if(Di w3 e5).2=false then _ else _)=_;rw[Sf an ba a6 (H7 (n:=62) h00 b6 (by omega) (by decide)),bb,bq,bc];rfl,by omega⟩ mlt)
 conv=>cbv
 refine .add fun a1 be=>?_
 conv=>cbv
 exact .go [4] (a1,b9,nl19) (hJ _ ⟨_,ao,D4,by omega,by omega,by exfalso;omega,by exfalso;omega⟩ mlt)
 conv=>cbv
 refine .go i9.toNat hsteps fun bf bg ap=>?_
 conv=>cbv
 obtain rfl:e5=bg:=ab.trans ap.symm
 refine .go 0 fun hjv20 bp a8 bv20=>?_
 conv=>cbv
 refine .neq (fun h21=>?_) fun h21=>?_
 conv=>cbv
 generalize af:Cl w3 (⟨ah,b7⟩:Ad)=aq
 have hln22:=C1 af
 generalize ac:aq.map Ae=ar
 obtain⟨nl22,hnl22⟩:∃m,m=aq.length:=⟨_,rfl⟩
 refine .lntN hP (Gz aa (by omega) af ac hnl22) (.ref rfl (Af aa) (.agg (.d rfl (.d rfl .nil)) .nil)) rfl rfl rfl (by simp only[List.all_cons,List.all_nil,Bool.and_self,At (fun _=>rfl) ac]) ?_
 conv=>cbv
 refine .add fun a1 be=>?_
 conv=>cbv
 exact .go [4] (a1,ar,nl22) (hJ _ ⟨_,ac,D4,by omega,by omega,by exfalso;omega,by exfalso;omega⟩ mlt)
 conv=>cbv
 refine .add fun ai au=>?_
 conv=>cbv
 exact .go [3] (ai,aj,ak) (hJ _ ⟨_,aa,D4,by omega,by omega,by exfalso;omega,by exfalso;omega⟩ mlt)
 conv=>cbv
 refine .go i9.toNat hsteps fun bz b0 bh=>?_
 conv=>cbv
 obtain rfl:e5=b0:=ab.trans bh.symm
 refine .go 0 fun hjv16 c5 cf bv16=>?_
 conv=>cbv
 refine .neq (fun h17=>?_) fun h17=>?_
 conv=>cbv
 generalize al:Ck w3 ah=a2
 have hln18:=Fd al
 generalize ad:a2.map Ae=bi
 obtain⟨nl18,hnl18⟩:∃m,m=a2.length:=⟨_,rfl⟩
 refine .lntN hP (Jm aa (by omega) al ad hnl18) (.ref rfl (Af aa) (.d rfl .nil)) rfl rfl rfl (by simp only[List.all_cons,List.all_nil,Bool.and_self,At (fun _=>rfl) ad]) ?_
 conv=>cbv
 refine .go i9.toNat hsteps fun bf bg ap=>?_
 conv=>cbv
 obtain rfl:e5=bg:=ab.trans ap.symm
 refine .go 0 fun hjv20 bp a8 bv20=>?_
 conv=>cbv
 refine .neq (fun h21=>?_) fun h21=>?_
 conv=>cbv
 generalize af:Cl a2 (⟨bn,bo⟩:Ad)=aq
 have hln22:=C1 af
 generalize ac:aq.map Ae=ar
 obtain⟨nl22,hnl22⟩:∃m,m=aq.length:=⟨_,rfl⟩
 refine .lntN hP (Gz ad (by omega) af ac hnl22) (.ref rfl (Af ad) (.agg (.d rfl (.d rfl .nil)) .nil)) rfl rfl rfl (by simp only[List.all_cons,List.all_nil,Bool.and_self,At (fun _=>rfl) ac]) ?_
 conv=>cbv
 refine .add fun a1 be=>?_
 conv=>cbv
 exact .go [5] (a1,ar,nl22) (hJ _ ⟨_,ac,D4,by omega,by omega,by exfalso;omega,by exfalso;omega⟩ mlt)
 conv=>cbv
 refine .add fun ai au=>?_
 conv=>cbv
 exact .go [4] (ai,bi,nl18) (hJ _ ⟨_,ad,D4,by omega,by omega,by rw[hio,show ai.toNat=i9.toNat+1 by omega];show(if(Di w3 e5).2=false then _ else _)=_;rw[Pl an ba a6 (H7 (n:=45) h00 a8 (by omega) (by decide)),al];rfl,by omega⟩ mlt)
 conv=>cbv
 refine .go i9.toNat hsteps fun bj bk aw=>?_
 conv=>cbv
 obtain rfl:e5=bk:=ab.trans aw.symm
 refine .go 0 fun hjv19 cg bt bv19=>?_
 conv=>cbv
 refine .neq (fun h20=>?_) fun h20=>?_
 conv=>cbv
 generalize ag:Cl w3 (⟨ah,bo⟩:Ad)=ax
 have hln21:=C1 ag
 generalize ae:ax.map Ae=ay
 obtain⟨nl21,hnl21⟩:∃m,m=ax.length:=⟨_,rfl⟩
 refine .lntN hP (Gz aa (by omega) ag ae hnl21) (.ref rfl (Af aa) (.agg (.d rfl (.d rfl .nil)) .nil)) rfl rfl rfl (by simp only[List.all_cons,List.all_nil,Bool.and_self,At (fun _=>rfl) ae]) ?_
 conv=>cbv
 refine .add fun ai au=>?_
 conv=>cbv
 exact .go [4] (ai,ay,nl21) (hJ _ ⟨_,ae,D4,by omega,by omega,by exfalso;omega,by exfalso;omega⟩ mlt)
 conv=>cbv
 refine .add fun am a7=>?_
 conv=>cbv
 exact .go [3] (am,aj,ak) (hJ _ ⟨_,aa,D4,by omega,by omega,by exfalso;omega,by exfalso;omega⟩ mlt)
 conv=>cbv
 refine .go i9.toNat hsteps fun c6 c7 cj=>?_
 conv=>cbv
 obtain rfl:e5=c7:=ab.trans cj.symm
 refine .go 0 fun hjv12 dp di bv12=>?_
 conv=>cbv
 refine .eql (fun h13=>?_) fun h13=>?_
 conv=>cbv
 generalize ck:Co w3 ah=cm
 refine .lnt hP (Ix aa (by omega) ck) (.ref rfl (Af aa) (.d rfl .nil)) ?_
 conv=>cbv
 refine .go i9.toNat hsteps fun bz b0 bh=>?_
 conv=>cbv
 obtain rfl:e5=b0:=ab.trans bh.symm
 refine .go 0 fun hjv16 c5 cf bv16=>?_
 conv=>cbv
 refine .neq (fun h17=>?_) fun h17=>?_
 conv=>cbv
 generalize al:Ck w3 ah=a2
 have hln18:=Fd al
 generalize ad:a2.map Ae=bi
 obtain⟨nl18,hnl18⟩:∃m,m=a2.length:=⟨_,rfl⟩
 refine .lntN hP (Jm aa (by omega) al ad hnl18) (.ref rfl (Af aa) (.d rfl .nil)) rfl rfl rfl (by simp only[List.all_cons,List.all_nil,Bool.and_self,At (fun _=>rfl) ad]) ?_
 conv=>cbv
 refine .go i9.toNat hsteps fun bf bg ap=>?_
 conv=>cbv
 obtain rfl:e5=bg:=ab.trans ap.symm
 refine .go 0 fun hjv20 bp a8 bv20=>?_
 conv=>cbv
 refine .neq (fun h21=>?_) fun h21=>?_
 conv=>cbv
 generalize af:Cl a2 (⟨bn,cm⟩:Ad)=aq
 have hln22:=C1 af
 generalize ac:aq.map Ae=ar
 obtain⟨nl22,hnl22⟩:∃m,m=aq.length:=⟨_,rfl⟩
 refine .lntN hP (Gz ad (by omega) af ac hnl22) (.ref rfl (Af ad) (.agg (.d rfl (.d rfl .nil)) .nil)) rfl rfl rfl (by simp only[List.all_cons,List.all_nil,Bool.and_self,At (fun _=>rfl) ac]) ?_
 conv=>cbv
 refine .add fun a1 be=>?_
 conv=>cbv
 exact .go [5] (a1,ar,nl22) (hJ _ ⟨_,ac,D4,by omega,by omega,by exfalso;omega,by exfalso;omega⟩ mlt)
 conv=>cbv
 refine .add fun ai au=>?_
 conv=>cbv
 exact .go [4] (ai,bi,nl18) (hJ _ ⟨_,ad,D4,by omega,by omega,by exfalso;omega,by exfalso;omega⟩ mlt)
 conv=>cbv
 refine .go i9.toNat hsteps fun bj bk aw=>?_
 conv=>cbv
 obtain rfl:e5=bk:=ab.trans aw.symm
 refine .go 0 fun hjv19 cg bt bv19=>?_
 conv=>cbv
 refine .neq (fun h20=>?_) fun h20=>?_
 conv=>cbv
 generalize ag:Cl w3 (⟨ah,cm⟩:Ad)=ax
 have hln21:=C1 ag
 generalize ae:ax.map Ae=ay
 obtain⟨nl21,hnl21⟩:∃m,m=ax.length:=⟨_,rfl⟩
 refine .lntN hP (Gz aa (by omega) ag ae hnl21) (.ref rfl (Af aa) (.agg (.d rfl (.d rfl .nil)) .nil)) rfl rfl rfl (by simp only[List.all_cons,List.all_nil,Bool.and_self,At (fun _=>rfl) ae]) ?_
 conv=>cbv
 refine .add fun ai au=>?_
 conv=>cbv
 exact .go [4] (ai,ay,nl21) (hJ _ ⟨_,ae,D4,by omega,by omega,by exfalso;omega,by exfalso;omega⟩ mlt)
 conv=>cbv
 refine .add fun am a7=>?_
 conv=>cbv
 exact .go [3] (am,aj,ak) (hJ _ ⟨_,aa,D4,by omega,by omega,by exfalso;omega,by exfalso;omega⟩ mlt)
 conv=>cbv
 refine .go i9.toNat hsteps fun c8 c9 cn=>?_
 conv=>cbv
 obtain rfl:e5=c9:=ab.trans cn.symm
 refine .go 0 fun hjv15 dq dj bv15=>?_
 conv=>cbv
 refine .neq (fun h16=>?_) fun h16=>?_
 conv=>cbv
 generalize bu:Ck w3 ah=b2
 have hln17:=Fd bu
 generalize az:b2.map Ae=co
 obtain⟨nl17,hnl17⟩:∃m,m=b2.length:=⟨_,rfl⟩
 refine .lntN hP (Jm aa (by omega) bu az hnl17) (.ref rfl (Af aa) (.d rfl .nil)) rfl rfl rfl (by simp only[List.all_cons,List.all_nil,Bool.and_self,At (fun _=>rfl) az]) ?_
 conv=>cbv
 refine .go i9.toNat hsteps fun bj bk aw=>?_
 conv=>cbv
 obtain rfl:e5=bk:=ab.trans aw.symm
 refine .go 0 fun hjv19 cg bt bv19=>?_
 conv=>cbv
 refine .neq (fun h20=>?_) fun h20=>?_
 conv=>cbv
 generalize ag:Cl b2 (⟨bn,bo⟩:Ad)=ax
 have hln21:=C1 ag
 generalize ae:ax.map Ae=ay
 obtain⟨nl21,hnl21⟩:∃m,m=ax.length:=⟨_,rfl⟩
 refine .lntN hP (Gz az (by omega) ag ae hnl21) (.ref rfl (Af az) (.agg (.d rfl (.d rfl .nil)) .nil)) rfl rfl rfl (by simp only[List.all_cons,List.all_nil,Bool.and_self,At (fun _=>rfl) ae]) ?_
 conv=>cbv
 refine .add fun ai au=>?_
 conv=>cbv
 exact .go [5] (ai,ay,nl21) (hJ _ ⟨_,ae,D4,by omega,by omega,by exfalso;omega,by exfalso;omega⟩ mlt)
 conv=>cbv
 refine .add fun am a7=>?_
 conv=>cbv
 exact .go [4] (am,co,nl17) (hJ _ ⟨_,az,D4,by omega,by omega,by exfalso;omega,by exfalso;omega⟩ mlt)
 conv=>cbv
 refine .go i9.toNat hsteps fun da db cp=>?_
 conv=>cbv
 obtain rfl:e5=db:=ab.trans cp.symm
 refine .go 0 fun hjv18 dr dk bv18=>?_
 conv=>cbv
 refine .neq (fun h19=>?_) fun h19=>?_
 conv=>cbv
 generalize bl:Cl w3 (⟨ah,bo⟩:Ad)=cq
 have hln20:=C1 bl
 generalize bm:cq.map Ae=cr
 obtain⟨nl20,hnl20⟩:∃m,m=cq.length:=⟨_,rfl⟩
 refine .lntN hP (Gz aa (by omega) bl bm hnl20) (.ref rfl (Af aa) (.agg (.d rfl (.d rfl .nil)) .nil)) rfl rfl rfl (by simp only[List.all_cons,List.all_nil,Bool.and_self,At (fun _=>rfl) bm]) ?_
 conv=>cbv
 refine .add fun am a7=>?_
 conv=>cbv
 exact .go [4] (am,cr,nl20) (hJ _ ⟨_,bm,D4,by omega,by omega,by rw[hio,show am.toNat=i9.toNat+1 by omega];show(if(Di w3 e5).2=false then _ else _)=_;rw[Rv an ba (H7 (n:=43) h00 b4 (by omega) (by decide)),bl];rfl,by omega⟩ mlt)
 conv=>cbv
 refine .add fun bp a8=>?_
 conv=>cbv
 exact .go [3] (bp,aj,ak) (hJ _ ⟨_,aa,D4,by omega,by omega,by exfalso;omega,by exfalso;omega⟩ mlt)
 conv=>cbv
 have e:(w3,true)=Cm old steps n:=(by rw[hio,List.drop_of_length_le (by rw[List.length_take];omega)];rfl)
 rw[hr]at e
 simp only[Prod.mk.injEq]at e
 obtain⟨rfl,rfl⟩:=e
 obtain rfl:aj=xoa:=by rw[←aa,←hoa]
 obtain rfl:ak=noa:=by first|omega|(rw[hnoa];simp;done)|(rw[hnoa];simp;omega)
 exact hQ _ _ (.of [3] (.inl rfl) rfl rfl rfl rfl)
theorem L7{ndnod:Nat}{ndent:Nat}{ndold:Nat}{ndste:Nat}{o:List Cs}(Ay:Ak.map B5=Bj)(Av:Al.map Ae=Be)(A3:An.map Ae=Bd)(A5:Am.map cS=Bf)(hndnod:ndnod=Ak.length)(hndent:ndent=Al.length)(hndold:ndold=An.length)(hndste:ndste=Am.length)(hn:Ak.length≤2000000000)(hol:An.length≤1000000000)(hsl:Am.length≤1000000000)(hss:okS Am)(hr:(Et ⟨Ak,Al,An,Am,Aq,As⟩).nodes_=o)(ho:o.map B5=xo)(hno:no=o.length):Fn Tryz.prog 213 [.agg [.ref 0 0 ndnod,.ref 1 0 ndent,.ref 2 0 ndold,.ref 3 0 ndste,I Aq,I As]] [.row 3 false Bj,.row 2 false Be,.row 2 false Bd,.row 1 false Bf] ⟨.agg [.ref 4 0 no,.ref 1 0 ndent,.ref 2 0 ndold,.ref 3 0 ndste,I Aq,I As],[.row 3 false xo],[]⟩:=by
 refine Fn.goR I5 Tryz.func213 fun P hP Q hQ=>?_
 conv=>cbv
 refine LoopW.lp (κ:=Int×(List (List D))×Nat) I5 hP [10] [1,2] (fun(i4,aa,ab)=>[(3,.ref 11 0 ab),(4,I i4)]) (fun(i4,aa,ab)=>[(11,.row 3 false aa)])
  (fun(i4,aa,ab)=>∃(ai:List Cs),ai.map B5=aa∧ab=ai.length∧0≤i4∧i4≤Ak.length∧ai=(Ak.take i4.toNat).filter (fun x=>Xce An Am x.id_)∧ai.length≤i4)
  (fun(i4,aa,ab)=>(Ak.length - i4).toNat) (0,[],0) ⟨[],rfl,rfl,by omega,by omega,by simp,by simp⟩ ⟨rfl,rfl,trivial⟩ rfl ?_
 rintro⟨i4,aa,ab⟩ J ⟨ai,ah,bb,h0,h1,hx,hxl⟩ hJ
 conv=>cbv
 refine .go fun v1 bk=>?_
 conv=>cbv
 refine .lss (fun h2=>?_) fun h2=>?_
 conv=>cbv
 refine LoopW.lp (κ:=Bool×Int) I5 hP [] [1,2,3,4] (fun(b5,i6)=>[(5,B b5),(6,I i6)]) (fun(b5,i6)=>[])
  (fun(b5,i6)=>0≤i6∧i6≤Am.length+1∧b5=(List.range i6.toNat).any (fun k=>Yu (Cb An (Am.take k)).1 (Ak.getD i4.toNat ⟨0,tx [],0⟩).id_))
  (fun(b5,i6)=>(Am.length+1 - i6).toNat) (false,0) ⟨by omega,by omega,rfl⟩ ⟨rfl,rfl,trivial⟩ rfl ?_
 rintro⟨b5,i6⟩ J1 ⟨k0,k1,hu⟩ bc
 conv=>cbv
 refine .go fun v3 bl=>?_
 conv=>cbv
 refine .leq (fun h4=>?_) fun h4=>?_
 conv=>cbv
 cases b5
 conv=>cbv
 rcases ax:Cm An Am i6 with⟨ac,bd⟩
 generalize aj:ac.map Ae=bh
 obtain⟨nr5a,hnr5a⟩:∃m,m=ac.length:=⟨_,rfl⟩
 have hS:Cb An (Am.take i6.toNat)=(ac,bd):=by rw[←Xa5 (by omega) (by omega)];exact ax
 have bm:ac.length≤2000000000:=by
  have:=XfG (Am.take i6.toNat) An
  rw[hS,List.length_take]at this
  simp only[]at this
  omega
 refine .lntN hP (Xar A3 A5 hol hsl hss ax aj hnr5a) (.ref rfl (Af A3) (.ref rfl (Af A5) (.d rfl .nil))) rfl rfl rfl (by simp only[List.all_cons,List.all_nil,Bool.and_self,At (fun _=>rfl) aj]) ?_
 conv=>cbv
 refine LoopW.lp (κ:=Bool×Int) I5 hP [] [1,2,3,4,6,7,24,25] (fun(b5,i9)=>[(5,B b5),(9,I i9)]) (fun(b5,i9)=>[])
  (fun(b5,i9)=>0≤i9∧i9≤ac.length∧b5=Yu (ac.take i9.toNat) (Ak.getD i4.toNat ⟨0,tx [],0⟩).id_)
  (fun(b5,i9)=>(ac.length - i9).toNat) (false,0) ⟨by omega,by omega,rfl⟩ ⟨rfl,rfl,trivial⟩ rfl ?_
 rintro⟨b5,i9⟩ J2 ⟨m0,m1,hb⟩ an
 conv=>cbv
 refine .go fun v6 bn=>?_
 conv=>cbv
 refine .lss (fun h7=>?_) fun h7=>?_
 conv=>cbv
 cases b5
 conv=>cbv
 refine .go i9.toNat fun p8 be bi=>?_
 conv=>cbv
 refine .go aj fun am ⟨bf,bj⟩ ay=>?_
 conv=>cbv
 refine .go i4.toNat fun bo az bg=>?_
 conv=>cbv
 refine .go Ay fun ao ⟨ap,a8,ba⟩ a1=>?_
 conv=>cbv
 subst be az
 have hide:(Ak.getD i4.toNat ⟨0,tx [],0⟩).id_=ap:=by rw[←gD ao,←a1]
 refine .eql (fun h12=>?_) fun h12=>?_
 conv=>cbv
 refine .add fun ak a2=>?_
 conv=>cbv
 exact .go [] (true,ak) (an _ ⟨by omega,by omega,by rw[show ak.toNat=i9.toNat+1 by omega,R4 am,←ay,hide];simp only[];rw[decide_eq_true h12,Bool.or_true]⟩ mlt)
 conv=>cbv
 refine .add fun ak a2=>?_
 conv=>cbv
 exact .go [] (false,ak) (an _ ⟨by omega,by omega,by rw[show ak.toNat=i9.toNat+1 by omega,R4 am,←ay,←hb,hide];simp only[];rw[decide_eq_false h12];rfl⟩ mlt)
 conv=>cbv
 refine .add fun v8 aq=>?_
 conv=>cbv
 exact .go [] (true,v8) (an _ ⟨by omega,by omega,by rw[show v8.toNat=i9.toNat+1 by omega,R4 (show i9.toNat<ac.length by omega),←hb];rfl⟩ mlt)
 conv=>cbv
 refine .add fun v8 aq=>?_
 conv=>cbv
 exact .go [] (b5,v8) (bc _ ⟨by omega,by omega,by rw[show v8.toNat=i6.toNat+1 by omega,Wb,←hu,Bool.false_or,hS];show _=Yu ac _;rw[hb,List.take_of_length_le (by omega)]⟩ mlt)
 conv=>cbv
 refine .go i4.toNat fun p5 ar a6=>?_
 conv=>cbv
 refine .go Ay fun ad ⟨ae,af,ag⟩ al=>?_
 conv=>cbv
 refine .one (⟨ae,af,ag⟩:Cs) ah rfl fun au z7 a7 aw=>?_
 conv=>cbv
 refine .add fun v8 aq=>?_
 conv=>cbv
 subst ar
 have hid:(Ak.getD i4.toNat ⟨0,tx [],0⟩).id_=ae:=by rw[←gD ad,←al]
 have hus:=Wu (show i6.toNat≤Am.length+1 by omega) hu
 rw[hid]at hus
 exact .go [13] (v8,z7,au) (hJ _ ⟨_,aw,D4,by omega,by omega,by rw[show v8.toNat=i4.toNat+1 by omega,G8 ad,←hx,←al];simp only[];rw[hus];rfl,by rw[List.length_append,List.length_singleton];omega⟩ mlt)
 conv=>cbv
 cases b5
 conv=>cbv
 refine .add fun v5 bp=>?_
 conv=>cbv
 have hj:i4.toNat<Ak.length:=by omega
 have hus:Xce An Am Ak[i4.toNat].id_=false:=by rw[gD hj (d:=⟨0,tx [],0⟩)];unfold Xce;rw[show Am.length+1=i6.toNat by omega];exact hu.symm
 exact .go [11] (v5,aa,ab) (hJ _ ⟨_,ah,D4,by omega,by omega,by rw[show v5.toNat=i4.toNat+1 by omega,G8 hj,←hx,hus];simp,by omega⟩ mlt)
 conv=>cbv
 refine .go i4.toNat fun p5 ar a6=>?_
 conv=>cbv
 refine .go Ay fun ad ⟨ae,af,ag⟩ al=>?_
 conv=>cbv
 refine .one (⟨ae,af,ag⟩:Cs) ah rfl fun au z7 a7 aw=>?_
 conv=>cbv
 refine .add fun v8 aq=>?_
 conv=>cbv
 subst ar
 have hid:(Ak.getD i4.toNat ⟨0,tx [],0⟩).id_=ae:=by rw[←gD ad,←al]
 have hus:=Wu (show i6.toNat≤Am.length+1 by omega) hu
 rw[hid]at hus
 exact .go [13] (v8,z7,au) (hJ _ ⟨_,aw,D4,by omega,by omega,by rw[show v8.toNat=i4.toNat+1 by omega,G8 ad,←hx,←al];simp only[];rw[hus];rfl,by rw[List.length_append,List.length_singleton];omega⟩ mlt)
 conv=>cbv
 obtain rfl:ai=o:=by rw[hx,List.take_of_length_le (by omega),←hr];rfl
 obtain rfl:aa=xo:=by rw[←ah,←ho]
 obtain rfl:ab=no:=by omega
 exact hQ _ _ (.of [11] (.inl rfl) rfl rfl rfl rfl)
theorem Jk(Ay:Ak.map B5=Bj)(Av:Al.map Ae=Be)(A3:An.map Ae=Bd)(A5:Am.map cS=Bf)(hn:Ak.length≤1000000000)(he:Al.length≤1000000000)(ho:An.length≤1000000000)(hs:Am.length<1000000000)(hss:okS Am)(ay:Sk (⟨Ak,Al,An,Am,Aq,As⟩:Aa))(hm:name.size≤1000000000)(hr:Ax (⟨Ak,Al,An,Am,Aq,As⟩:Aa) name=(⟨Pk,Ph,Pn,Pp,V6,V4⟩,ob))(Fp:Pk.map B5=D9)(Fq:Ph.map Ae=Ec)(Fs:Pn.map Ae=Ee)(Fo:Pp.map cS=Ed)(hnoanod:noanod=Pk.length)(hnoaent:noaent=Ph.length)(hnoaold:noaold=Pn.length)(hnoaste:noaste=Pp.length):Fn Tryz.prog 223 [.agg [.d (.row 3 Bj),.d (.row 2 Be),.d (.row 2 Bd),.d (.row 1 Bf),I Aq,I As],S name] [] ⟨.tup [.agg [.ref 0 0 noanod,.ref 1 0 noaent,.ref 2 0 noaold,.ref 3 0 noaste,I V6,I V4],I ob],[.row 3 false D9,.row 2 false Ec,.row 2 false Ee,.row 1 false Ed],[]⟩:=by
 refine Fn.goR I5 Tryz.func223 fun P hP Q hQ=>?_
 conv=>cbv
 obtain⟨n2,az⟩:∃m,m=Ak.length:=⟨_,rfl⟩
 obtain⟨n3,a1⟩:∃m,m=Al.length:=⟨_,rfl⟩
 obtain⟨n4,a2⟩:∃m,m=An.length:=⟨_,rfl⟩
 obtain⟨n5,a6⟩:∃m,m=Am.length:=⟨_,rfl⟩
 refine .ddN hP (Li Ay Av A3 A5 (by omega) (by omega) (by omega) (by omega) az a1 a2 a6) rfl ?_
 conv=>cbv
 generalize ab:B6 (⟨Ak,Al,An,Am,Aq,As⟩:Aa)=r6
 refine .lnt hP (Of Ay Av A3 A5 ay ab) (.agg (.ref rfl (Af Ay) (.ref rfl (Af Av) (.ref rfl (Af A3) (.ref rfl (Af A5) (.d rfl (.d rfl .nil)))))) .nil) ?_
 cases r6
 conv=>cbv
 have e:((⟨Ak,Al,An,Am,Aq,As⟩:Aa),3)=Ax (⟨Ak,Al,An,Am,Aq,As⟩:Aa) name:=(by unfold Ax;rw[if_pos ab])
 rw[hr]at e
 simp only[Prod.mk.injEq,Aa.mk.injEq]at e
 obtain⟨⟨rfl,rfl,rfl,rfl,rfl,rfl⟩,rfl⟩:=e
 obtain rfl:Bj=D9:=by rw[←Ay,←Fp]
 obtain rfl:n2=noanod:=by first|omega|(rw[hnoanod];simp;done)|(rw[hnoanod];simp;omega)
 obtain rfl:Be=Ec:=by rw[←Av,←Fq]
 obtain rfl:n3=noaent:=by first|omega|(rw[hnoaent];simp;done)|(rw[hnoaent];simp;omega)
 obtain rfl:Bd=Ee:=by rw[←A3,←Fs]
 obtain rfl:n4=noaold:=by first|omega|(rw[hnoaold];simp;done)|(rw[hnoaold];simp;omega)
 obtain rfl:Bf=Ed:=by rw[←A5,←Fo]
 obtain rfl:n5=noaste:=by first|omega|(rw[hnoaste];simp;done)|(rw[hnoaste];simp;omega)
 exact hQ _ _ (.of [6,7,8,9] (.inl rfl) rfl rfl rfl rfl)
 conv=>cbv
 generalize ac:Bo name=r7
 refine .dd hP (Ks (by omega) ac) ?_
 cases r7
 conv=>cbv
 have e:((⟨Ak,Al,An,Am,Aq,As⟩:Aa),1)=Ax (⟨Ak,Al,An,Am,Aq,As⟩:Aa) name:=(by unfold Ax;rw[if_neg (by rw[ab];decide),if_pos ac])
 rw[hr]at e
 simp only[Prod.mk.injEq,Aa.mk.injEq]at e
 obtain⟨⟨rfl,rfl,rfl,rfl,rfl,rfl⟩,rfl⟩:=e
 obtain rfl:Bj=D9:=by rw[←Ay,←Fp]
 obtain rfl:n2=noanod:=by first|omega|(rw[hnoanod];simp;done)|(rw[hnoanod];simp;omega)
 obtain rfl:Be=Ec:=by rw[←Av,←Fq]
 obtain rfl:n3=noaent:=by first|omega|(rw[hnoaent];simp;done)|(rw[hnoaent];simp;omega)
 obtain rfl:Bd=Ee:=by rw[←A3,←Fs]
 obtain rfl:n4=noaold:=by first|omega|(rw[hnoaold];simp;done)|(rw[hnoaold];simp;omega)
 obtain rfl:Bf=Ed:=by rw[←A5,←Fo]
 obtain rfl:n5=noaste:=by first|omega|(rw[hnoaste];simp;done)|(rw[hnoaste];simp;omega)
 exact hQ _ _ (.of [6,7,8,9] (.inl rfl) rfl rfl rfl rfl)
 conv=>cbv
 generalize ae:Dr Al name=r8
 refine .lnt hP (Kv Av (by omega) ae) (.ref rfl (Af Av) (.d rfl .nil)) ?_
 cases r8
 conv=>cbv
 refine .go fun v9 bg=>?_
 conv=>cbv
 refine .geq (fun h10=>?_) fun h10=>?_
 conv=>cbv
 have e:((⟨Ak,Al,An,Am,Aq,As⟩:Aa),4)=Ax (⟨Ak,Al,An,Am,Aq,As⟩:Aa) name:=(by unfold Ax;rw[if_neg (by rw[ab];decide),if_neg (by rw[ac];decide),if_neg (by have:=Xbz ae;dsimp only;omega),if_pos (by dsimp only;omega)])
 rw[hr]at e
 simp only[Prod.mk.injEq,Aa.mk.injEq]at e
 obtain⟨⟨rfl,rfl,rfl,rfl,rfl,rfl⟩,rfl⟩:=e
 obtain rfl:Bj=D9:=by rw[←Ay,←Fp]
 obtain rfl:n2=noanod:=by first|omega|(rw[hnoanod];simp;done)|(rw[hnoanod];simp;omega)
 obtain rfl:Be=Ec:=by rw[←Av,←Fq]
 obtain rfl:n3=noaent:=by first|omega|(rw[hnoaent];simp;done)|(rw[hnoaent];simp;omega)
 obtain rfl:Bd=Ee:=by rw[←A3,←Fs]
 obtain rfl:n4=noaold:=by first|omega|(rw[hnoaold];simp;done)|(rw[hnoaold];simp;omega)
 obtain rfl:Bf=Ed:=by rw[←A5,←Fo]
 obtain rfl:n5=noaste:=by first|omega|(rw[hnoaste];simp;done)|(rw[hnoaste];simp;omega)
 exact hQ _ _ (.of [6,7,8,9] (.inl rfl) rfl rfl rfl rfl)
 conv=>cbv
 refine .go fun bh bb=>?_
 conv=>cbv
 refine .geq (fun h12=>?_) fun h12=>?_
 conv=>cbv
 have e:((⟨Ak,Al,An,Am,Aq,As⟩:Aa),4)=Ax (⟨Ak,Al,An,Am,Aq,As⟩:Aa) name:=(by unfold Ax;rw[if_neg (by rw[ab];decide),if_neg (by rw[ac];decide),if_neg (by have:=Xbz ae;dsimp only;omega),if_pos (by dsimp only;omega)])
 rw[hr]at e
 simp only[Prod.mk.injEq,Aa.mk.injEq]at e
 obtain⟨⟨rfl,rfl,rfl,rfl,rfl,rfl⟩,rfl⟩:=e
 obtain rfl:Bj=D9:=by rw[←Ay,←Fp]
 obtain rfl:n2=noanod:=by first|omega|(rw[hnoanod];simp;done)|(rw[hnoanod];simp;omega)
 obtain rfl:Be=Ec:=by rw[←Av,←Fq]
 obtain rfl:n3=noaent:=by first|omega|(rw[hnoaent];simp;done)|(rw[hnoaent];simp;omega)
 obtain rfl:Bd=Ee:=by rw[←A3,←Fs]
 obtain rfl:n4=noaold:=by first|omega|(rw[hnoaold];simp;done)|(rw[hnoaold];simp;omega)
 obtain rfl:Bf=Ed:=by rw[←A5,←Fo]
 obtain rfl:n5=noaste:=by first|omega|(rw[hnoaste];simp;done)|(rw[hnoaste];simp;omega)
 exact hQ _ _ (.of [6,7,8,9] (.inl rfl) rfl rfl rfl rfl)
 conv=>cbv
 refine .geq (fun h13=>?_) fun h13=>?_
 conv=>cbv
 have e:((⟨Ak,Al,An,Am,Aq,As⟩:Aa),4)=Ax (⟨Ak,Al,An,Am,Aq,As⟩:Aa) name:=(by unfold Ax;rw[if_neg (by rw[ab];decide),if_neg (by rw[ac];decide),if_neg (by have:=Xbz ae;dsimp only;omega),if_pos (by dsimp only;omega)])
 rw[hr]at e
 simp only[Prod.mk.injEq,Aa.mk.injEq]at e
 obtain⟨⟨rfl,rfl,rfl,rfl,rfl,rfl⟩,rfl⟩:=e
 obtain rfl:Bj=D9:=by rw[←Ay,←Fp]
 obtain rfl:n2=noanod:=by first|omega|(rw[hnoanod];simp;done)|(rw[hnoanod];simp;omega)
 obtain rfl:Be=Ec:=by rw[←Av,←Fq]
 obtain rfl:n3=noaent:=by first|omega|(rw[hnoaent];simp;done)|(rw[hnoaent];simp;omega)
 obtain rfl:Bd=Ee:=by rw[←A3,←Fs]
 obtain rfl:n4=noaold:=by first|omega|(rw[hnoaold];simp;done)|(rw[hnoaold];simp;omega)
 obtain rfl:Bf=Ed:=by rw[←A5,←Fo]
 obtain rfl:n5=noaste:=by first|omega|(rw[hnoaste];simp;done)|(rw[hnoaste];simp;omega)
 exact hQ _ _ (.of [6,7,8,9] (.inl rfl) rfl rfl rfl rfl)
 conv=>cbv
 have hri:=Lg ab
 simp only[]at hri
 refine .one (⟨As,tx [],0⟩:Cs) Ay rfl fun bc bi a7 an=>?_
 conv=>cbv
 generalize ak:Cl Al (⟨name,As⟩:Ad)=af
 generalize ad:af.map Ae=ao
 obtain⟨nl15,hnl15⟩:∃m,m=af.length:=⟨_,rfl⟩
 refine .lntN hP (Gz Av (by omega) ak ad hnl15) (.ref rfl (Af Av) (.agg (.d rfl (.d rfl .nil)) .nil)) rfl rfl rfl (by simp only[List.all_cons,List.all_nil,Bool.and_self,At (fun _=>rfl) ad]) ?_
 conv=>cbv
 have hnz:=XcP ac
 refine .litL 1 fun bj ap bd=>?_
 conv=>cbv
 refine .litR 1 fun bk aq be=>?_
 conv=>cbv
 generalize ah:Cy As=bl
 refine .dd hP (Xa0 (by unfold Xfw;omega) ah) ?_
 conv=>cbv
 have zr18:=Ww ah (by unfold Xfw;omega)
 refine .go fun ag ar bf=>?_
 conv=>cbv
 refine .one ag A5 rfl fun au a8 ba al=>?_
 conv=>cbv
 refine .add fun aj aw=>?_
 conv=>cbv
 generalize am:(Et (⟨(Ak++[(⟨As,tx [],0⟩:Cs)]),af,An,(Am++[ag]),Aq,aj⟩:Aa)).nodes_=aa
 generalize hx22:aa.map B5=ai
 obtain⟨nr22nod,hnr22nod⟩:∃m,m=aa.length:=⟨_,rfl⟩
 have ax:Et (⟨(Ak++[(⟨As,tx [],0⟩:Cs)]),af,An,(Am++[ag]),Aq,aj⟩:Aa)=⟨aa,af,An,(Am++[ag]),Aq,aj⟩:=by rw[←am];rfl
 refine .bx [11,12,8,14] [] hP (L7 an ad A3 al (by first|rfl|omega|(simp;omega)) (by first|rfl|omega|(simp;omega)) (by first|rfl|omega|(simp;omega)) (by first|rfl|omega|(simp;omega)) (by rw[List.length_append,List.length_singleton];omega) (by omega) (by rw[List.length_append,List.length_singleton];omega) (Tl hss (by omega)) am hx22 hnr22nod) rfl rfl rfl rfl ?_
 conv=>cbv
 have e:((⟨aa,af,An,Am++[ag],Aq,aj⟩:Aa),0)=Ax (⟨Ak,Al,An,Am,Aq,As⟩:Aa) name:=(by unfold Ax;rw[if_neg (by rw[ab];decide),if_neg (by rw[ac];decide),if_neg (by have:=Xbz ae;dsimp only;omega),if_neg (by dsimp only;omega)];exact congrArg (fun x:Aa=>(x,(0:Int))) (ax.symm.trans (by rw[←ak,aw,show ag=tx [43]++name++tx [58]++Cy As from(by rw[ar,aq,ap,ah];rfl)];exact Xcu ab ac)))
 rw[hr]at e
 simp only[Prod.mk.injEq,Aa.mk.injEq]at e
 obtain⟨⟨rfl,rfl,rfl,rfl,rfl,rfl⟩,rfl⟩:=e
 obtain rfl:ai=D9:=by rw[←hx22,←Fp]
 obtain rfl:nr22nod=noanod:=by first|omega|(rw[hnoanod];simp;done)|(rw[hnoanod];simp;omega)
 obtain rfl:ao=Ec:=by rw[←ad,←Fq]
 obtain rfl:nl15=noaent:=by first|omega|(rw[hnoaent];simp;done)|(rw[hnoaent];simp;omega)
 obtain rfl:Bd=Ee:=by rw[←A3,←Fs]
 obtain rfl:n4=noaold:=by first|omega|(rw[hnoaold];simp;done)|(rw[hnoaold];simp;omega)
 obtain rfl:a8=Ed:=by rw[←al,←Fo]
 obtain rfl:au=noaste:=by first|omega|(rw[hnoaste];simp;done)|(rw[hnoaste];simp;omega)
 exact hQ _ _ (.of [15,12,8,14] (.inl rfl) rfl rfl rfl rfl)
 conv=>cbv
 have e:((⟨Ak,Al,An,Am,Aq,As⟩:Aa),2)=Ax (⟨Ak,Al,An,Am,Aq,As⟩:Aa) name:=(by unfold Ax;rw[if_neg (by rw[ab];decide),if_neg (by rw[ac];decide),if_pos (Yf ae)])
 rw[hr]at e
 simp only[Prod.mk.injEq,Aa.mk.injEq]at e
 obtain⟨⟨rfl,rfl,rfl,rfl,rfl,rfl⟩,rfl⟩:=e
 obtain rfl:Bj=D9:=by rw[←Ay,←Fp]
 obtain rfl:n2=noanod:=by first|omega|(rw[hnoanod];simp;done)|(rw[hnoanod];simp;omega)
 obtain rfl:Be=Ec:=by rw[←Av,←Fq]
 obtain rfl:n3=noaent:=by first|omega|(rw[hnoaent];simp;done)|(rw[hnoaent];simp;omega)
 obtain rfl:Bd=Ee:=by rw[←A3,←Fs]
 obtain rfl:n4=noaold:=by first|omega|(rw[hnoaold];simp;done)|(rw[hnoaold];simp;omega)
 obtain rfl:Bf=Ed:=by rw[←A5,←Fo]
 obtain rfl:n5=noaste:=by first|omega|(rw[hnoaste];simp;done)|(rw[hnoaste];simp;omega)
 exact hQ _ _ (.of [6,7,8,9] (.inl rfl) rfl rfl rfl rfl)
theorem Py{text:ByteArray}(Ay:Ak.map B5=Bj)(Av:Al.map Ae=Be)(A3:An.map Ae=Bd)(A5:Am.map cS=Bf)(hn:Ak.length≤1000000000)(he:Al.length≤1000000000)(ho:An.length≤1000000000)(hs:Am.length<1000000000)(hss:okS Am)(aj:Sk (⟨Ak,Al,An,Am,Aq,As⟩:Aa))(ht:text.size≤1000000000)(hr:Bp (⟨Ak,Al,An,Am,Aq,As⟩:Aa) name text=(⟨Pk,Ph,Pn,Pp,V6,V4⟩,ob))(Fp:Pk.map B5=D9)(Fq:Ph.map Ae=Ec)(Fs:Pn.map Ae=Ee)(Fo:Pp.map cS=Ed)(hnoanod:noanod=Pk.length)(hnoaent:noaent=Ph.length)(hnoaold:noaold=Pn.length)(hnoaste:noaste=Pp.length):Fn Tryz.prog 145 [.agg [.d (.row 3 Bj),.d (.row 2 Be),.d (.row 2 Bd),.d (.row 1 Bf),I Aq,I As],S name,S text] [] ⟨.tup [.agg [.ref 0 0 noanod,.ref 1 0 noaent,.ref 2 0 noaold,.ref 3 0 noaste,I V6,I V4],I ob],[.row 3 false D9,.row 2 false Ec,.row 2 false Ee,.row 1 false Ed],[]⟩:=by
 refine Fn.goR I5 Tryz.func145 fun P hP Q hQ=>?_
 conv=>cbv
 obtain⟨n2,a8⟩:∃m,m=Ak.length:=⟨_,rfl⟩
 obtain⟨n3,ba⟩:∃m,m=Al.length:=⟨_,rfl⟩
 obtain⟨n4,bb⟩:∃m,m=An.length:=⟨_,rfl⟩
 obtain⟨n5,bc⟩:∃m,m=Am.length:=⟨_,rfl⟩
 refine .ddN hP (Li Ay Av A3 A5 (by omega) (by omega) (by omega) (by omega) a8 ba bb bc) rfl ?_
 conv=>cbv
 generalize ah:B6 (⟨Ak,Al,An,Am,Aq,As⟩:Aa)=r6
 refine .lnt hP (Of Ay Av A3 A5 aj ah) (.agg (.ref rfl (Af Ay) (.ref rfl (Af Av) (.ref rfl (Af A3) (.ref rfl (Af A5) (.d rfl (.d rfl .nil)))))) .nil) ?_
 cases r6
 conv=>cbv
 have e:((⟨Ak,Al,An,Am,Aq,As⟩:Aa),3)=Bp (⟨Ak,Al,An,Am,Aq,As⟩:Aa) name text:=(by unfold Bp;rw[if_pos (.inl ah)])
 rw[hr]at e
 simp only[Prod.mk.injEq,Aa.mk.injEq]at e
 obtain⟨⟨rfl,rfl,rfl,rfl,rfl,rfl⟩,rfl⟩:=e
 obtain rfl:Bj=D9:=by rw[←Ay,←Fp]
 obtain rfl:n2=noanod:=by first|omega|(rw[hnoanod];simp;done)|(rw[hnoanod];simp;omega)
 obtain rfl:Be=Ec:=by rw[←Av,←Fq]
 obtain rfl:n3=noaent:=by first|omega|(rw[hnoaent];simp;done)|(rw[hnoaent];simp;omega)
 obtain rfl:Bd=Ee:=by rw[←A3,←Fs]
 obtain rfl:n4=noaold:=by first|omega|(rw[hnoaold];simp;done)|(rw[hnoaold];simp;omega)
 obtain rfl:Bf=Ed:=by rw[←A5,←Fo]
 obtain rfl:n5=noaste:=by first|omega|(rw[hnoaste];simp;done)|(rw[hnoaste];simp;omega)
 exact hQ _ _ (.of [6,7,8,9] (.inl rfl) rfl rfl rfl rfl)
 conv=>cbv
 generalize am:Dr Al name=r7
 refine .lnt hP (Kv Av (by omega) am) (.ref rfl (Af Av) (.d rfl .nil)) ?_
 cases r7
 conv=>cbv
 have e:((⟨Ak,Al,An,Am,Aq,As⟩:Aa),3)=Bp (⟨Ak,Al,An,Am,Aq,As⟩:Aa) name text:=(by unfold Bp;rw[if_pos (.inr (Xo (Xbz am)))])
 rw[hr]at e
 simp only[Prod.mk.injEq,Aa.mk.injEq]at e
 obtain⟨⟨rfl,rfl,rfl,rfl,rfl,rfl⟩,rfl⟩:=e
 obtain rfl:Bj=D9:=by rw[←Ay,←Fp]
 obtain rfl:n2=noanod:=by first|omega|(rw[hnoanod];simp;done)|(rw[hnoanod];simp;omega)
 obtain rfl:Be=Ec:=by rw[←Av,←Fq]
 obtain rfl:n3=noaent:=by first|omega|(rw[hnoaent];simp;done)|(rw[hnoaent];simp;omega)
 obtain rfl:Bd=Ee:=by rw[←A3,←Fs]
 obtain rfl:n4=noaold:=by first|omega|(rw[hnoaold];simp;done)|(rw[hnoaold];simp;omega)
 obtain rfl:Bf=Ed:=by rw[←A5,←Fo]
 obtain rfl:n5=noaste:=by first|omega|(rw[hnoaste];simp;done)|(rw[hnoaste];simp;omega)
 exact hQ _ _ (.of [6,7,8,9] (.inl rfl) rfl rfl rfl rfl)
 conv=>cbv
 generalize ap:Co Al name=r8
 refine .lnt hP (Ix Av (by omega) ap) (.ref rfl (Af Av) (.d rfl .nil)) ?_
 conv=>cbv
 generalize aq:G4 (⟨Ak,Al,An,Am,Aq,As⟩:Aa) r8=r9
 refine .lnt hP (Qv Ay Av A3 A5 (by omega) aq) (.agg (.ref rfl (Af Ay) (.ref rfl (Af Av) (.ref rfl (Af A3) (.ref rfl (Af A5) (.d rfl (.d rfl .nil)))))) (.d rfl .nil)) ?_
 conv=>cbv
 have hpl:=Yf am
 have hk:Cr (⟨Ak,Al,An,Am,Aq,As⟩:Aa) name=r9:=by rw[←Xb (d:=(⟨Ak,Al,An,Am,Aq,As⟩:Aa)) hpl];show G4 _ (Co Al name)=r9;rw[ap,aq]
 have hb:=Jp hk
 have bd:=(Xds ah hpl).2
 rw[hk]at bd
 simp only[]at hb
 generalize af:Ho (⟨Ak,Al,An,Am,Aq,As⟩:Aa)=ar
 refine .lnt hP (Xeq Ay Av A3 A5 aj.1 af) (.agg (.ref rfl (Af Ay) (.ref rfl (Af Av) (.ref rfl (Af A3) (.ref rfl (Af A5) (.d rfl (.d rfl .nil)))))) .nil) ?_
 conv=>cbv
 have hri:=Lg ah
 simp only[af]at hri
 refine .sub fun bm au=>?_
 conv=>cbv
 refine .go fun bn bi=>?_
 conv=>cbv
 refine .gtr (fun h13=>?_) fun h13=>?_
 conv=>cbv
 refine .go r9.toNat fun ai aw an=>?_
 conv=>cbv
 refine .go Ay fun ae ⟨ao,aa,ak⟩ ab=>?_
 conv=>cbv
 have ax:aa.size≤1000000000:=by have h9:=aj.1.2.1 _ (List.getElem_mem ae);rw[←ab]at h9;exact h9
 refine .hi fun al ag=>?_
 conv=>cbv
 have bj:al.size≤text.size:=by rw[ag,ByteArray.size_extract];omega
 refine .go fun ay az bk=>?_
 conv=>cbv
 refine .go r9.toNat fun ac a1 be=>?_
 conv=>cbv
 refine .go (⟨(Ak.getD ac ⟨0,tx [],0⟩).id_,ay,(Ak.getD ac ⟨0,tx [],0⟩).sure_⟩:Cs) Ay (by omega) (by rw[←gD (show ac<Ak.length by omega)];rfl) (show 1+1≤3 by decide) fun bf a2=>?_
 conv=>cbv
 have e:((⟨Ak.set ac (⟨(Ak.getD ac ⟨0,tx [],0⟩).id_,ay,(Ak.getD ac ⟨0,tx [],0⟩).sure_⟩:Cs),Al,An,Am,Aq,As⟩:Aa),5)=Bp (⟨Ak,Al,An,Am,Aq,As⟩:Aa) name text:=(by unfold Bp;rw[if_neg (by rintro(h|h);rw[ah]at h;cases h;rw[hk]at h;omega),hk,af];dsimp only;rw[if_pos (by omega)];unfold setN gN;dsimp only;have e9:aa=(Ak.getD ac ⟨0,tx [],0⟩).text_:=(by have h9:ai=ac:=(by omega);subst h9;rw[←gD (show ai<Ak.length by omega),←ab]);rw[←a1,az,e9,ag,au,show min (text.size:Int) (Aq - ar)=Aq - ar by omega])
 rw[hr]at e
 simp only[Prod.mk.injEq,Aa.mk.injEq]at e
 obtain⟨⟨rfl,rfl,rfl,rfl,rfl,rfl⟩,rfl⟩:=e
 obtain rfl:bf=D9:=by rw[←a2,←Fp]
 obtain rfl:n2=noanod:=by first|omega|(rw[hnoanod];simp;done)|(rw[hnoanod];simp;omega)
 obtain rfl:Be=Ec:=by rw[←Av,←Fq]
 obtain rfl:n3=noaent:=by first|omega|(rw[hnoaent];simp;done)|(rw[hnoaent];simp;omega)
 obtain rfl:Bd=Ee:=by rw[←A3,←Fs]
 obtain rfl:n4=noaold:=by first|omega|(rw[hnoaold];simp;done)|(rw[hnoaold];simp;omega)
 obtain rfl:Bf=Ed:=by rw[←A5,←Fo]
 obtain rfl:n5=noaste:=by first|omega|(rw[hnoaste];simp;done)|(rw[hnoaste];simp;omega)
 exact hQ _ _ (.of [6,7,8,9] (.inl rfl) rfl rfl rfl rfl)
 conv=>cbv
 refine .go r9.toNat fun ai aw an=>?_
 conv=>cbv
 refine .go Ay fun ae ⟨ao,aa,ak⟩ ab=>?_
 conv=>cbv
 have ax:aa.size≤1000000000:=by have h9:=aj.1.2.1 _ (List.getElem_mem ae);rw[←ab]at h9;exact h9
 refine .go fun al ag bl=>?_
 conv=>cbv
 refine .go r9.toNat fun ad a6 bg=>?_
 conv=>cbv
 refine .go (⟨(Ak.getD ad ⟨0,tx [],0⟩).id_,al,(Ak.getD ad ⟨0,tx [],0⟩).sure_⟩:Cs) Ay (by omega) (by rw[←gD (show ad<Ak.length by omega)];rfl) (show 1+1≤3 by decide) fun bh a7=>?_
 conv=>cbv
 have e:((⟨Ak.set ad (⟨(Ak.getD ad ⟨0,tx [],0⟩).id_,al,(Ak.getD ad ⟨0,tx [],0⟩).sure_⟩:Cs),Al,An,Am,Aq,As⟩:Aa),0)=Bp (⟨Ak,Al,An,Am,Aq,As⟩:Aa) name text:=(by unfold Bp;rw[if_neg (by rintro(h|h);rw[ah]at h;cases h;rw[hk]at h;omega),hk,af];dsimp only;rw[if_neg (by omega)];unfold setN gN;dsimp only;have e9:aa=(Ak.getD ad ⟨0,tx [],0⟩).text_:=(by have h9:ai=ad:=(by omega);subst h9;rw[←gD (show ai<Ak.length by omega),←ab]);rw[←a6,ag,e9,Y1 (t:=text) (by omega)])
 rw[hr]at e
 simp only[Prod.mk.injEq,Aa.mk.injEq]at e
 obtain⟨⟨rfl,rfl,rfl,rfl,rfl,rfl⟩,rfl⟩:=e
 obtain rfl:bh=D9:=by rw[←a7,←Fp]
 obtain rfl:n2=noanod:=by first|omega|(rw[hnoanod];simp;done)|(rw[hnoanod];simp;omega)
 obtain rfl:Be=Ec:=by rw[←Av,←Fq]
 obtain rfl:n3=noaent:=by first|omega|(rw[hnoaent];simp;done)|(rw[hnoaent];simp;omega)
 obtain rfl:Bd=Ee:=by rw[←A3,←Fs]
 obtain rfl:n4=noaold:=by first|omega|(rw[hnoaold];simp;done)|(rw[hnoaold];simp;omega)
 obtain rfl:Bf=Ed:=by rw[←A5,←Fo]
 obtain rfl:n5=noaste:=by first|omega|(rw[hnoaste];simp;done)|(rw[hnoaste];simp;omega)
 exact hQ _ _ (.of [6,7,8,9] (.inl rfl) rfl rfl rfl rfl)
theorem U2(Ay:Ak.map B5=Bj)(Av:Al.map Ae=Be)(A3:An.map Ae=Bd)(A5:Am.map cS=Bf)(hn:Ak.length≤1000000000)(he:Al.length≤1000000000)(ho:An.length≤1000000000)(hs:Am.length<1000000000)(hss:okS Am)(an:Sk (⟨Ak,Al,An,Am,Aq,As⟩:Aa))(hr:Dm (⟨Ak,Al,An,Am,Aq,As⟩:Aa) name=(⟨Pk,Ph,Pn,Pp,V6,V4⟩,ob))(Fp:Pk.map B5=D9)(Fq:Ph.map Ae=Ec)(Fs:Pn.map Ae=Ee)(Fo:Pp.map cS=Ed)(hnoanod:noanod=Pk.length)(hnoaent:noaent=Ph.length)(hnoaold:noaold=Pn.length)(hnoaste:noaste=Pp.length):Fn Tryz.prog 222 [.agg [.d (.row 3 Bj),.d (.row 2 Be),.d (.row 2 Bd),.d (.row 1 Bf),I Aq,I As],S name] [] ⟨.tup [.agg [.ref 0 0 noanod,.ref 1 0 noaent,.ref 2 0 noaold,.ref 3 0 noaste,I V6,I V4],I ob],[.row 3 false D9,.row 2 false Ec,.row 2 false Ee,.row 1 false Ed],[]⟩:=by
 refine Fn.goR I5 Tryz.func222 fun P hP Q hQ=>?_
 conv=>cbv
 obtain⟨n2,ao⟩:∃m,m=Ak.length:=⟨_,rfl⟩
 obtain⟨n3,ap⟩:∃m,m=Al.length:=⟨_,rfl⟩
 obtain⟨n4,aq⟩:∃m,m=An.length:=⟨_,rfl⟩
 obtain⟨n5,ar⟩:∃m,m=Am.length:=⟨_,rfl⟩
 refine .ddN hP (Li Ay Av A3 A5 (by omega) (by omega) (by omega) (by omega) ao ap aq ar) rfl ?_
 conv=>cbv
 generalize ab:B6 (⟨Ak,Al,An,Am,Aq,As⟩:Aa)=r6
 refine .lnt hP (Of Ay Av A3 A5 an ab) (.agg (.ref rfl (Af Ay) (.ref rfl (Af Av) (.ref rfl (Af A3) (.ref rfl (Af A5) (.d rfl (.d rfl .nil)))))) .nil) ?_
 cases r6
 conv=>cbv
 have e:((⟨Ak,Al,An,Am,Aq,As⟩:Aa),3)=Dm (⟨Ak,Al,An,Am,Aq,As⟩:Aa) name:=(by unfold Dm;rw[if_pos (.inl ab)])
 rw[hr]at e
 simp only[Prod.mk.injEq,Aa.mk.injEq]at e
 obtain⟨⟨rfl,rfl,rfl,rfl,rfl,rfl⟩,rfl⟩:=e
 obtain rfl:Bj=D9:=by rw[←Ay,←Fp]
 obtain rfl:n2=noanod:=by first|omega|(rw[hnoanod];simp;done)|(rw[hnoanod];simp;omega)
 obtain rfl:Be=Ec:=by rw[←Av,←Fq]
 obtain rfl:n3=noaent:=by first|omega|(rw[hnoaent];simp;done)|(rw[hnoaent];simp;omega)
 obtain rfl:Bd=Ee:=by rw[←A3,←Fs]
 obtain rfl:n4=noaold:=by first|omega|(rw[hnoaold];simp;done)|(rw[hnoaold];simp;omega)
 obtain rfl:Bf=Ed:=by rw[←A5,←Fo]
 obtain rfl:n5=noaste:=by first|omega|(rw[hnoaste];simp;done)|(rw[hnoaste];simp;omega)
 exact hQ _ _ (.of [6,7,8,9] (.inl rfl) rfl rfl rfl rfl)
 conv=>cbv
 generalize ad:Dr Al name=r7
 refine .lnt hP (Kv Av (by omega) ad) (.ref rfl (Af Av) (.d rfl .nil)) ?_
 cases r7
 conv=>cbv
 have e:((⟨Ak,Al,An,Am,Aq,As⟩:Aa),3)=Dm (⟨Ak,Al,An,Am,Aq,As⟩:Aa) name:=(by unfold Dm;rw[if_pos (.inr (Xo (Xbz ad)))])
 rw[hr]at e
 simp only[Prod.mk.injEq,Aa.mk.injEq]at e
 obtain⟨⟨rfl,rfl,rfl,rfl,rfl,rfl⟩,rfl⟩:=e
 obtain rfl:Bj=D9:=by rw[←Ay,←Fp]
 obtain rfl:n2=noanod:=by first|omega|(rw[hnoanod];simp;done)|(rw[hnoanod];simp;omega)
 obtain rfl:Be=Ec:=by rw[←Av,←Fq]
 obtain rfl:n3=noaent:=by first|omega|(rw[hnoaent];simp;done)|(rw[hnoaent];simp;omega)
 obtain rfl:Bd=Ee:=by rw[←A3,←Fs]
 obtain rfl:n4=noaold:=by first|omega|(rw[hnoaold];simp;done)|(rw[hnoaold];simp;omega)
 obtain rfl:Bf=Ed:=by rw[←A5,←Fo]
 obtain rfl:n5=noaste:=by first|omega|(rw[hnoaste];simp;done)|(rw[hnoaste];simp;omega)
 exact hQ _ _ (.of [6,7,8,9] (.inl rfl) rfl rfl rfl rfl)
 conv=>cbv
 generalize ae:Co Al name=r8
 refine .lnt hP (Ix Av (by omega) ae) (.ref rfl (Af Av) (.d rfl .nil)) ?_
 conv=>cbv
 generalize af:G4 (⟨Ak,Al,An,Am,Aq,As⟩:Aa) r8=r9
 refine .lnt hP (Qv Ay Av A3 A5 (by omega) af) (.agg (.ref rfl (Af Ay) (.ref rfl (Af Av) (.ref rfl (Af A3) (.ref rfl (Af A5) (.d rfl (.d rfl .nil)))))) (.d rfl .nil)) ?_
 conv=>cbv
 have hpl:=Yf ad
 have hk:Cr (⟨Ak,Al,An,Am,Aq,As⟩:Aa) name=r9:=by rw[←Xb (d:=(⟨Ak,Al,An,Am,Aq,As⟩:Aa)) hpl];show G4 _ (Co Al name)=r9;rw[ae,af]
 have hb:=Jp hk
 have au:=(Xds ab hpl).2
 rw[hk]at au
 simp only[]at hb
 refine .go r9.toNat fun ag a2 aw=>?_
 conv=>cbv
 refine .go Ay fun ax ⟨ay,ac,am⟩ ah=>?_
 conv=>cbv
 refine .go fun ai aj=>?_
 conv=>cbv
 refine .go r9.toNat fun aa ak az=>?_
 conv=>cbv
 refine .go (⟨(Ak.getD aa ⟨0,tx [],0⟩).id_,(Ak.getD aa ⟨0,tx [],0⟩).text_,ai⟩:Cs) Ay (by omega) (by rw[←gD (show aa<Ak.length by omega)];rfl) (show 2+1≤3 by decide) fun a1 al=>?_
 conv=>cbv
 have e:((⟨Ak.set aa (⟨(Ak.getD aa ⟨0,tx [],0⟩).id_,(Ak.getD aa ⟨0,tx [],0⟩).text_,ai⟩:Cs),Al,An,Am,Aq,As⟩:Aa),0)=Dm (⟨Ak,Al,An,Am,Aq,As⟩:Aa) name:=(by unfold Dm;rw[if_neg (by rintro(h|h);rw[ab]at h;cases h;rw[hk]at h;omega),hk];dsimp only;have e9:ac=(Ak.getD aa ⟨0,tx [],0⟩).text_:=(by have h9:ag=aa:=(by omega);subst h9;rw[←gD (show ag<Ak.length by omega),←ah]);rw[aj,e9,←ak])
 rw[hr]at e
 simp only[Prod.mk.injEq,Aa.mk.injEq]at e
 obtain⟨⟨rfl,rfl,rfl,rfl,rfl,rfl⟩,rfl⟩:=e
 obtain rfl:a1=D9:=by rw[←al,←Fp]
 obtain rfl:n2=noanod:=by first|omega|(rw[hnoanod];simp;done)|(rw[hnoanod];simp;omega)
 obtain rfl:Be=Ec:=by rw[←Av,←Fq]
 obtain rfl:n3=noaent:=by first|omega|(rw[hnoaent];simp;done)|(rw[hnoaent];simp;omega)
 obtain rfl:Bd=Ee:=by rw[←A3,←Fs]
 obtain rfl:n4=noaold:=by first|omega|(rw[hnoaold];simp;done)|(rw[hnoaold];simp;omega)
 obtain rfl:Bf=Ed:=by rw[←A5,←Fo]
 obtain rfl:n5=noaste:=by first|omega|(rw[hnoaste];simp;done)|(rw[hnoaste];simp;omega)
 exact hQ _ _ (.of [6,7,8,9] (.inl rfl) rfl rfl rfl rfl)
theorem Yq{from_:ByteArray}{to_:ByteArray}(Ay:Ak.map B5=Bj)(Av:Al.map Ae=Be)(A3:An.map Ae=Bd)(A5:Am.map cS=Bf)(hn:Ak.length≤1000000000)(he:Al.length≤1000000000)(ho:An.length≤1000000000)(hs:Am.length<1000000000)(hss:okS Am)(ay:Sk (⟨Ak,Al,An,Am,Aq,As⟩:Aa))(hm:from_.size+to_.size<999999999)(hr:Cv (⟨Ak,Al,An,Am,Aq,As⟩:Aa) from_ to_=(⟨Pk,Ph,Pn,Pp,V6,V4⟩,ob))(Fp:Pk.map B5=D9)(Fq:Ph.map Ae=Ec)(Fs:Pn.map Ae=Ee)(Fo:Pp.map cS=Ed)(hnoanod:noanod=Pk.length)(hnoaent:noaent=Ph.length)(hnoaold:noaold=Pn.length)(hnoaste:noaste=Pp.length):Fn Tryz.prog 238 [.agg [.d (.row 3 Bj),.d (.row 2 Be),.d (.row 2 Bd),.d (.row 1 Bf),I Aq,I As],S from_,S to_] [] ⟨.tup [.agg [.ref 0 0 noanod,.ref 1 0 noaent,.ref 2 0 noaold,.ref 3 0 noaste,I V6,I V4],I ob],[.row 3 false D9,.row 2 false Ec,.row 2 false Ee,.row 1 false Ed],[]⟩:=by
 refine Fn.goR I5 Tryz.func238 fun P hP Q hQ=>?_
 conv=>cbv
 obtain⟨n2,az⟩:∃m,m=Ak.length:=⟨_,rfl⟩
 obtain⟨n3,a1⟩:∃m,m=Al.length:=⟨_,rfl⟩
 obtain⟨n4,a2⟩:∃m,m=An.length:=⟨_,rfl⟩
 obtain⟨n5,a6⟩:∃m,m=Am.length:=⟨_,rfl⟩
 refine .ddN hP (Li Ay Av A3 A5 (by omega) (by omega) (by omega) (by omega) az a1 a2 a6) rfl ?_
 conv=>cbv
 generalize ad:B6 (⟨Ak,Al,An,Am,Aq,As⟩:Aa)=r6
 refine .lnt hP (Of Ay Av A3 A5 ay ad) (.agg (.ref rfl (Af Ay) (.ref rfl (Af Av) (.ref rfl (Af A3) (.ref rfl (Af A5) (.d rfl (.d rfl .nil)))))) .nil) ?_
 cases r6
 conv=>cbv
 have e:((⟨Ak,Al,An,Am,Aq,As⟩:Aa),3)=Cv (⟨Ak,Al,An,Am,Aq,As⟩:Aa) from_ to_:=(by unfold Cv;rw[if_pos (.inl ad)])
 rw[hr]at e
 simp only[Prod.mk.injEq,Aa.mk.injEq]at e
 obtain⟨⟨rfl,rfl,rfl,rfl,rfl,rfl⟩,rfl⟩:=e
 obtain rfl:Bj=D9:=by rw[←Ay,←Fp]
 obtain rfl:n2=noanod:=by first|omega|(rw[hnoanod];simp;done)|(rw[hnoanod];simp;omega)
 obtain rfl:Be=Ec:=by rw[←Av,←Fq]
 obtain rfl:n3=noaent:=by first|omega|(rw[hnoaent];simp;done)|(rw[hnoaent];simp;omega)
 obtain rfl:Bd=Ee:=by rw[←A3,←Fs]
 obtain rfl:n4=noaold:=by first|omega|(rw[hnoaold];simp;done)|(rw[hnoaold];simp;omega)
 obtain rfl:Bf=Ed:=by rw[←A5,←Fo]
 obtain rfl:n5=noaste:=by first|omega|(rw[hnoaste];simp;done)|(rw[hnoaste];simp;omega)
 exact hQ _ _ (.of [6,7,8,9] (.inl rfl) rfl rfl rfl rfl)
 conv=>cbv
 generalize ae:Dr Al from_=r7
 refine .lnt hP (Kv Av (by omega) ae) (.ref rfl (Af Av) (.d rfl .nil)) ?_
 cases r7
 conv=>cbv
 have e:((⟨Ak,Al,An,Am,Aq,As⟩:Aa),3)=Cv (⟨Ak,Al,An,Am,Aq,As⟩:Aa) from_ to_:=(by unfold Cv;rw[if_pos (.inr (Xbz ae))])
 rw[hr]at e
 simp only[Prod.mk.injEq,Aa.mk.injEq]at e
 obtain⟨⟨rfl,rfl,rfl,rfl,rfl,rfl⟩,rfl⟩:=e
 obtain rfl:Bj=D9:=by rw[←Ay,←Fp]
 obtain rfl:n2=noanod:=by first|omega|(rw[hnoanod];simp;done)|(rw[hnoanod];simp;omega)
 obtain rfl:Be=Ec:=by rw[←Av,←Fq]
 obtain rfl:n3=noaent:=by first|omega|(rw[hnoaent];simp;done)|(rw[hnoaent];simp;omega)
 obtain rfl:Bd=Ee:=by rw[←A3,←Fs]
 obtain rfl:n4=noaold:=by first|omega|(rw[hnoaold];simp;done)|(rw[hnoaold];simp;omega)
 obtain rfl:Bf=Ed:=by rw[←A5,←Fo]
 obtain rfl:n5=noaste:=by first|omega|(rw[hnoaste];simp;done)|(rw[hnoaste];simp;omega)
 exact hQ _ _ (.of [6,7,8,9] (.inl rfl) rfl rfl rfl rfl)
 conv=>cbv
 generalize aj:Bo to_=r8
 refine .dd hP (Ks (by omega) aj) ?_
 cases r8
 conv=>cbv
 have e:((⟨Ak,Al,An,Am,Aq,As⟩:Aa),1)=Cv (⟨Ak,Al,An,Am,Aq,As⟩:Aa) from_ to_:=(by unfold Cv;rw[if_neg (by rintro(h|h);rw[ad]at h;cases h;have:=Yf ae;dsimp only at h;omega),if_pos (.inl aj)])
 rw[hr]at e
 simp only[Prod.mk.injEq,Aa.mk.injEq]at e
 obtain⟨⟨rfl,rfl,rfl,rfl,rfl,rfl⟩,rfl⟩:=e
 obtain rfl:Bj=D9:=by rw[←Ay,←Fp]
 obtain rfl:n2=noanod:=by first|omega|(rw[hnoanod];simp;done)|(rw[hnoanod];simp;omega)
 obtain rfl:Be=Ec:=by rw[←Av,←Fq]
 obtain rfl:n3=noaent:=by first|omega|(rw[hnoaent];simp;done)|(rw[hnoaent];simp;omega)
 obtain rfl:Bd=Ee:=by rw[←A3,←Fs]
 obtain rfl:n4=noaold:=by first|omega|(rw[hnoaold];simp;done)|(rw[hnoaold];simp;omega)
 obtain rfl:Bf=Ed:=by rw[←A5,←Fo]
 obtain rfl:n5=noaste:=by first|omega|(rw[hnoaste];simp;done)|(rw[hnoaste];simp;omega)
 exact hQ _ _ (.of [6,7,8,9] (.inl rfl) rfl rfl rfl rfl)
 conv=>cbv
 refine .eql (fun h9=>?_) fun h9=>?_
 conv=>cbv
 have e:((⟨Ak,Al,An,Am,Aq,As⟩:Aa),1)=Cv (⟨Ak,Al,An,Am,Aq,As⟩:Aa) from_ to_:=(by unfold Cv;rw[if_neg (by rintro(h|h);rw[ad]at h;cases h;have:=Yf ae;dsimp only at h;omega),if_pos (.inr h9)])
 rw[hr]at e
 simp only[Prod.mk.injEq,Aa.mk.injEq]at e
 obtain⟨⟨rfl,rfl,rfl,rfl,rfl,rfl⟩,rfl⟩:=e
 obtain rfl:Bj=D9:=by rw[←Ay,←Fp]
 obtain rfl:n2=noanod:=by first|omega|(rw[hnoanod];simp;done)|(rw[hnoanod];simp;omega)
 obtain rfl:Be=Ec:=by rw[←Av,←Fq]
 obtain rfl:n3=noaent:=by first|omega|(rw[hnoaent];simp;done)|(rw[hnoaent];simp;omega)
 obtain rfl:Bd=Ee:=by rw[←A3,←Fs]
 obtain rfl:n4=noaold:=by first|omega|(rw[hnoaold];simp;done)|(rw[hnoaold];simp;omega)
 obtain rfl:Bf=Ed:=by rw[←A5,←Fo]
 obtain rfl:n5=noaste:=by first|omega|(rw[hnoaste];simp;done)|(rw[hnoaste];simp;omega)
 exact hQ _ _ (.of [6,7,8,9] (.inl rfl) rfl rfl rfl rfl)
 conv=>cbv
 generalize ak:Co Al from_=a7
 refine .lnt hP (Ix Av (by omega) ak) (.ref rfl (Af Av) (.d rfl .nil)) ?_
 conv=>cbv
 generalize ah:Ck Al from_=ao
 have a8:=Fd ah
 generalize ab:ao.map Ae=bc
 obtain⟨nl11,hnl11⟩:∃m,m=ao.length:=⟨_,rfl⟩
 refine .lntN hP (Jm Av (by omega) ah ab hnl11) (.ref rfl (Af Av) (.d rfl .nil)) rfl rfl rfl (by simp only[List.all_cons,List.all_nil,Bool.and_self,At (fun _=>rfl) ab]) ?_
 conv=>cbv
 generalize al:Cl ao (⟨to_,a7⟩:Ad)=af
 generalize ac:af.map Ae=ap
 obtain⟨nl12,hnl12⟩:∃m,m=af.length:=⟨_,rfl⟩
 refine .lntN hP (Gz ab (by omega) al ac hnl12) (.ref rfl (Af ab) (.agg (.d rfl (.d rfl .nil)) .nil)) rfl rfl rfl (by simp only[List.all_cons,List.all_nil,Bool.and_self,At (fun _=>rfl) ac]) ?_
 conv=>cbv
 refine .litL 1 fun bg aq bd=>?_
 conv=>cbv
 refine .litR 1 fun bh ar be=>?_
 conv=>cbv
 refine .go fun ag au bf=>?_
 conv=>cbv
 refine .one ag A5 rfl fun aw ba bb am=>?_
 conv=>cbv
 generalize an:(Et (⟨Ak,af,An,(Am++[ag]),Aq,As⟩:Aa)).nodes_=aa
 generalize hx17:aa.map B5=ai
 obtain⟨nr17nod,hnr17nod⟩:∃m,m=aa.length:=⟨_,rfl⟩
 have ax:Et (⟨Ak,af,An,(Am++[ag]),Aq,As⟩:Aa)=⟨aa,af,An,(Am++[ag]),Aq,As⟩:=by rw[←an];rfl
 refine .bx [6,11,8,13] [] hP (L7 Ay ac A3 am (by first|rfl|omega|(simp;omega)) (by first|rfl|omega|(simp;omega)) (by first|rfl|omega|(simp;omega)) (by first|rfl|omega|(simp;omega)) (by omega) (by omega) (by rw[List.length_append,List.length_singleton];omega) (Tl hss (by omega)) an hx17 hnr17nod) rfl rfl rfl rfl ?_
 conv=>cbv
 have e:((⟨aa,af,An,Am++[ag],Aq,As⟩:Aa),0)=Cv (⟨Ak,Al,An,Am,Aq,As⟩:Aa) from_ to_:=(by unfold Cv;rw[if_neg (by rintro(h|h);rw[ad]at h;cases h;have:=Yf ae;dsimp only at h;omega),if_neg (by rintro(h|h);rw[aj]at h;cases h;exact h9 h)];exact congrArg (fun x:Aa=>(x,(0:Int))) (ax.symm.trans (by rw[←al,←ah,←ak,show ag=tx [62]++from_++tx [58]++to_ from(by rw[au,ar,aq];rfl)];exact Xc1 ad (Yf ae) aj h9)))
 rw[hr]at e
 simp only[Prod.mk.injEq,Aa.mk.injEq]at e
 obtain⟨⟨rfl,rfl,rfl,rfl,rfl,rfl⟩,rfl⟩:=e
 obtain rfl:ai=D9:=by rw[←hx17,←Fp]
 obtain rfl:nr17nod=noanod:=by first|omega|(rw[hnoanod];simp;done)|(rw[hnoanod];simp;omega)
 obtain rfl:ap=Ec:=by rw[←ac,←Fq]
 obtain rfl:nl12=noaent:=by first|omega|(rw[hnoaent];simp;done)|(rw[hnoaent];simp;omega)
 obtain rfl:Bd=Ee:=by rw[←A3,←Fs]
 obtain rfl:n4=noaold:=by first|omega|(rw[hnoaold];simp;done)|(rw[hnoaold];simp;omega)
 obtain rfl:ba=Ed:=by rw[←am,←Fo]
 obtain rfl:aw=noaste:=by first|omega|(rw[hnoaste];simp;done)|(rw[hnoaste];simp;omega)
 exact hQ _ _ (.of [14,11,8,13] (.inl rfl) rfl rfl rfl rfl)
theorem Ql(Ay:Ak.map B5=Bj)(Av:Al.map Ae=Be)(A3:An.map Ae=Bd)(A5:Am.map cS=Bf)(hn:Ak.length≤1000000000)(he:Al.length≤1000000000)(ho:An.length≤1000000000)(hs:Am.length<1000000000)(hss:okS Am)(ak:Sk (⟨Ak,Al,An,Am,Aq,As⟩:Aa))(hm:name.size<1000000000)(hr:Ch (⟨Ak,Al,An,Am,Aq,As⟩:Aa) name=(⟨Pk,Ph,Pn,Pp,V6,V4⟩,ob))(Fp:Pk.map B5=D9)(Fq:Ph.map Ae=Ec)(Fs:Pn.map Ae=Ee)(Fo:Pp.map cS=Ed)(hnoanod:noanod=Pk.length)(hnoaent:noaent=Ph.length)(hnoaold:noaold=Pn.length)(hnoaste:noaste=Pp.length):Fn Tryz.prog 237 [.agg [.d (.row 3 Bj),.d (.row 2 Be),.d (.row 2 Bd),.d (.row 1 Bf),I Aq,I As],S name] [] ⟨.tup [.agg [.ref 0 0 noanod,.ref 1 0 noaent,.ref 2 0 noaold,.ref 3 0 noaste,I V6,I V4],I ob],[.row 3 false D9,.row 2 false Ec,.row 2 false Ee,.row 1 false Ed],[]⟩:=by
 refine Fn.goR I5 Tryz.func237 fun P hP Q hQ=>?_
 conv=>cbv
 obtain⟨n2,al⟩:∃m,m=Ak.length:=⟨_,rfl⟩
 obtain⟨n3,am⟩:∃m,m=Al.length:=⟨_,rfl⟩
 obtain⟨n4,an⟩:∃m,m=An.length:=⟨_,rfl⟩
 obtain⟨n5,ao⟩:∃m,m=Am.length:=⟨_,rfl⟩
 refine .ddN hP (Li Ay Av A3 A5 (by omega) (by omega) (by omega) (by omega) al am an ao) rfl ?_
 conv=>cbv
 generalize ac:B6 (⟨Ak,Al,An,Am,Aq,As⟩:Aa)=r6
 refine .lnt hP (Of Ay Av A3 A5 ak ac) (.agg (.ref rfl (Af Ay) (.ref rfl (Af Av) (.ref rfl (Af A3) (.ref rfl (Af A5) (.d rfl (.d rfl .nil)))))) .nil) ?_
 cases r6
 conv=>cbv
 have e:((⟨Ak,Al,An,Am,Aq,As⟩:Aa),3)=Ch (⟨Ak,Al,An,Am,Aq,As⟩:Aa) name:=(by unfold Ch;rw[if_pos (.inl ac)])
 rw[hr]at e
 simp only[Prod.mk.injEq,Aa.mk.injEq]at e
 obtain⟨⟨rfl,rfl,rfl,rfl,rfl,rfl⟩,rfl⟩:=e
 obtain rfl:Bj=D9:=by rw[←Ay,←Fp]
 obtain rfl:n2=noanod:=by first|omega|(rw[hnoanod];simp;done)|(rw[hnoanod];simp;omega)
 obtain rfl:Be=Ec:=by rw[←Av,←Fq]
 obtain rfl:n3=noaent:=by first|omega|(rw[hnoaent];simp;done)|(rw[hnoaent];simp;omega)
 obtain rfl:Bd=Ee:=by rw[←A3,←Fs]
 obtain rfl:n4=noaold:=by first|omega|(rw[hnoaold];simp;done)|(rw[hnoaold];simp;omega)
 obtain rfl:Bf=Ed:=by rw[←A5,←Fo]
 obtain rfl:n5=noaste:=by first|omega|(rw[hnoaste];simp;done)|(rw[hnoaste];simp;omega)
 exact hQ _ _ (.of [6,7,8,9] (.inl rfl) rfl rfl rfl rfl)
 conv=>cbv
 generalize ad:Dr Al name=r7
 refine .lnt hP (Kv Av (by omega) ad) (.ref rfl (Af Av) (.d rfl .nil)) ?_
 cases r7
 conv=>cbv
 have e:((⟨Ak,Al,An,Am,Aq,As⟩:Aa),3)=Ch (⟨Ak,Al,An,Am,Aq,As⟩:Aa) name:=(by unfold Ch;rw[if_pos (.inr (Xbz ad))])
 rw[hr]at e
 simp only[Prod.mk.injEq,Aa.mk.injEq]at e
 obtain⟨⟨rfl,rfl,rfl,rfl,rfl,rfl⟩,rfl⟩:=e
 obtain rfl:Bj=D9:=by rw[←Ay,←Fp]
 obtain rfl:n2=noanod:=by first|omega|(rw[hnoanod];simp;done)|(rw[hnoanod];simp;omega)
 obtain rfl:Be=Ec:=by rw[←Av,←Fq]
 obtain rfl:n3=noaent:=by first|omega|(rw[hnoaent];simp;done)|(rw[hnoaent];simp;omega)
 obtain rfl:Bd=Ee:=by rw[←A3,←Fs]
 obtain rfl:n4=noaold:=by first|omega|(rw[hnoaold];simp;done)|(rw[hnoaold];simp;omega)
 obtain rfl:Bf=Ed:=by rw[←A5,←Fo]
 obtain rfl:n5=noaste:=by first|omega|(rw[hnoaste];simp;done)|(rw[hnoaste];simp;omega)
 exact hQ _ _ (.of [6,7,8,9] (.inl rfl) rfl rfl rfl rfl)
 conv=>cbv
 generalize ah:Ck Al name=l8
 generalize ae:l8.map Ae=ap
 obtain⟨nl8,hnl8⟩:∃m,m=l8.length:=⟨_,rfl⟩
 refine .lntN hP (Jm Av (by omega) ah ae hnl8) (.ref rfl (Af Av) (.d rfl .nil)) rfl rfl rfl (by simp only[List.all_cons,List.all_nil,Bool.and_self,At (fun _=>rfl) ae]) ?_
 conv=>cbv
 refine .litL 1 fun s9 aq aw=>?_
 conv=>cbv
 refine .one s9 A5 rfl fun ai ar au af=>?_
 conv=>cbv
 generalize ag:(Et (⟨Ak,l8,An,(Am++[s9]),Aq,As⟩:Aa)).nodes_=aa
 generalize hx11:aa.map B5=ab
 obtain⟨nr11nod,hnr11nod⟩:∃m,m=aa.length:=⟨_,rfl⟩
 have aj:Et (⟨Ak,l8,An,(Am++[s9]),Aq,As⟩:Aa)=⟨aa,l8,An,(Am++[s9]),Aq,As⟩:=by rw[←ag];rfl
 refine .bx [6,10,8,12] [] hP (L7 Ay ae A3 af (by first|rfl|omega|(simp;omega)) (by first|rfl|omega|(simp;omega)) (by first|rfl|omega|(simp;omega)) (by first|rfl|omega|(simp;omega)) (by omega) (by omega) (by rw[List.length_append,List.length_singleton];omega) (Tl hss (by omega)) ag hx11 hnr11nod) rfl rfl rfl rfl ?_
 conv=>cbv
 have e:((⟨aa,l8,An,Am++[s9],Aq,As⟩:Aa),0)=Ch (⟨Ak,Al,An,Am,Aq,As⟩:Aa) name:=(by unfold Ch;rw[if_neg (by rintro(h|h);rw[ac]at h;cases h;have:=Yf ad;dsimp only at h;omega)];exact congrArg (fun x:Aa=>(x,(0:Int))) (aj.symm.trans (by rw[←ah,aq];exact Xcx ac (Yf ad))))
 rw[hr]at e
 simp only[Prod.mk.injEq,Aa.mk.injEq]at e
 obtain⟨⟨rfl,rfl,rfl,rfl,rfl,rfl⟩,rfl⟩:=e
 obtain rfl:ab=D9:=by rw[←hx11,←Fp]
 obtain rfl:nr11nod=noanod:=by first|omega|(rw[hnoanod];simp;done)|(rw[hnoanod];simp;omega)
 obtain rfl:ap=Ec:=by rw[←ae,←Fq]
 obtain rfl:nl8=noaent:=by first|omega|(rw[hnoaent];simp;done)|(rw[hnoaent];simp;omega)
 obtain rfl:Bd=Ee:=by rw[←A3,←Fs]
 obtain rfl:n4=noaold:=by first|omega|(rw[hnoaold];simp;done)|(rw[hnoaold];simp;omega)
 obtain rfl:ar=Ed:=by rw[←af,←Fo]
 obtain rfl:ai=noaste:=by first|omega|(rw[hnoaste];simp;done)|(rw[hnoaste];simp;omega)
 exact hQ _ _ (.of [13,10,8,12] (.inl rfl) rfl rfl rfl rfl)
theorem Nt{onod:List Cs}{Ew:List (List D)}{oent:List Ad}{Ev:List (List D)}{oold:List Ad}{Eu:List (List D)}{oste:List ByteArray}{Ex:List (List D)}{oroo:Int}{onex:Int}{nonod:Nat}{noent:Nat}{noold:Nat}{noste:Nat}(Ay:Ak.map B5=Bj)(Av:Al.map Ae=Be)(A3:An.map Ae=Bd)(A5:Am.map cS=Bf)(hn:Ak.length≤1000000000)(he:Al.length≤1000000000)(ho:An.length≤1000000000)(hs:Am.length<1000000000)(hss:okS Am)(af:Sk (⟨Ak,Al,An,Am,Aq,As⟩:Aa))(hr:Do (⟨Ak,Al,An,Am,Aq,As⟩:Aa)=⟨onod,oent,oold,oste,oroo,onex⟩)(Ge:onod.map B5=Ew)(Gb:oent.map Ae=Ev)(Gd:oold.map Ae=Eu)(F9:oste.map cS=Ex)(hnonod:nonod=onod.length)(hnoent:noent=oent.length)(hnoold:noold=oold.length)(hnoste:noste=oste.length):Fn Tryz.prog 224 [.agg [.d (.row 3 Bj),.d (.row 2 Be),.d (.row 2 Bd),.d (.row 1 Bf),I Aq,I As]] [] ⟨.agg [.ref 0 0 nonod,.ref 1 0 noent,.ref 2 0 noold,.ref 3 0 noste,I oroo,I onex],[.row 3 false Ew,.row 2 false Ev,.row 2 false Eu,.row 1 false Ex],[]⟩:=by
 refine Fn.goR I5 Tryz.func224 fun P hP Q hQ=>?_
 conv=>cbv
 obtain⟨n2,ag⟩:∃m,m=Ak.length:=⟨_,rfl⟩
 obtain⟨n3,ah⟩:∃m,m=Al.length:=⟨_,rfl⟩
 obtain⟨n4,ai⟩:∃m,m=An.length:=⟨_,rfl⟩
 obtain⟨n5,aj⟩:∃m,m=Am.length:=⟨_,rfl⟩
 refine .ddN hP (Li Ay Av A3 A5 (by omega) (by omega) (by omega) (by omega) ag ah ai aj) rfl ?_
 conv=>cbv
 generalize ac:B6 (⟨Ak,Al,An,Am,Aq,As⟩:Aa)=r6
 refine .lnt hP (Of Ay Av A3 A5 af ac) (.agg (.ref rfl (Af Ay) (.ref rfl (Af Av) (.ref rfl (Af A3) (.ref rfl (Af A5) (.d rfl (.d rfl .nil)))))) .nil) ?_
 cases r6
 conv=>cbv
 have e:(⟨Ak,Al,An,Am,Aq,As⟩:Aa)=Do (⟨Ak,Al,An,Am,Aq,As⟩:Aa):=(by unfold Do;rw[if_pos ac])
 rw[hr]at e
 simp only[Aa.mk.injEq]at e
 obtain⟨rfl,rfl,rfl,rfl,rfl,rfl⟩:=e
 obtain rfl:Bj=Ew:=by rw[←Ay,←Ge]
 obtain rfl:n2=nonod:=by first|omega|(rw[hnonod];simp;done)|(rw[hnonod];simp;omega)
 obtain rfl:Be=Ev:=by rw[←Av,←Gb]
 obtain rfl:n3=noent:=by first|omega|(rw[hnoent];simp;done)|(rw[hnoent];simp;omega)
 obtain rfl:Bd=Eu:=by rw[←A3,←Gd]
 obtain rfl:n4=noold:=by first|omega|(rw[hnoold];simp;done)|(rw[hnoold];simp;omega)
 obtain rfl:Bf=Ex:=by rw[←A5,←F9]
 obtain rfl:n5=noste:=by first|omega|(rw[hnoste];simp;done)|(rw[hnoste];simp;omega)
 exact hQ _ _ (.of [6,7,8,9] (.inl rfl) rfl rfl rfl rfl)
 conv=>cbv
 refine .sub0 Av fun ak z7 am ad=>?_
 conv=>cbv
 generalize ae:(Et (⟨Ak,Al,Al,[],Aq,As⟩:Aa)).nodes_=aa
 generalize hx8:aa.map B5=ab
 obtain⟨nr8nod,hnr8nod⟩:∃m,m=aa.length:=⟨_,rfl⟩
 have al:Et (⟨Ak,Al,Al,[],Aq,As⟩:Aa)=⟨aa,Al,Al,[],Aq,As⟩:=by rw[←ae];rfl
 refine .bx [6,7,11,12] [] hP (L7 Ay Av ad (show([]:List ByteArray).map cS=[]from rfl) (by first|rfl|omega|(simp;omega)) (by first|rfl|omega|(simp;omega)) (by first|rfl|omega|(simp;omega)) (by first|rfl|omega|(simp;omega)) (by omega) (by omega) (by simp) (fun _ h=>by cases h) ae hx8 hnr8nod) rfl rfl rfl rfl ?_
 conv=>cbv
 have e:(⟨aa,Al,Al,[],Aq,As⟩:Aa)=Do (⟨Ak,Al,An,Am,Aq,As⟩:Aa):=(by unfold Do;rw[if_neg (by rw[ac];decide)];dsimp only;rw[←al];exact Xl (d:=⟨Ak,Al,Al,[],Aq,As⟩) trivial)
 rw[hr]at e
 simp only[Aa.mk.injEq]at e
 obtain⟨rfl,rfl,rfl,rfl,rfl,rfl⟩:=e
 obtain rfl:ab=Ew:=by rw[←hx8,←Ge]
 obtain rfl:nr8nod=nonod:=by first|omega|(rw[hnonod];simp;done)|(rw[hnonod];simp;omega)
 obtain rfl:Be=Ev:=by rw[←Av,←Gb]
 obtain rfl:n3=noent:=by first|omega|(rw[hnoent];simp;done)|(rw[hnoent];simp;omega)
 obtain rfl:z7=Eu:=by rw[←ad,←Gd]
 obtain rfl:ak=noold:=by first|omega|(rw[hnoold];simp;done)|(rw[hnoold];simp;omega)
 obtain rfl:[]=Ex:=by first|(rw[←F9];done)|(rw[←F9];rfl)
 obtain rfl:0=noste:=by first|omega|(rw[hnoste];simp;done)|(rw[hnoste];simp;omega)
 exact hQ _ _ (.of [13,7,11,12] (.inl rfl) rfl rfl rfl rfl)
end
section
open Go Go.Proofs
set_option maxRecDepth 20000
set_option maxHeartbeats 4000000
def Gr(room:Int):Aa:=⟨[],[],[],[],max 0 room,1⟩
def XiP(w:Pt):Az:=⟨w.version_,w.stride_,w.base_,w.link_⟩
def begC(d:Aa)(w:Pt):Int:=if(Ax d (Ah w.base_)).2≠0 then 4 else if(Bp (Ax d (Ah w.base_)).1 (Ah w.base_) (A7 (XiP w))).2≠0 then 2 else 0
def begD(d:Aa)(w:Pt):Aa:=if(Ax d (Ah w.base_)).2≠0 then(Ax d (Ah w.base_)).1 else if(Bp (Ax d (Ah w.base_)).1 (Ah w.base_) (A7 (XiP w))).2≠0 then(Bp (Ax d (Ah w.base_)).1 (Ah w.base_) (A7 (XiP w))).1
 else Do (Dm (Bp (Ax d (Ah w.base_)).1 (Ah w.base_) (A7 (XiP w))).1 (Ah w.base_)).1
def begW(d:Aa)(w:Pt):Pt:=if begC d w=0 then⟨w.version_,w.stride_,w.roll_,w.base_,w.link_,[],24,true,w.code_⟩else⟨w.version_,w.stride_,w.roll_,w.base_,w.link_,w.offsets_,w.end_,w.open_,begC d w⟩
def appB(s:Aa×Pt):Aa×Pt:=if s.2.code_=0∧s.2.open_=false then(begD s.1 s.2,begW s.1 s.2)else s
end
section
open Go Go.Proofs
set_option maxRecDepth 20000
set_option maxHeartbeats 4000000
def F4(b:List UInt8)(i h:Int)(l:List ByteArray):ByteArray×Int×Int:=match Ag b i h l.length with|(x,i,h)=>(l.getD x.toNat (tx []),i,h)
def XiH(b:List UInt8)(m:Int):Nat→Int→Int→Int→List ByteArray×Int×Int
 |0,_,i,h=>([],i,h)
 |f+1,k,i,h=>match Ag b i h (m+1)with|(x,i,h)=>if k<x then match Dq b i h with|(y,i,h)=>match XiH b m f (k+1) i h with|(l,i,h)=>(y::l,i,h)else([],i,h)
def Eo(b:List UInt8)(i h m:Int):List ByteArray×Int×Int:=XiH b m (m.toNat+1) 0 i h
def Kf(b:List UInt8)(i h:Int):Az×Int×Int:=match Ag b i h 2 with
 |(v,i,h)=>match Ag b i h 4 with|(s,i,h)=>match Ag b i h 9 with|(n,i,h)=>match Ag b i h 1000000 with|(l,i,h)=>(⟨1+v,1+s,n,l⟩,i,h)
def XjJ(t:ByteArray)(a z:Nat):ByteArray:=t.extract a z
def flipB(t:ByteArray)(k:Nat)(y:Int):UInt8:=UInt8.ofNat (La .xor .u8 (bAt t k) (IntKind.u8.wrap (1*2^min (IntKind.u64.wrap y).toNat IntKind.u8.bits))).toNat
def Dj(b:List UInt8)(i h:Int)(t:ByteArray):ByteArray×Int×Int:=if t=tx []then(t,i,h)else match Bw b i h 2 with
 |(o,i,h)=>if o=true then(t,i,h)else match Ag b i h t.size with
  |(k,i,h)=>match Ag b i h 4 with
   |(x,i,h)=>if x=0 then(XjJ t 0 k.toNat,i,h)else if x=1 then(XjJ t 0 k.toNat++XjJ t (k.toNat+1) t.size,i,h)
    else if x=2 then match Ag b i h 4 with|(y,i,h)=>match D5 b i h (1+y)with|(q,i,h)=>(t++q,i,h)
    else match Ag b i h 8 with|(y,i,h)=>(XjJ t 0 k.toNat++tx [flipB t k.toNat y]++XjJ t (k.toNat+1) t.size,i,h)
def Xkp(v:Int):Int→List ByteArray→ByteArray
 |_,[]=>tx []
 |p,x::l=>Ai v p x++Xkp v (p+1) l
def E4(h:Az)(l:List ByteArray):ByteArray:=A7 h++Xkp h.version_ h.base_ l
def Ip(b:List UInt8)(i h:Int):ByteArray×Int×Int:=match Kf b i h with
 |(hd,i,h)=>match Eo b i h 6 with|(l,i,h)=>match Bw b i h 2 with|(o,i,h)=>if o=true then Dj b i h (Bh hd l)else Dj b i h (E4 hd l)
def nmA:List ByteArray:=[tx [97],tx [98],tx [115,48,48,48,48,48,48,48,48,46,115,101,103],tx [115,48,48,48,48,48,48,48,51,46,115,101,103],tx [115,48,48,48,48,48,48,48,48,46,115,101,103,46,116,109,112],tx [99]]
def nmB:List ByteArray:=[tx [98],tx [120],tx [115,48,48,48,48,48,48,48,51,46,115,101,103]]
def Hz(b:List UInt8)(i h:Int)(d:Aa):Aa×Int×Int:=match F4 b i h nmA with
 |(n,i,h)=>match Ag b i h 8 with
  |(x,i,h)=>if x=0 then((Ch d n).1,i,h)else if x=1 then(Do d,i,h)else if x=2 then((Dm d n).1,i,h)
   else if x=3 then match F4 b i h nmB with|(m,i,h)=>((Cv d n m).1,i,h)
   else if x=4∨x=5 then((Ax d n).1,i,h)
   else match Ag b i h 12 with|(y,i,h)=>match D5 b i h y with|(t,i,h)=>((Bp (Ax d n).1 n t).1,i,h)
def XcS(b:List UInt8):Nat→Int→Int→Int→Aa→Aa×Int×Int
 |0,_,i,h,d=>(d,i,h)
 |f+1,k,i,h,d=>match Ag b i h 9 with|(x,i,h)=>if k<x then match Hz b i h d with|(d,i,h)=>XcS b f (k+1) i h d else(d,i,h)
def Jd(b:List UInt8)(i h:Int):Aa×Int×Int:=match Cd b i h [4000,4000,4000,300,100]with|(r,i,h)=>XcS b 9 0 i h (Gr r)
def Fc(b:List UInt8)(i h:Int)(d:Aa)(n t:ByteArray):Aa×Int×Int:=
 match Bw b i h 4 with
 |(o,i,h)=>
  let d:=(Bp (Ax (Ch d n).1 n).1 n t).1
  let d:=if o=true then d else(Dm d n).1
  match Bw b i h 4 with|(o,i,h)=>(if o=true then d else Do d,i,h)
def D0(b:List UInt8)(i h:Int):Aa×Int×Int:=match Jd b i h with
 |(d,i,h)=>match Ag b i h 16 with
  |(x,i,h)=>if x=0 then match Cd b i h [-1,0,5,1000000001]with|(y,i,h)=>(⟨d.nodes_,d.entries_,d.old_,d.steps_,y,d.next_⟩,i,h)
   else if x=1 then match Cd b i h [0,1,2,-1,9223372036854775807]with|(y,i,h)=>(⟨d.nodes_,d.entries_,d.old_,d.steps_,d.room_,y⟩,i,h)
   else if x=2 then match Ag b i h 4 with|(y,i,h)=>(⟨d.nodes_,d.entries_++[⟨tx [122],y⟩],d.old_,d.steps_,d.room_,d.next_⟩,i,h)
   else if x=3 then(⟨d.nodes_,d.entries_,d.old_++[⟨tx [122],1⟩],d.steps_,d.room_,d.next_⟩,i,h)
   else if x=4 then match F4 b i h [tx [45,97],tx [43,113,58,49],tx [120],tx [],tx [43,113,58,57],tx [45,122,122],tx [43,58,49],tx [43,113,58]]with
    |(y,i,h)=>(⟨d.nodes_,d.entries_,d.old_,d.steps_++[y],d.room_,d.next_⟩,i,h)
   else if x=5 then match d.nodes_ with
    |[]=>(d,i,h)
    |n::l=>match Cd b i h [-1,0,99]with|(y,i,h)=>(⟨⟨n.id_,n.text_,y⟩::l,d.entries_,d.old_,d.steps_,d.room_,d.next_⟩,i,h)
   else if x=6 then match d.nodes_ with
    |n::m::l=>(⟨n::⟨n.id_,m.text_,m.sure_⟩::l,d.entries_,d.old_,d.steps_,d.room_,d.next_⟩,i,h)
    |_=>(d,i,h)
   else(d,i,h)
def XhU(b:List UInt8)(i h link:Int):Int×Int×Int:=match Bw b i h 20 with|(o,i,h)=>(if o=true then La .xor .i64 link 1 else link,i,h)
def V5(b:List UInt8)(i h:Int)(hd:Az)(rs:List ByteArray):ByteArray×Int×Int:=match Bw b i h 4 with|(o,i,h)=>(if o=true then E4 hd rs else Bh hd rs,i,h)
def V7(b:List UInt8)(i h:Int)(t:ByteArray):ByteArray×Int×Int:=match Bw b i h 6 with|(o,i,h)=>if o=true then Dj b i h t else(t,i,h)
def P1(b:List UInt8):Nat→Int→Int→Int→Aa→Int→Int→Aa×Int×Int
 |0,_,i,h,d,_,_=>(d,i,h)
 |f+1,k,i,h,d,base,link=>match Ag b i h 5 with
  |(x,i,h)=>if k<x then match Ag b i h 2 with
   |(v,i,h)=>match Ag b i h 3 with
    |(s,i,h)=>match Dq b i h with
     |(r,i,h)=>match Eo b i h 3 with
      |(l,i,h)=>match Bw b i h 20 with
       |(o,i,h)=>
        let rs:List ByteArray:=if o=true then[]else r::l
        match XhU b i h link with
        |(lk,i,h)=>match V5 b i h ⟨1+v,1+s,base,lk⟩ rs with
         |(t,i,h)=>match V7 b i h t with
            |(t,i,h)=>match Fc b i h d (Ah base) t with
             |(d,i,h)=>P1 b f (k+1) i h d (base+rs.length) (rs.foldl Dk link)
   else(d,i,h)
def Gl(b:List UInt8)(i h:Int):Aa×Int×Int:=match Cd b i h [6000,6000,6000,900]with
 |(r,i,h)=>match P1 b 5 0 i h (Gr r) 0 0 with
  |(d,i,h)=>match Ag b i h 6 with
   |(x,i,h)=>if x=0 then match Ag b i h 4 with|(y,i,h)=>Fc b i h d (Ce y) (tx [104,97,108,102])
    else if x=1 then match Ag b i h 9 with|(y,i,h)=>match Ip b i h with|(t,i,h)=>Fc b i h d (Ah (20+y)) t
    else if x=2 then Fc b i h d (tx [114,101,97,100,109,101]) (tx [115,111,109,101,32,116,101,120,116])
    else(d,i,h)
def Ky(b:List UInt8)(i h:Int):Aa×Int×Int:=match Bw b i h 10 with|(o,i,h)=>if o=true then D0 b i h else Gl b i h
def okE(m:Nat)(d:Aa):Prop:=Sk d∧d.steps_.length≤m∧d.entries_.length≤m∧d.old_.length≤m
def okX(d d':Aa):Prop:=d'.entries_.length≤d.entries_.length+1∧(d'.old_=d.old_∨d'.old_=d.entries_)
theorem N0(d:Aa):okX d d:=⟨Nat.le_succ _,.inl rfl⟩
theorem okE.of{m:Nat}{d d':Aa}(h:okE m d)(g:okG d d')(x:okX d d'):okE (m+1) d':=by
 obtain⟨h1,h2,h3,h4⟩:=h
 obtain⟨g1,g2⟩:=g
 obtain⟨x1,x2⟩:=x
 refine⟨g1,by omega,by omega,?_⟩
 rcases x2 with e|e<;>rw[e]<;>omega
theorem okE.st{m:Nat}{d:Aa}(h:okE m d)(hm:m≤1000):d.steps_.length<1000000000:=by have:=h.2.1;omega
theorem okE.up{m n:Nat}{d:Aa}(h:okE m d)(hn:m≤n):okE n d:=by
 obtain⟨h1,h2,h3,h4⟩:=h
 exact⟨h1,by omega,by omega,by omega⟩
theorem Xct{d:Aa}{s:ByteArray}:okX d (Mw d s):=by
 obtain⟨e,b,hy⟩:∃e b,A8 d.entries_ s=(e,b):=⟨_,_,rfl⟩
 have hlen:=Ub hy
 unfold Mw
 rw[hy]
 exact⟨by show e.length≤_;omega,.inl rfl⟩
theorem L3{d:Aa}{name:ByteArray}:okX d (Ax d name).1:=by
 unfold Ax
 repeat' split
 all_goals first|exact N0 d|exact(Xct:okX (⟨_,d.entries_,d.old_,_,_,_⟩:Aa) _)
theorem Td{d:Aa}{name:ByteArray}:okX d (Ch d name).1:=by
 unfold Ch
 split
 ·exact N0 d
 ·exact Xct
theorem Xel{d:Aa}{a b:ByteArray}:okX d (Cv d a b).1:=by
 unfold Cv
 repeat' split
 all_goals first|exact N0 d|exact Xct
theorem Th{d:Aa}{name text:ByteArray}:okX d (Bp d name text).1:=by
 unfold Bp
 split
 ·exact N0 d
 ·exact⟨Nat.le_succ _,.inl rfl⟩
theorem Xdq{d:Aa}{name:ByteArray}:okX d (Dm d name).1:=by
 unfold Dm
 split
 ·exact N0 d
 ·exact⟨Nat.le_succ _,.inl rfl⟩
theorem Ui{d:Aa}:okX d (Do d):=by
 unfold Do
 split
 ·exact N0 d
 ·exact⟨Nat.le_succ _,.inr rfl⟩
theorem Jn{b:List UInt8}{i h oi oh:Int}{l:List ByteArray}{o:ByteArray}{n:Nat}(e:F4 b i h l=(o,oi,oh))(hc:0≤i∧i≤b.length∧b.length≤1000000000000)(hl:∀x∈l,x.size≤n):o.size≤n∧0≤oi∧oi≤b.length:=by
 unfold F4 at e
 rcases h1:Ag b i h l.length with⟨x,i1,h1'⟩
 have z1:=Aj h1 hc
 simp only[h1,Prod.mk.injEq]at e
 refine⟨?_,by omega⟩
 rw[←e.1,List.getD_eq_getElem?_getD]
 rcases h2:l[x.toNat]? with _|y
 ·exact Nat.zero_le _
 ·exact hl y (List.mem_of_getElem? h2)
theorem Xix{b:List UInt8}{i h oi oh:Int}{d o:Aa}{m:Nat}(e:Hz b i h d=(o,oi,oh))(hc:0≤i∧i≤b.length∧b.length≤1000000000000)(hd:okE m d)(hm:m≤1000):okE (m+2) o∧0≤oi∧oi≤b.length:=by
 unfold Hz at e
 have hs:=hd.2.1
 rcases h1:F4 b i h nmA with⟨n,i1,h1'⟩
 have z1:=Jn (n:=100) h1 hc (by decide)
 rcases h2:Ag b i1 h1' 8 with⟨x,i2,h2'⟩
 have z2:=Aj h2 (by omega)
 simp only[h1,h2]at e
 split at e
 ·simp only[Prod.mk.injEq]at e
  rw[←e.1,←e.2.1]
  exact⟨(hd.of (Qi hd.1 (by omega) (by omega)) Td).up (by omega),z2.2⟩
 split at e
 ·simp only[Prod.mk.injEq]at e
  rw[←e.1,←e.2.1]
  exact⟨(hd.of (Qm hd.1) Ui).up (by omega),z2.2⟩
 split at e
 ·simp only[Prod.mk.injEq]at e
  rw[←e.1,←e.2.1]
  exact⟨(hd.of (Yd hd.1) Xdq).up (by omega),z2.2⟩
 split at e
 ·rcases h3:F4 b i2 h2' nmB with⟨q,i3,h3'⟩
  have z3:=Jn (n:=100) h3 (by omega) (by decide)
  simp only[h3,Prod.mk.injEq]at e
  rw[←e.1,←e.2.1]
  exact⟨(hd.of (XaN hd.1 (by omega) (by omega) (by omega)) Xel).up (by omega),z3.2⟩
 split at e
 ·simp only[Prod.mk.injEq]at e
  rw[←e.1,←e.2.1]
  exact⟨(hd.of (Jz hd.1 (by omega) (by omega)) L3).up (by omega),z2.2⟩
 rcases h3:Ag b i2 h2' 12 with⟨y,i3,h3'⟩
 have z3:=Aj h3 (by omega)
 rcases h4:D5 b i3 h3' y with⟨t,i4,h4'⟩
 have z4:=Hh h4 (by omega)
 simp only[h3,h4,Prod.mk.injEq]at e
 rw[←e.1,←e.2.1]
 have g:=hd.of (Jz (name:=n) hd.1 (by omega) (by omega)) L3
 exact⟨g.of (P0 g.1) Th,z4.2⟩
theorem Xjt{b:List UInt8}:∀{f:Nat} {k i h oi oh:Int} {d o:Aa} {m:Nat},XcS b f k i h d=(o,oi,oh)→(0≤i∧i≤b.length∧b.length≤1000000000000)→okE m d→m+2*f≤1000→okE (m+2*f) o∧0≤oi∧oi≤b.length
 |0,k,i,h,oi,oh,d,o,m,e,hc,hd,hm=>by
  simp only[XcS,Prod.mk.injEq]at e
  rw[←e.1,←e.2.1];exact⟨hd,hc.1,hc.2.1⟩
 |f+1,k,i,h,oi,oh,d,o,m,e,hc,hd,hm=>by
  rcases h1:Ag b i h 9 with⟨x,i1,h1'⟩
  have z1:=Aj h1 hc
  simp only[XcS,h1]at e
  split at e
  ·rcases h2:Hz b i1 h1' d with⟨d2,i2,h2'⟩
   have z2:=Xix h2 (by omega) hd (by omega)
   simp only[h2]at e
   have:=Xjt e (by omega) z2.1 (by omega)
   exact⟨this.1.up (by omega),this.2⟩
  ·simp only[Prod.mk.injEq]at e
   rw[←e.1,←e.2.1];exact⟨hd.up (by omega),z1.2⟩
theorem Yk(r:Int):okE 0 (Gr r):=⟨by unfold Sk okD Gr okL okS;simp,Nat.le_refl _,Nat.le_refl _,Nat.le_refl _⟩
theorem Xe{b:List UInt8}{i h oi oh:Int}{o:Aa}(e:Jd b i h=(o,oi,oh))(hc:0≤i∧i≤b.length∧b.length≤1000000000000):okE 18 o∧0≤oi∧oi≤b.length:=by
 unfold Jd at e
 rcases h1:Cd b i h [4000,4000,4000,300,100]with⟨r,i1,h1'⟩
 have z1:=Ds h1 hc
 simp only[h1]at e
 exact Xjt e (by omega) (Yk r) (by omega)
theorem Hu{b:List UInt8}{i h oi oh:Int}{d o:Aa}{n t:ByteArray}{m:Nat}(e:Fc b i h d n t=(o,oi,oh))(hc:0≤i∧i≤b.length∧b.length≤1000000000000)(hd:okE m d)(hm:m≤1000)(hn:n.size≤1000):okE (m+5) o∧0≤oi∧oi≤b.length:=by
 unfold Fc at e
 rcases h1:Bw b i h 4 with⟨o1,i1,h1'⟩
 have z1:=Cf h1 hc
 rcases h2:Bw b i1 h1' 4 with⟨o2,i2,h2'⟩
 have z2:=Cf h2 (by omega)
 simp only[h1,h2,Prod.mk.injEq]at e
 have hs:=hd.2.1
 have g1:=hd.of (Qi (name:=n) hd.1 (by omega) (by omega)) Td
 have g1s:=g1.2.1
 have g2:=g1.of (Jz (name:=n) g1.1 (by omega) (by omega)) L3
 have g3:=g2.of (P0 (name:=n) (text:=t) g2.1) Th
 have g4:okE (m+4) (if o1=true then(Bp (Ax (Ch d n).1 n).1 n t).1 else(Dm (Bp (Ax (Ch d n).1 n).1 n t).1 n).1):=by
  split
  ·exact g3.up (by omega)
  ·exact g3.of (Yd g3.1) Xdq
 rw[←e.1,←e.2.1]
 refine⟨?_,z2⟩
 generalize(if o1=true then(Bp (Ax (Ch d n).1 n).1 n t).1 else(Dm (Bp (Ax (Ch d n).1 n).1 n t).1 n).1)=d4 at g4⊢
 split
 ·exact g4.up (by omega)
 ·exact g4.of (Qm g4.1) Ui
theorem XbQ{b:List UInt8}{i h oi oh:Int}{o:Aa}(e:D0 b i h=(o,oi,oh))(hc:0≤i∧i≤b.length∧b.length≤1000000000000):Sk o∧0≤oi∧oi≤b.length:=by
 unfold D0 at e
 rcases h1:Jd b i h with⟨d,i1,h1'⟩
 have z1:=Xe h1 hc
 rcases h2:Ag b i1 h1' 16 with⟨x,i2,h2'⟩
 have z2:=Aj h2 (by omega)
 simp only[h1,h2]at e
 obtain⟨⟨⟨⟨k1,k2,k3,k4,k5,k6⟩,k7,k8⟩,n1,n2,n3⟩,-⟩:=z1
 split at e
 ·rcases h3:Cd b i2 h2' [-1,0,5,1000000001]with⟨y,i3,h3'⟩
  have z3:=Ds h3 (by omega)
  simp only[h3,Prod.mk.injEq]at e
  rw[←e.1,←e.2.1];exact⟨⟨⟨k1,k2,k3,k4,k5,k6⟩,k7,k8⟩,z3⟩
 split at e
 ·rcases h3:Cd b i2 h2' [0,1,2,-1,9223372036854775807]with⟨y,i3,h3'⟩
  have z3:=Ds h3 (by omega)
  simp only[h3,Prod.mk.injEq]at e
  rw[←e.1,←e.2.1];exact⟨⟨⟨k1,k2,k3,k4,k5,k6⟩,k7,k8⟩,z3⟩
 split at e
 ·rcases h3:Ag b i2 h2' 4 with⟨y,i3,h3'⟩
  have z3:=Aj h3 (by omega)
  simp only[h3,Prod.mk.injEq]at e
  rw[←e.1,←e.2.1]
  refine⟨⟨⟨k1,k2,by show(d.entries_++[_]).length≤_;rw[List.length_append,List.length_singleton];omega,fun z hz=>?_,k5,k6⟩,k7,k8⟩,z3.2⟩
  rcases List.mem_append.1 hz with hz|hz
  ·exact k4 z hz
  ·rw[List.mem_singleton.1 hz];show(tx [122]).size≤_;decide
 split at e
 ·simp only[Prod.mk.injEq]at e
  rw[←e.1,←e.2.1]
  refine⟨⟨⟨k1,k2,k3,k4,by show(d.old_++[_]).length≤_;rw[List.length_append,List.length_singleton];omega,k6⟩,fun z hz=>?_,k8⟩,z2.2⟩
  rcases List.mem_append.1 hz with hz|hz
  ·exact k7 z hz
  ·rw[List.mem_singleton.1 hz];show(tx [122]).size≤_;decide
 split at e
 ·rcases h3:F4 b i2 h2' [tx [45,97],tx [43,113,58,49],tx [120],tx [],tx [43,113,58,57],tx [45,122,122],tx [43,58,49],tx [43,113,58]]with⟨y,i3,h3'⟩
  have z3:=Jn (n:=100) h3 (by omega) (by decide)
  simp only[h3,Prod.mk.injEq]at e
  rw[←e.1,←e.2.1]
  refine⟨⟨⟨k1,k2,k3,k4,k5,by show(d.steps_++[_]).length≤_;rw[List.length_append,List.length_singleton];omega⟩,k7,fun z hz=>?_⟩,z3.2⟩
  rcases List.mem_append.1 hz with hz|hz
  ·exact k8 z hz
  ·rw[List.mem_singleton.1 hz];omega
 split at e
 ·split at e
  ·simp only[Prod.mk.injEq]at e
   rw[←e.1,←e.2.1];exact⟨⟨⟨k1,k2,k3,k4,k5,k6⟩,k7,k8⟩,z2.2⟩
  ·rename_i n l hl
   rcases h3:Cd b i2 h2' [-1,0,99]with⟨y,i3,h3'⟩
   have z3:=Ds h3 (by omega)
   simp only[h3,Prod.mk.injEq]at e
   rw[hl]at k1 k2
   rw[←e.1,←e.2.1]
   refine⟨⟨⟨k1,fun z hz=>?_,k3,k4,k5,k6⟩,k7,k8⟩,z3⟩
   rcases List.mem_cons.1 hz with rfl|hz
   ·exact k2 n (by simp)
   ·exact k2 z (by simp[hz])
 split at e
 ·split at e
  ·rename_i n m l hl
   simp only[Prod.mk.injEq]at e
   rw[hl]at k1 k2
   rw[←e.1,←e.2.1]
   refine⟨⟨⟨k1,fun z hz=>?_,k3,k4,k5,k6⟩,k7,k8⟩,z2.2⟩
   rcases List.mem_cons.1 hz with rfl|hz
   ·exact k2 _ (by simp)
   ·rcases List.mem_cons.1 hz with rfl|hz
    ·exact k2 m (by simp)
    ·exact k2 z (by simp[hz])
  ·simp only[Prod.mk.injEq]at e
   rw[←e.1,←e.2.1];exact⟨⟨⟨k1,k2,k3,k4,k5,k6⟩,k7,k8⟩,z2.2⟩
 ·simp only[Prod.mk.injEq]at e
  rw[←e.1,←e.2.1];exact⟨⟨⟨k1,k2,k3,k4,k5,k6⟩,k7,k8⟩,z2.2⟩
theorem Xjg{b:List UInt8}{m:Int}:∀{f:Nat} {k i h oi oh:Int} {l:List ByteArray},XiH b m f k i h=(l,oi,oh)→(0≤i∧i≤b.length∧b.length≤1000000000000)→0≤m→0≤k→(l.length≤f∧(k+l.length≤m∨l.length=0)∧∀x∈l,x.size≤60)∧0≤oi∧oi≤b.length
 |0,k,i,h,oi,oh,l,e,hc,hm,hk=>by
  simp only[XiH,Prod.mk.injEq]at e
  rw[←e.1,←e.2.1];exact⟨⟨Nat.le_refl _,.inr rfl,fun x hx=>by cases hx⟩,hc.1,hc.2.1⟩
 |f+1,k,i,h,oi,oh,l,e,hc,hm,hk=>by
  rcases h1:Ag b i h (m+1)with⟨x,i1,h1'⟩
  have z1:=Aj h1 hc
  simp only[XiH,h1]at e
  split at e
  ·rcases h2:Dq b i1 h1' with⟨y,i2,h2'⟩
   have z2:=Ku h2 (by omega)
   rcases h3:XiH b m f (k+1) i2 h2' with⟨l3,i3,h3'⟩
   have z3:=Xjg h3 (by omega) hm (by omega)
   simp only[h2,h3,Prod.mk.injEq]at e
   rw[←e.1,←e.2.1,List.length_cons]
   refine⟨⟨by omega,by omega,fun z hz=>?_⟩,z3.2⟩
   rcases List.mem_cons.1 hz with rfl|hz
   ·exact z2.1
   ·exact z3.1.2.2 z hz
  ·simp only[Prod.mk.injEq]at e
   rw[←e.1,←e.2.1];exact⟨⟨Nat.zero_le _,.inr rfl,fun x hx=>by cases hx⟩,z1.2⟩
theorem Ja{b:List UInt8}{i h m oi oh:Int}{l:List ByteArray}(e:Eo b i h m=(l,oi,oh))(hc:0≤i∧i≤b.length∧b.length≤1000000000000)(hm:0≤m):((l.length:Int)≤m∧∀x∈l,x.size≤60)∧0≤oi∧oi≤b.length:=by
 have h:=Xjg e hc hm (by omega)
 exact⟨⟨by omega,h.1.2.2⟩,h.2⟩
theorem Xy{b:List UInt8}{i h oi oh:Int}{o:Az}(e:Kf b i h=(o,oi,oh))(hc:0≤i∧i≤b.length∧b.length≤1000000000000):((1≤o.version_∧o.version_≤2)∧(1≤o.stride_∧o.stride_≤4)∧(0≤o.base_∧o.base_≤8)∧(0≤o.link_∧o.link_<1000000))∧0≤oi∧oi≤b.length:=by
 unfold Kf at e
 rcases h1:Ag b i h 2 with⟨x,i1,h1'⟩
 have z1:=Aj h1 hc
 rcases h2:Ag b i1 h1' 4 with⟨y,i2,h2'⟩
 have z2:=Aj h2 (by omega)
 rcases h3:Ag b i2 h2' 9 with⟨z,i3,h3'⟩
 have z3:=Aj h3 (by omega)
 rcases h4:Ag b i3 h3' 1000000 with⟨w,i4,h4'⟩
 have z4:=Aj h4 (by omega)
 simp only[h1,h2,h3,h4,Prod.mk.injEq]at e
 rw[←e.1,←e.2.1]
 dsimp only
 omega
theorem Xjp(t:ByteArray)(a z:Nat):(XjJ t a z).size≤t.size:=by
 unfold XjJ
 rw[ByteArray.size_extract]
 omega
theorem H8{b:List UInt8}{i h oi oh:Int}{t o:ByteArray}(e:Dj b i h t=(o,oi,oh))(hc:0≤i∧i≤b.length∧b.length≤1000000000000):o.size≤2*t.size+4∧0≤oi∧oi≤b.length:=by
 unfold Dj at e
 split at e
 ·simp only[Prod.mk.injEq]at e
  rw[←e.1,←e.2.1];exact⟨by omega,hc.1,hc.2.1⟩
 rcases h1:Bw b i h 2 with⟨x,i1,h1'⟩
 have z1:=Cf h1 hc
 simp only[h1]at e
 split at e
 ·simp only[Prod.mk.injEq]at e
  rw[←e.1,←e.2.1];exact⟨by omega,z1⟩
 rcases h2:Ag b i1 h1' t.size with⟨k,i2,h2'⟩
 have z2:=Aj h2 (by omega)
 rcases h3:Ag b i2 h2' 4 with⟨x,i3,h3'⟩
 have z3:=Aj h3 (by omega)
 simp only[h2,h3]at e
 have c1:=Xjp t 0 k.toNat
 have c2:=Xjp t (k.toNat+1) t.size
 split at e
 ·simp only[Prod.mk.injEq]at e
  rw[←e.1,←e.2.1];exact⟨by omega,z3.2⟩
 split at e
 ·simp only[Prod.mk.injEq]at e
  rw[←e.1,←e.2.1,ByteArray.size_append];exact⟨by omega,z3.2⟩
 split at e
 ·rcases h4:Ag b i3 h3' 4 with⟨y,i4,h4'⟩
  have z4:=Aj h4 (by omega)
  rcases h5:D5 b i4 h4' (1+y)with⟨q,i5,h5'⟩
  have z5:=Hh h5 (by omega)
  simp only[h4,h5,Prod.mk.injEq]at e
  rw[←e.1,←e.2.1,ByteArray.size_append];exact⟨by omega,z5.2⟩
 ·rcases h4:Ag b i3 h3' 8 with⟨y,i4,h4'⟩
  have z4:=Aj h4 (by omega)
  simp only[h4,Prod.mk.injEq]at e
  rw[←e.1,←e.2.1,ByteArray.size_append,ByteArray.size_append,A4,List.length_singleton];exact⟨by omega,z4.2⟩
theorem Xjm{v:Int}:∀{l:List ByteArray} {p:Int},(Xkp v p l).size≤84*l.length
 |[],_=>by simp[Xkp,A4]
 |x::l,p=>by
  have h1:=Xjm (v:=v) (l:=l) (p:=p+1)
  have h2:=Eb (rfl:Ai v p x=_)
  unfold Xkp
  rw[ByteArray.size_append,List.length_cons]
  omega
theorem Kp{h:Az}{l:List ByteArray}{o:ByteArray}(e:E4 h l=o):o.size≤50+84*l.length:=by
 have h1:=Gj (rfl:A7 h=_)
 have h2:=Xjm (v:=h.version_) (l:=l) (p:=h.base_)
 rw[←e]
 unfold E4
 rw[ByteArray.size_append]
 omega
theorem Xn{b:List UInt8}{i h oi oh:Int}{o:ByteArray}(e:Ip b i h=(o,oi,oh))(hc:0≤i∧i≤b.length∧b.length≤1000000000000):o.size≤500000∧0≤oi∧oi≤b.length:=by
 unfold Ip at e
 rcases h1:Kf b i h with⟨hd,i1,h1'⟩
 have z1:=Xy h1 hc
 rcases h2:Eo b i1 h1' 6 with⟨l,i2,h2'⟩
 have z2:=Ja h2 (by omega) (by omega)
 rcases h3:Bw b i2 h2' 2 with⟨x,i3,h3'⟩
 have z3:=Cf h3 (by omega)
 simp only[h1,h2,h3]at e
 split at e
 ·have h4:=H8 e (by omega)
  have h5:=G5 (rfl:Bh hd l=_)
  omega
 ·have h4:=H8 e (by omega)
  have h5:=Kp (rfl:E4 hd l=_)
  omega
theorem XkO{b:List UInt8}{i h link o oi oh:Int}(e:XhU b i h link=(o,oi,oh))(hc:0≤i∧i≤b.length∧b.length≤1000000000000):0≤oi∧oi≤b.length:=by
 unfold XhU at e
 rcases h1:Bw b i h 20 with⟨x,i1,h1'⟩
 have z1:=Cf h1 hc
 simp only[h1,Prod.mk.injEq]at e
 rw[←e.2.1];exact z1
theorem Xj3{b:List UInt8}{i h oi oh:Int}{hd:Az}{rs:List ByteArray}{o:ByteArray}(e:V5 b i h hd rs=(o,oi,oh))(hc:0≤i∧i≤b.length∧b.length≤1000000000000):0≤oi∧oi≤b.length:=by
 unfold V5 at e
 rcases h1:Bw b i h 4 with⟨x,i1,h1'⟩
 have z1:=Cf h1 hc
 simp only[h1,Prod.mk.injEq]at e
 rw[←e.2.1];exact z1
theorem Xjv{b:List UInt8}{i h oi oh:Int}{t o:ByteArray}(e:V7 b i h t=(o,oi,oh))(hc:0≤i∧i≤b.length∧b.length≤1000000000000):0≤oi∧oi≤b.length:=by
 unfold V7 at e
 rcases h1:Bw b i h 6 with⟨x,i1,h1'⟩
 have z1:=Cf h1 hc
 simp only[h1]at e
 split at e
 ·exact(H8 e (by omega)).2
 ·simp only[Prod.mk.injEq]at e
  rw[←e.2.1];exact z1
theorem Xhg{b:List UInt8}:∀{f:Nat} {k i h oi oh base link:Int} {d o:Aa} {m:Nat},P1 b f k i h d base link=(o,oi,oh)→(0≤i∧i≤b.length∧b.length≤1000000000000)→okE m d→m+5*f≤1000→okE (m+5*f) o∧0≤oi∧oi≤b.length
 |0,k,i,h,oi,oh,base,link,d,o,m,e,hc,hd,hm=>by
  simp only[P1,Prod.mk.injEq]at e
  rw[←e.1,←e.2.1];exact⟨hd,hc.1,hc.2.1⟩
 |f+1,k,i,h,oi,oh,base,link,d,o,m,e,hc,hd,hm=>by
  rcases h1:Ag b i h 5 with⟨x,i1,h1'⟩
  have z1:=Aj h1 hc
  simp only[P1,h1]at e
  split at e
  ·rcases h2:Ag b i1 h1' 2 with⟨v,i2,h2'⟩
   have z2:=Aj h2 (by omega)
   rcases h3:Ag b i2 h2' 3 with⟨s,i3,h3'⟩
   have z3:=Aj h3 (by omega)
   rcases h4:Dq b i3 h3' with⟨r,i4,h4'⟩
   have z4:=Ku h4 (by omega)
   rcases h5:Eo b i4 h4' 3 with⟨l,i5,h5'⟩
   have z5:=Ja h5 (by omega) (by omega)
   rcases h6:Bw b i5 h5' 20 with⟨o6,i6,h6'⟩
   have z6:=Cf h6 (by omega)
   simp only[h2,h3,h4,h5,h6]at e
   generalize hrs:(if o6=true then([]:List ByteArray)else r::l)=rs at e
   rcases h7:XhU b i6 h6' link with⟨lk,i7,h7'⟩
   have z7:=XkO h7 (by omega)
   rcases h8:V5 b i7 h7' ⟨1+v,1+s,base,lk⟩ rs with⟨t,i8,h8'⟩
   have z8:=Xj3 h8 (by omega)
   rcases h10:V7 b i8 h8' t with⟨t2,aa,h10'⟩
   have ac:=Xjv h10 (by omega)
   rcases h11:Fc b aa h10' d (Ah base) t2 with⟨d2,ad,h11'⟩
   have ab:=Hu h11 (by omega) hd (by omega) (by have:=Ea (n:=base) rfl;omega)
   simp only[h7,h8,h10,h11]at e
   have:=Xhg e (by omega) ab.1 (by omega)
   exact⟨this.1.up (by omega),this.2⟩
  ·simp only[Prod.mk.injEq]at e
   rw[←e.1,←e.2.1];exact⟨hd.up (by omega),z1.2⟩
theorem Xg{b:List UInt8}{i h oi oh:Int}{o:Aa}(e:Gl b i h=(o,oi,oh))(hc:0≤i∧i≤b.length∧b.length≤1000000000000):okE 30 o∧0≤oi∧oi≤b.length:=by
 unfold Gl at e
 rcases h1:Cd b i h [6000,6000,6000,900]with⟨r,i1,h1'⟩
 have z1:=Ds h1 hc
 rcases h2:P1 b 5 0 i1 h1' (Gr r) 0 0 with⟨d,i2,h2'⟩
 have z2:=Xhg h2 (by omega) (Yk r) (by omega)
 rcases h3:Ag b i2 h2' 6 with⟨x,i3,h3'⟩
 have z3:=Aj h3 (by omega)
 simp only[h1,h2,h3]at e
 split at e
 ·rcases h4:Ag b i3 h3' 4 with⟨y,i4,h4'⟩
  have z4:=Aj h4 (by omega)
  simp only[h4]at e
  exact Hu e (by omega) z2.1 (by omega) (by have:=Um (n:=y) rfl;omega)
 split at e
 ·rcases h4:Ag b i3 h3' 9 with⟨y,i4,h4'⟩
  have z4:=Aj h4 (by omega)
  rcases h5:Ip b i4 h4' with⟨t,i5,h5'⟩
  have z5:=Xn h5 (by omega)
  simp only[h4,h5]at e
  exact Hu e (by omega) z2.1 (by omega) (by have:=Ea (n:=20+y) rfl;omega)
 split at e
 ·exact Hu e (by omega) z2.1 (by omega) (by decide)
 ·simp only[Prod.mk.injEq]at e
  rw[←e.1,←e.2.1];exact⟨z2.1.up (by omega),z3.2⟩
theorem Xab{b:List UInt8}{i h oi oh:Int}{o:Aa}(e:Ky b i h=(o,oi,oh))(hc:0≤i∧i≤b.length∧b.length≤1000000000000):Sk o∧0≤oi∧oi≤b.length:=by
 unfold Ky at e
 rcases h1:Bw b i h 10 with⟨x,i1,h1'⟩
 have z1:=Cf h1 hc
 simp only[h1]at e
 split at e
 ·exact XbQ e (by omega)
 ·have:=Xg e (by omega)
  exact⟨this.1.1,this.2⟩
end
end Go.Proofs.YtjbmpmmffjgedaaGreatDoor.Ab
