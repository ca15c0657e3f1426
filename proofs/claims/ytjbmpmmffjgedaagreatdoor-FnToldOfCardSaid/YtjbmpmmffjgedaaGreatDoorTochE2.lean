/- What functions of the program come to, for all arguments in the given bounds. -/
import Derived.Test.YtjbmpmmffjgedaaGreatDoorTochN
import Derived.Test.YtjbmpmmffjgedaaGreatDoorToZ10
import Derived.Test.YtjbmpmmffjgedaaGreatDoorToch06h
import Derived.Test.YtjbmpmmffjgedaaGreatDoorToch19
set_option linter.unusedVariables false
set_option linter.unusedSimpArgs false
namespace Go.Proofs.YtjbmpmmffjgedaaGreatDoor.Ab
section
open Go Go.Proofs
set_option maxRecDepth 20000
set_option maxHeartbeats 4000000
def Xe9:List (Nat×TyRow):=[ty3,ty5,ty9,Xgo,We,Z1,XiF,Xlm,XlC,XkO]
theorem Xcr:Bl Tryz.prog Xe9:=Bl.of (by kernel_rfl)
theorem Ic:Setup Tryz.prog Xe9:=⟨Xcr,mixed⟩
theorem xor8(a b:Int):0≤Ku .xor .u8 a b∧Ku .xor .u8 a b<256:=by
 have h:Ku .xor .u8 a b=IntKind.u8.wrap (BitVec.ofInt 8 a^^^BitVec.ofInt 8 b).toNat:=rfl
 rw[h,Gs]
 omega
variable {cb code:List UInt8} {xcb Ej Ee Eg Ek xcode:List (List D)} {ci ch oi oh oroo onex:Int} {o:ByteArray} {onod:List Cj} {oent oold:List Ac} {oste:List ByteArray} {nonod noent noold noste:Nat}
theorem P4{list:List ByteArray}{xlist:List (List D)}(hcb:cb.map cB=xcb)(hlist:list.map cS=xlist)(hc:0≤ci∧ci≤cb.length∧cb.length≤1000000000000)(hl:0<list.length∧list.length≤1000)(hr:E5 cb ci ch list=(o,oi,oh)):Fn Tryz.prog 176 [.ptr 0 0 0,.d (.row 1 xlist)] [.box 140 [.d (.row 1 xcb),I ci,I ch]] ⟨S o,[],[(0,.box 140 [.d (.row 1 xcb),I oi,I oh])]⟩:=by
 refine Fn.goR Ic Tryz.func176 fun P hP Q hQ=>?_
 conv=>cbv
 refine .go hlist fun v1 ab=>?_
 conv=>cbv
 have ae:v1=(list.length:Int):=ab
 rcases aa:Ae cb ci ch v1 with⟨d3,ri3,rh3⟩
 have zr3:=Ah aa (by omega)
 refine .bx [0] [] hP (Bq hcb (by omega) aa) rfl rfl rfl rfl ?_
 conv=>cbv
 refine .go d3.toNat hlist fun ac e4 ad=>?_
 conv=>cbv
 have e:(e4,ri3,rh3)=E5 cb ci ch list:=(by unfold E5;rw[←ab];simp only[aa];rw[List.getD_eq_getElem?_getD,List.getElem?_eq_getElem ac,Option.getD_some,←ad])
 rw[hr]at e
 simp only[Prod.mk.injEq]at e
 obtain⟨rfl,rfl,rfl⟩:=e
 exact hQ _ _ (.of [] (.inl rfl) rfl rfl rfl rfl)
theorem Nn{most:Int}{o:List ByteArray}{xo:List (List D)}{no:Nat}(hcb:cb.map cB=xcb)(hc:0≤ci∧ci≤cb.length∧cb.length≤1000000000000)(hm:0≤most∧most≤100)(ho:o.map cS=xo)(hr:Dh cb ci ch most=(o,oi,oh))(hno:no=o.length):Fn Tryz.prog 96 [.ptr 0 0 0,I most] [.box 140 [.d (.row 1 xcb),I ci,I ch]] ⟨.ref 1 0 no,[.row 1 false xo],[(0,.box 140 [.d (.row 1 xcb),I oi,I oh])]⟩:=by
 refine Fn.goR Ic Tryz.func96 fun P hP Q hQ=>?_
 conv=>cbv
 refine LoopW.lp (κ:=Int×Int×Int×(List (List D))×Nat) Ic hP [2] [0,1] (fun(i6,aa,ab,ac,ad)=>[(5,.ref 3 0 ad),(6,I i6)]) (fun(i6,aa,ab,ac,ad)=>[(0,.box 140 [.d (.row 1 xcb),I aa,I ab]),(3,.row 1 false ac)])
  (fun(i6,aa,ab,ac,ad)=>∃(w3:List ByteArray),w3.map cS=ac∧ad=w3.length∧0≤i6∧i6≤most∧(0≤aa∧aa≤cb.length)∧w3.length=i6.toNat∧Dh cb ci ch most=(match Xjq cb most (most.toNat+1 - i6.toNat) i6 aa ab with|(l,i,h)=>(w3++l,i,h)))
  (fun(i6,aa,ab,ac,ad)=>(most - i6).toNat) (0,ci,ch,[],0) ⟨[],rfl,rfl,by omega,by omega,by omega,rfl,by unfold Dh;simp⟩ ⟨rfl,rfl,trivial⟩ rfl ?_
 rintro⟨i6,aa,ab,ac,ad⟩ J ⟨w3,ag,al,h0,h1,hcu,hwl,hw⟩ hJ
 conv=>cbv
 refine .add fun v1 ah=>?_
 conv=>cbv
 rcases ae:Ae cb aa ab v1 with⟨d3,ri3,rh3⟩
 have zr3:=Ah ae (by omega)
 refine .bx [0] [] hP (Bq hcb (by omega) ae) rfl rfl rfl rfl ?_
 conv=>cbv
 refine .lss (fun h4=>?_) fun h4=>?_
 conv=>cbv
 rcases af:Dr cb ri3 rh3 with⟨d6,ri6,rh6⟩
 have zr6:=Kv af (by omega)
 refine .bx [0] [] hP (Ur hcb (by omega) af) rfl rfl rfl rfl ?_
 conv=>cbv
 refine .one d6 ag rfl fun ai z7 am aj=>?_
 conv=>cbv
 refine .add fun v8 ak=>?_
 conv=>cbv
 exact .go [5] (v8,ri6,rh6,z7,ai) (hJ _ ⟨_,aj,Cv,by omega,by omega,by omega,by rw[List.length_append,hwl];simp;omega,by rw[hw,show most.toNat+1 - i6.toNat=(most.toNat+1 - v8.toNat)+1 by omega,ak];simp only[Xjq,←ah,ae];rw[if_pos (by omega)];simp only[af];simp⟩ mlt)
 conv=>cbv
 have e:(w3,ri3,rh3)=Dh cb ci ch most:=(by rw[hw,show most.toNat+1 - i6.toNat=(most.toNat - i6.toNat)+1 by omega];simp only[Xjq,←ah,ae];rw[if_neg (by omega)];simp)
 rw[hr]at e
 simp only[Prod.mk.injEq]at e
 obtain⟨rfl,rfl,rfl⟩:=e
 obtain rfl:ac=xo:=by rw[←ag,←ho]
 obtain rfl:ad=no:=by first|omega|(rw[hno];simp;done)|(rw[hno];simp;omega)
 exact hQ _ _ (.of [3] (.inl rfl) rfl rfl rfl rfl)
theorem Xgm{over:Int}{ostr:Int}{obas:Int}{olin:Int}(hcb:cb.map cB=xcb)(hc:0≤ci∧ci≤cb.length∧cb.length≤1000000000000)(hr:Ko cb ci ch=(⟨over,ostr,obas,olin⟩,oi,oh)):Fn Tryz.prog 276 [.ptr 0 0 0] [.box 140 [.d (.row 1 xcb),I ci,I ch]] ⟨.agg [I over,I ostr,I obas,I olin],[],[(0,.box 140 [.d (.row 1 xcb),I oi,I oh])]⟩:=by
 refine Fn.goR Ic Tryz.func276 fun P hP Q hQ=>?_
 conv=>cbv
 rcases ab:Ae cb ci ch 2 with⟨d2,ri2,rh2⟩
 have zr2:=Ah ab (by omega)
 refine .bx [0] [] hP (Bq hcb (by omega) ab) rfl rfl rfl rfl ?_
 conv=>cbv
 refine .add fun v3 ae=>?_
 conv=>cbv
 rcases ac:Ae cb ri2 rh2 4 with⟨d5,ri5,rh5⟩
 have zr5:=Ah ac (by omega)
 refine .bx [0] [] hP (Bq hcb (by omega) ac) rfl rfl rfl rfl ?_
 conv=>cbv
 refine .add fun v6 af=>?_
 conv=>cbv
 rcases ad:Ae cb ri5 rh5 9 with⟨d8,ri8,rh8⟩
 have zr8:=Ah ad (by omega)
 refine .bx [0] [] hP (Bq hcb (by omega) ad) rfl rfl rfl rfl ?_
 conv=>cbv
 rcases aa:Ae cb ri8 rh8 1000000 with⟨d10,ri10,rh10⟩
 have zr10:=Ah aa (by omega)
 refine .bx [0] [] hP (Bq hcb (by omega) aa) rfl rfl rfl rfl ?_
 conv=>cbv
 have e:((⟨v3,v6,d8,d10⟩:A0),ri10,rh10)=Ko cb ci ch:=(by unfold Ko;simp only[ab,ac,ad,aa];rw[ae,af])
 rw[hr]at e
 simp only[Prod.mk.injEq,A0.mk.injEq]at e
 obtain⟨⟨rfl,rfl,rfl,rfl⟩,rfl,rfl⟩:=e
 exact hQ _ _ (.of [] (.inl rfl) rfl rfl rfl rfl)
theorem Qp{t:ByteArray}(hcb:cb.map cB=xcb)(hc:0≤ci∧ci≤cb.length∧cb.length≤1000000000000)(hz:t.size≤1000000)(hr:Do cb ci ch t=(o,oi,oh)):Fn Tryz.prog 218 [.ptr 0 0 0,S t] [.box 140 [.d (.row 1 xcb),I ci,I ch]] ⟨S o,[],[(0,.box 140 [.d (.row 1 xcb),I oi,I oh])]⟩:=by
 refine Fn.goR Ic Tryz.func218 fun P hP Q hQ=>?_
 conv=>cbv
 refine .eql (fun h1=>?_) fun h1=>?_
 conv=>cbv
 have e:(t,ci,ch)=Do cb ci ch t:=(by unfold Do;rw[if_pos (show t=tx []from h1)])
 rw[hr]at e
 simp only[Prod.mk.injEq]at e
 obtain⟨rfl,rfl,rfl⟩:=e
 exact hQ _ _ (.of [] (.inl rfl) rfl rfl rfl rfl)
 conv=>cbv
 rcases aa:Bt cb ci ch 2 with⟨d3,ri3,rh3⟩
 have zr3:=Cd aa (by omega)
 refine .bx [0] [] hP (Fi hcb (by omega) aa) rfl rfl rfl rfl ?_
 cases d3
 conv=>cbv
 have hps:=Xe3 (t:=t) h1
 refine .go fun v4 ag=>?_
 conv=>cbv
 rcases ac:Ae cb ri3 rh3 v4 with⟨d6,ri6,rh6⟩
 have zr6:=Ah ac (by omega)
 refine .bx [0] [] hP (Bq hcb (by omega) ac) rfl rfl rfl rfl ?_
 conv=>cbv
 rcases ad:Ae cb ri6 rh6 4 with⟨d8,ri8,rh8⟩
 have zr8:=Ah ad (by omega)
 refine .bx [0] [] hP (Bq hcb (by omega) ad) rfl rfl rfl rfl ?_
 conv=>cbv
 refine .eql (fun h9=>?_) fun h9=>?_
 conv=>cbv
 refine .hi fun az ao=>?_
 conv=>cbv
 have e:(az,ri8,rh8)=Do cb ci ch t:=(by unfold Do;rw[if_neg (show¬t=tx []from h1),←ag];simp only[aa,ac,ad,Bool.false_eq_true,if_false];rw[if_pos h9,ao];rfl)
 rw[hr]at e
 simp only[Prod.mk.injEq]at e
 obtain⟨rfl,rfl,rfl⟩:=e
 exact hQ _ _ (.of [] (.inl rfl) rfl rfl rfl rfl)
 conv=>cbv
 refine .eql (fun h10=>?_) fun h10=>?_
 conv=>cbv
 refine .hi fun a1 ah=>?_
 conv=>cbv
 have bj:a1.size≤t.size:=by rw[ah,ByteArray.size_extract];omega
 refine .add fun a2 bk=>?_
 conv=>cbv
 refine .lo fun a6 ai=>?_
 conv=>cbv
 have bl:a6.size≤t.size:=by rw[ai,ByteArray.size_extract];omega
 refine .go fun a7 ap bm=>?_
 conv=>cbv
 have e:(a7,ri8,rh8)=Do cb ci ch t:=(by unfold Do;rw[if_neg (show¬t=tx []from h1),←ag];simp only[aa,ac,ad,Bool.false_eq_true,if_false];rw[if_neg h9,if_pos h10,ap,ah,ai,show a2.toNat=d6.toNat+1 by omega];rfl)
 rw[hr]at e
 simp only[Prod.mk.injEq]at e
 obtain⟨rfl,rfl,rfl⟩:=e
 exact hQ _ _ (.of [] (.inl rfl) rfl rfl rfl rfl)
 conv=>cbv
 refine .eql (fun h11=>?_) fun h11=>?_
 conv=>cbv
 rcases ae:Ae cb ri8 rh8 4 with⟨d13,ri13,rh13⟩
 have zr13:=Ah ae (by omega)
 refine .bx [0] [] hP (Bq hcb (by omega) ae) rfl rfl rfl rfl ?_
 conv=>cbv
 refine .add fun a8 aq=>?_
 conv=>cbv
 rcases ab:Dp cb ri13 rh13 a8 with⟨d16,ri16,rh16⟩
 have zr16:=F0 ab (by omega)
 refine .bx [0] [] hP (M5 hcb (by omega) ab) rfl rfl rfl rfl ?_
 conv=>cbv
 refine .go fun ba ar bn=>?_
 conv=>cbv
 have e:(ba,ri16,rh16)=Do cb ci ch t:=(by unfold Do;rw[if_neg (show¬t=tx []from h1),←ag];simp only[aa,ac,ad,ae,ab,Bool.false_eq_true,if_false];rw[if_neg h9,if_neg h10,if_pos h11];simp only[←aq,ab];rw[ar])
 rw[hr]at e
 simp only[Prod.mk.injEq]at e
 obtain⟨rfl,rfl,rfl⟩:=e
 exact hQ _ _ (.of [] (.inl rfl) rfl rfl rfl rfl)
 conv=>cbv
 refine .hi fun bb aj=>?_
 conv=>cbv
 refine .go d6.toNat fun hjv13 bw au bv13=>?_
 conv=>cbv
 rcases af:Ae cb ri8 rh8 8 with⟨d15,ri15,rh15⟩
 have zr15:=Ah af (by omega)
 refine .bx [0] [] hP (Bq hcb (by omega) af) rfl rfl rfl rfl ?_
 conv=>cbv
 refine .go fun bc ak=>?_
 conv=>cbv
 have bd:0≤bc:=by rw[ak,F3];omega
 refine .shlW fun bz aw=>?_
 conv=>cbv
 refine .xor fun be al=>?_
 conv=>cbv
 refine .go (hn:=rfl) (show[UInt8.ofNat be.toNat].map cB=_ from congrArg (fun x=>[x]) (Qw (by rw[al];exact xor8 _ _)).symm) fun bf am=>?_
 conv=>cbv
 have bo:bb.size≤t.size:=by rw[aj,ByteArray.size_extract];omega
 have bp:bf.size=1:=by rw[am];rfl
 refine .go fun b0 ax bq=>?_
 conv=>cbv
 refine .add fun bg bt=>?_
 conv=>cbv
 refine .lo fun bh an=>?_
 conv=>cbv
 have bu:bh.size≤t.size:=by rw[an,ByteArray.size_extract];omega
 refine .go fun bi ay bv=>?_
 conv=>cbv
 have e:(bi,ri15,rh15)=Do cb ci ch t:=(by unfold Do;rw[if_neg (show¬t=tx []from h1),←ag];simp only[aa,ac,ad,af,Bool.false_eq_true,if_false];rw[if_neg h9,if_neg h10,if_neg h11,ay,ax,aj,an,am,show bg.toNat=d6.toNat+1 by omega,al,aw,ak,au,XaZ];rfl)
 rw[hr]at e
 simp only[Prod.mk.injEq]at e
 obtain⟨rfl,rfl,rfl⟩:=e
 exact hQ _ _ (.of [] (.inl rfl) rfl rfl rfl rfl)
 conv=>cbv
 have e:(t,ri3,rh3)=Do cb ci ch t:=(by unfold Do;rw[if_neg (show¬t=tx []from h1)];simp only[aa,if_true])
 rw[hr]at e
 simp only[Prod.mk.injEq]at e
 obtain⟨rfl,rfl,rfl⟩:=e
 exact hQ _ _ (.of [] (.inl rfl) rfl rfl rfl rfl)
theorem Po{hver:Int}{hstr:Int}{hbas:Int}{hlin:Int}{records:List ByteArray}{xrecords:List (List D)}(hrecords:records.map cS=xrecords)(hb:0≤hbas∧hbas≤1000000000)(hl:records.length≤1000)(hx:∀x∈records,x.size≤60)(hr:Ev (⟨hver,hstr,hbas,hlin⟩:A0) records=o):Fn Tryz.prog 217 [.agg [I hver,I hstr,I hbas,I hlin],.d (.row 1 xrecords)] [] ⟨S o,[],[]⟩:=by
 refine Fn.go Ic Tryz.func217 fun P hP Q hQ=>?_
 conv=>cbv
 generalize ab:Bj (⟨hver,hstr,hbas,hlin⟩:A0)=r1
 have zr1:=G8 ab
 refine .dd hP (Sb ab) ?_
 conv=>cbv
 refine LoopW.lp (κ:=ByteArray×Int) Ic hP [] [1,2] (fun(s5,i6)=>[(5,S s5),(6,I i6)]) (fun(s5,i6)=>[])
  (fun(s5,i6)=>0≤i6∧i6≤records.length∧s5.size≤50+84*i6∧Ev (⟨hver,hstr,hbas,hlin⟩:A0) records=s5++XkZ hver (hbas+i6) (records.drop i6.toNat))
  (fun(s5,i6)=>(records.length - i6).toNat) (r1,0) ⟨by omega,by omega,by omega,by rw[Int.add_zero];unfold Ev;rw[ab];rfl⟩ ⟨rfl,rfl,trivial⟩ rfl ?_
 rintro⟨s5,i6⟩ J ⟨h0,h1,hsz,hio⟩ hJ
 conv=>cbv
 refine .go hrecords fun v2 ag=>?_
 conv=>cbv
 refine .lss (fun h3=>?_) fun h3=>?_
 conv=>cbv
 refine .add fun v4 ae=>?_
 conv=>cbv
 refine .go i6.toNat hrecords fun aa e5 ad=>?_
 conv=>cbv
 have ah:e5.size≤60:=ad▸hx _ (List.getElem_mem aa)
 generalize ac:Ai hver v4 e5=r6
 have zr6:=D9 ac
 refine .dd hP (Mh (by omega) ac) ?_
 conv=>cbv
 refine .go fun s7 af ai=>?_
 conv=>cbv
 refine .add fun v8 aj=>?_
 conv=>cbv
 exact .go [] (s7,v8) (hJ _ ⟨by omega,by omega,by omega,by rw[hio,List.drop_eq_getElem_cons aa,←ad];show s5++(Ai hver (hbas+i6) e5++XkZ hver (hbas+i6+1) _)=_;rw[←ae,ac,←ByteArray.append_assoc,←af,show v8.toNat=i6.toNat+1 by omega,show hbas+v8=v4+1 by omega]⟩ mlt)
 conv=>cbv
 have e:s5=Ev (⟨hver,hstr,hbas,hlin⟩:A0) records:=(by rw[hio,List.drop_of_length_le (by omega)];exact ByteArray.append_empty.symm)
 rw[hr]at e
 subst e
 exact hQ _ _ (.s rfl rfl)
theorem Xhu(hcb:cb.map cB=xcb)(hc:0≤ci∧ci≤cb.length∧cb.length≤1000000000000)(hr:Is cb ci ch=(o,oi,oh)):Fn Tryz.prog 220 [.ptr 0 0 0] [.box 140 [.d (.row 1 xcb),I ci,I ch]] ⟨S o,[],[(0,.box 140 [.d (.row 1 xcb),I oi,I oh])]⟩:=by
 refine Fn.goR Ic Tryz.func220 fun P hP Q hQ=>?_
 conv=>cbv
 rcases ad:Ko cb ci ch with⟨⟨d2ver,d2str,d2bas,d2lin⟩,ri2,rh2⟩
 have zr2:=Xg ad (by omega)
 refine .bx [0] [] hP (Xgm hcb (by omega) ad) rfl rfl rfl rfl ?_
 conv=>cbv
 dsimp only at zr2
 rcases ae:Dh cb ri2 rh2 6 with⟨d4,ri4,rh4⟩
 generalize ac:d4.map cS=xd4
 obtain⟨nd4,hnd4⟩:∃m,m=d4.length:=⟨_,rfl⟩
 have zr4:=Gh ae (by omega) (by omega)
 refine .bx [0] [] hP (Nn hcb (by omega) (by omega) ac ae hnd4) rfl rfl rfl rfl ?_
 conv=>cbv
 rcases af:Bt cb ri4 rh4 2 with⟨d6,ri6,rh6⟩
 have zr6:=Cd af (by omega)
 refine .bx [0] [] hP (Fi hcb (by omega) af) rfl rfl rfl rfl ?_
 cases d6
 conv=>cbv
 generalize aa:Ev (⟨d2ver,d2str,d2bas,d2lin⟩:A0) d4=r7
 have zr7:=Kq aa
 refine .lnt hP (Po ac (by omega) (by omega) zr4.1.2 aa) (.agg (.d rfl (.d rfl (.d rfl (.d rfl .nil)))) (.ref rfl (Ag ac) .nil)) ?_
 conv=>cbv
 rcases ab:Do cb ri6 rh6 r7 with⟨d9,ri9,rh9⟩
 have zr9:=H8 ab (by omega)
 refine .bx [0] [] hP (Qp hcb (by omega) (by omega) ab) rfl rfl rfl rfl ?_
 conv=>cbv
 have e:(d9,ri9,rh9)=Is cb ci ch:=(by unfold Is;simp only[ad,ae,af,Bool.false_eq_true,if_false];rw[aa];exact ab.symm)
 rw[hr]at e
 simp only[Prod.mk.injEq]at e
 obtain⟨rfl,rfl,rfl⟩:=e
 exact hQ _ _ (.of [] (.inl rfl) rfl rfl rfl rfl)
 conv=>cbv
 generalize aa:A7 (⟨d2ver,d2str,d2bas,d2lin⟩:A0) d4=r7
 have zr7:=Dt aa
 refine .lnt hP (Js ac (by omega) aa) (.agg (.d rfl (.d rfl (.d rfl (.d rfl .nil)))) (.ref rfl (Ag ac) .nil)) ?_
 conv=>cbv
 rcases ab:Do cb ri6 rh6 r7 with⟨d9,ri9,rh9⟩
 have zr9:=H8 ab (by omega)
 refine .bx [0] [] hP (Qp hcb (by omega) (by omega) ab) rfl rfl rfl rfl ?_
 conv=>cbv
 have e:(d9,ri9,rh9)=Is cb ci ch:=(by unfold Is;simp only[ad,ae,af,if_true];rw[aa];exact ab.symm)
 rw[hr]at e
 simp only[Prod.mk.injEq]at e
 obtain⟨rfl,rfl,rfl⟩:=e
 exact hQ _ _ (.of [] (.inl rfl) rfl rfl rfl rfl)
theorem Xq{room:Int}(hr:Gj room=⟨onod,oent,oold,oste,oroo,onex⟩)(Ga:onod.map B3=Ej)(Gd:oent.map Ad=Ee)(Gg:oold.map Ad=Eg)(F5:oste.map cS=Ek)(hnonod:nonod=onod.length)(hnoent:noent=oent.length)(hnoold:noold=oold.length)(hnoste:noste=oste.length):Fn Tryz.prog 62 [I room] [] ⟨.agg [.ref 0 0 nonod,.ref 1 0 noent,.ref 2 0 noold,.ref 3 0 noste,I oroo,I onex],[.row 3 false Ej,.row 2 false Ee,.row 2 false Eg,.row 1 false Ek],[]⟩:=by
 refine Fn.goR Ic Tryz.func62 fun P hP Q hQ=>?_
 conv=>cbv
 refine .lss (fun h1=>?_) fun h1=>?_
 conv=>cbv
 have e:(⟨[],[],[],[],0,1⟩:Aa)=Gj room:=(by unfold Gj;rw[show max 0 room=0 by omega])
 rw[hr]at e
 simp only[Aa.mk.injEq]at e
 obtain⟨rfl,rfl,rfl,rfl,rfl,rfl⟩:=e
 obtain rfl:[]=Ej:=by first|(rw[←Ga];done)|(rw[←Ga];rfl)
 obtain rfl:0=nonod:=by first|omega|(rw[hnonod];simp;done)|(rw[hnonod];simp;omega)
 obtain rfl:[]=Ee:=by first|(rw[←Gd];done)|(rw[←Gd];rfl)
 obtain rfl:0=noent:=by first|omega|(rw[hnoent];simp;done)|(rw[hnoent];simp;omega)
 obtain rfl:[]=Eg:=by first|(rw[←Gg];done)|(rw[←Gg];rfl)
 obtain rfl:0=noold:=by first|omega|(rw[hnoold];simp;done)|(rw[hnoold];simp;omega)
 obtain rfl:[]=Ek:=by first|(rw[←F5];done)|(rw[←F5];rfl)
 obtain rfl:0=noste:=by first|omega|(rw[hnoste];simp;done)|(rw[hnoste];simp;omega)
 exact hQ _ _ (.of [5,6,7,8] (.inl rfl) rfl rfl rfl rfl)
 conv=>cbv
 have e:(⟨[],[],[],[],room,1⟩:Aa)=Gj room:=(by unfold Gj;rw[show max 0 room=room by omega])
 rw[hr]at e
 simp only[Aa.mk.injEq]at e
 obtain⟨rfl,rfl,rfl,rfl,rfl,rfl⟩:=e
 obtain rfl:[]=Ej:=by first|(rw[←Ga];done)|(rw[←Ga];rfl)
 obtain rfl:0=nonod:=by first|omega|(rw[hnonod];simp;done)|(rw[hnonod];simp;omega)
 obtain rfl:[]=Ee:=by first|(rw[←Gd];done)|(rw[←Gd];rfl)
 obtain rfl:0=noent:=by first|omega|(rw[hnoent];simp;done)|(rw[hnoent];simp;omega)
 obtain rfl:[]=Eg:=by first|(rw[←Gg];done)|(rw[←Gg];rfl)
 obtain rfl:0=noold:=by first|omega|(rw[hnoold];simp;done)|(rw[hnoold];simp;omega)
 obtain rfl:[]=Ek:=by first|(rw[←F5];done)|(rw[←F5];rfl)
 obtain rfl:0=noste:=by first|omega|(rw[hnoste];simp;done)|(rw[hnoste];simp;omega)
 exact hQ _ _ (.of [5,6,7,8] (.inl rfl) rfl rfl rfl rfl)
theorem Q2{Ak:List Cj}{Bk:List (List D)}{Aj:List Ac}{Bg:List (List D)}{Am:List Ac}{Bf:List (List D)}{Al:List ByteArray}{Bi:List (List D)}{Ao:Int}{An:Int}{name:ByteArray}{text:ByteArray}(hcb:cb.map cB=xcb)(A1:Ak.map B3=Bk)(Ax:Aj.map Ad=Bg)(A6:Am.map Ad=Bf)(A5:Al.map cS=Bi)(hc:0≤ci∧ci≤cb.length∧cb.length≤1000000000000){m:Nat}(hd:okE m (⟨Ak,Aj,Am,Al,Ao,An⟩:Aa))(hmm:m≤900)(hnz:name.size≤1000)(htz:text.size≤1000000)(Ga:onod.map B3=Ej)(Gd:oent.map Ad=Ee)(Gg:oold.map Ad=Eg)(F5:oste.map cS=Ek)(hr:E8 cb ci ch (⟨Ak,Aj,Am,Al,Ao,An⟩:Aa) name text=(⟨onod,oent,oold,oste,oroo,onex⟩,oi,oh))(hnonod:nonod=onod.length)(hnoent:noent=oent.length)(hnoold:noold=oold.length)(hnoste:noste=oste.length):Fn Tryz.prog 219 [.ptr 0 0 0,.agg [.d (.row 3 Bk),.d (.row 2 Bg),.d (.row 2 Bf),.d (.row 1 Bi),I Ao,I An],S name,S text] [.box 140 [.d (.row 1 xcb),I ci,I ch]] ⟨.agg [.ref 1 0 nonod,.ref 2 0 noent,.ref 3 0 noold,.ref 4 0 noste,I oroo,I onex],[.row 3 false Ej,.row 2 false Ee,.row 2 false Eg,.row 1 false Ek],[(0,.box 140 [.d (.row 1 xcb),I oi,I oh])]⟩:=by
 refine Fn.goR Ic Tryz.func219 fun P hP Q hQ=>?_
 conv=>cbv
 rcases b4:B5 (⟨Ak,Aj,Am,Al,Ao,An⟩:Aa) name with⟨⟨a2,a6,a7,a8,cj,ck⟩,dc⟩
 generalize ax:a2.map B3=c4
 generalize ay:a6.map Ad=c5
 generalize az:a7.map Ad=c6
 generalize a1:a8.map cS=c7
 obtain⟨nr1anod,hnr1anod⟩:∃m,m=a2.length:=⟨_,rfl⟩
 obtain⟨nr1aent,hnr1aent⟩:∃m,m=a6.length:=⟨_,rfl⟩
 obtain⟨nr1aold,hnr1aold⟩:∃m,m=a7.length:=⟨_,rfl⟩
 obtain⟨nr1aste,hnr1aste⟩:∃m,m=a8.length:=⟨_,rfl⟩
 have g1:=hd.of (Qf (name:=name) hd.1 (okE.st hd (by omega)) (by omega)) T6
 rw[b4]at g1
 try simp only[]at g1
 refine .ddN hP (Rl A1 Ax A6 A5 hd.1.1.1 hd.1.1.2.2.1 hd.1.1.2.2.2.2.1 (okE.st hd (by omega)) hd.1.2.2 hd.1 (by omega) b4 ax ay az a1 hnr1anod hnr1aent hnr1aold hnr1aste) rfl ?_
 conv=>cbv
 rcases b5:Aw (⟨a2,a6,a7,a8,cj,ck⟩:Aa) name with⟨⟨ba,bb,bc,bd,cm,cn⟩,de⟩
 generalize ai:ba.map B3=c8
 generalize aj:bb.map Ad=c9
 generalize ak:bc.map Ad=da
 generalize al:bd.map cS=db
 obtain⟨nr2anod,hnr2anod⟩:∃m,m=ba.length:=⟨_,rfl⟩
 obtain⟨nr2aent,hnr2aent⟩:∃m,m=bb.length:=⟨_,rfl⟩
 obtain⟨nr2aold,hnr2aold⟩:∃m,m=bc.length:=⟨_,rfl⟩
 obtain⟨nr2aste,hnr2aste⟩:∃m,m=bd.length:=⟨_,rfl⟩
 have g2:=g1.of (J9 (name:=name) g1.1 (okE.st g1 (by omega)) (by omega)) Mn
 rw[b5]at g2
 try simp only[]at g2
 refine .lntN hP (Jk ax ay az a1 g1.1.1.1 g1.1.1.2.2.1 g1.1.1.2.2.2.2.1 (okE.st g1 (by omega)) g1.1.2.2 g1.1 (by omega) b5 ai aj ak al hnr2anod hnr2aent hnr2aold hnr2aste) (.agg (.ref rfl (Ag ax) (.ref rfl (Ag ay) (.ref rfl (Ag az) (.ref rfl (Ag a1) (.d rfl (.d rfl .nil)))))) (.d rfl .nil)) rfl rfl rfl (by simp only[List.all_cons,List.all_nil,Bool.and_self,Aq (fun _=>rfl) ai,Aq (fun _=>rfl) aj,Aq (fun _=>rfl) ak,Aq (fun _=>rfl) al]) ?_
 conv=>cbv
 rcases b6:Be (⟨ba,bb,bc,bd,cm,cn⟩:Aa) name text with⟨⟨am,an,ao,ap,be,bf⟩,df⟩
 generalize aa:am.map B3=b8
 generalize ab:an.map Ad=b9
 generalize ac:ao.map Ad=ca
 generalize ad:ap.map cS=cc
 obtain⟨nr3anod,hnr3anod⟩:∃m,m=am.length:=⟨_,rfl⟩
 obtain⟨nr3aent,hnr3aent⟩:∃m,m=an.length:=⟨_,rfl⟩
 obtain⟨nr3aold,hnr3aold⟩:∃m,m=ao.length:=⟨_,rfl⟩
 obtain⟨nr3aste,hnr3aste⟩:∃m,m=ap.length:=⟨_,rfl⟩
 have g3:=g2.of (Rh (name:=name) (text:=text) g2.1) Tq
 rw[b6]at g3
 try simp only[]at g3
 refine .lntN hP (P8 ai aj ak al g2.1.1.1 g2.1.1.2.2.1 g2.1.1.2.2.2.2.1 (okE.st g2 (by omega)) g2.1.2.2 g2.1 (by omega) b6 aa ab ac ad hnr3anod hnr3aent hnr3aold hnr3aste) (.agg (.ref rfl (Ag ai) (.ref rfl (Ag aj) (.ref rfl (Ag ak) (.ref rfl (Ag al) (.d rfl (.d rfl .nil)))))) (.d rfl (.d rfl .nil))) rfl rfl rfl (by simp only[List.all_cons,List.all_nil,Bool.and_self,Aq (fun _=>rfl) aa,Aq (fun _=>rfl) ab,Aq (fun _=>rfl) ac,Aq (fun _=>rfl) ad]) ?_
 conv=>cbv
 rcases b7:Bt cb ci ch 4 with⟨d5,ri5,rh5⟩
 have zr5:=Cd b7 (by omega)
 refine .bx [0] [] hP (Fi hcb (by omega) b7) rfl rfl rfl rfl ?_
 cases d5
 conv=>cbv
 rcases co:C8 (⟨am,an,ao,ap,be,bf⟩:Aa) name with⟨⟨aq,ar,au,aw,b2,b3⟩,dg⟩
 generalize ae:aq.map B3=cd
 generalize af:ar.map Ad=ce
 generalize ag:au.map Ad=cf
 generalize ah:aw.map cS=cg
 obtain⟨nr6anod,hnr6anod⟩:∃m,m=aq.length:=⟨_,rfl⟩
 obtain⟨nr6aent,hnr6aent⟩:∃m,m=ar.length:=⟨_,rfl⟩
 obtain⟨nr6aold,hnr6aold⟩:∃m,m=au.length:=⟨_,rfl⟩
 obtain⟨nr6aste,hnr6aste⟩:∃m,m=aw.length:=⟨_,rfl⟩
 have g6:=g3.of (Zb (name:=name) g3.1) XeA
 rw[co]at g6
 try simp only[]at g6
 refine .lntN hP (U0 aa ab ac ad g3.1.1.1 g3.1.1.2.2.1 g3.1.1.2.2.2.2.1 (okE.st g3 (by omega)) g3.1.2.2 g3.1 co ae af ag ah hnr6anod hnr6aent hnr6aold hnr6aste) (.agg (.ref rfl (Ag aa) (.ref rfl (Ag ab) (.ref rfl (Ag ac) (.ref rfl (Ag ad) (.d rfl (.d rfl .nil)))))) (.d rfl .nil)) rfl rfl rfl (by simp only[List.all_cons,List.all_nil,Bool.and_self,Aq (fun _=>rfl) ae,Aq (fun _=>rfl) af,Aq (fun _=>rfl) ag,Aq (fun _=>rfl) ah]) ?_
 conv=>cbv
 rcases bo:Bt cb ri5 rh5 4 with⟨d8,ri8,rh8⟩
 have zr8:=Cd bo (by omega)
 refine .bx [0] [] hP (Fi hcb (by omega) bo) rfl rfl rfl rfl ?_
 cases d8
 conv=>cbv
 rcases cz:C9 (⟨aq,ar,au,aw,b2,b3⟩:Aa)with⟨bp,bq,bt,bu,c0,c1⟩
 generalize bg:bp.map B3=cp
 generalize bh:bq.map Ad=cq
 generalize bi:bt.map Ad=cr
 generalize bj:bu.map cS=ct
 obtain⟨nr9nod,hnr9nod⟩:∃m,m=bp.length:=⟨_,rfl⟩
 obtain⟨nr9ent,hnr9ent⟩:∃m,m=bq.length:=⟨_,rfl⟩
 obtain⟨nr9old,hnr9old⟩:∃m,m=bt.length:=⟨_,rfl⟩
 obtain⟨nr9ste,hnr9ste⟩:∃m,m=bu.length:=⟨_,rfl⟩
 have g9:=g6.of (Qn g6.1) V1
 rw[cz]at g9
 try simp only[]at g9
 refine .lntN hP (M8 ae af ag ah g6.1.1.1 g6.1.1.2.2.1 g6.1.1.2.2.2.2.1 (okE.st g6 (by omega)) g6.1.2.2 g6.1 cz bg bh bi bj hnr9nod hnr9ent hnr9old hnr9ste) (.agg (.ref rfl (Ag ae) (.ref rfl (Ag af) (.ref rfl (Ag ag) (.ref rfl (Ag ah) (.d rfl (.d rfl .nil)))))) .nil) rfl rfl rfl (by simp only[List.all_cons,List.all_nil,Bool.and_self,Aq (fun _=>rfl) bg,Aq (fun _=>rfl) bh,Aq (fun _=>rfl) bi,Aq (fun _=>rfl) bj]) ?_
 conv=>cbv
 have e:((⟨bp,bq,bt,bu,c0,c1⟩:Aa),ri8,rh8)=E8 cb ci ch (⟨Ak,Aj,Am,Al,Ao,An⟩:Aa) name text:=(by unfold E8;simp only[b7,bo,b4,b5,b6,co,cz,Bool.false_eq_true,if_false,if_true])
 rw[hr]at e
 simp only[Prod.mk.injEq,Aa.mk.injEq]at e
 obtain⟨⟨rfl,rfl,rfl,rfl,rfl,rfl⟩,rfl,rfl⟩:=e
 obtain rfl:cp=Ej:=by rw[←bg,←Ga]
 obtain rfl:nr9nod=nonod:=by first|omega|(rw[hnonod];simp;done)|(rw[hnonod];simp;omega)
 obtain rfl:cq=Ee:=by rw[←bh,←Gd]
 obtain rfl:nr9ent=noent:=by first|omega|(rw[hnoent];simp;done)|(rw[hnoent];simp;omega)
 obtain rfl:cr=Eg:=by rw[←bi,←Gg]
 obtain rfl:nr9old=noold:=by first|omega|(rw[hnoold];simp;done)|(rw[hnoold];simp;omega)
 obtain rfl:ct=Ek:=by rw[←bj,←F5]
 obtain rfl:nr9ste=noste:=by first|omega|(rw[hnoste];simp;done)|(rw[hnoste];simp;omega)
 exact hQ _ _ (.of [23,24,25,26] (.inl rfl) rfl rfl rfl rfl)
 conv=>cbv
 have e:((⟨aq,ar,au,aw,b2,b3⟩:Aa),ri8,rh8)=E8 cb ci ch (⟨Ak,Aj,Am,Al,Ao,An⟩:Aa) name text:=(by unfold E8;simp only[b7,bo,b4,b5,b6,co,Bool.false_eq_true,if_false,if_true])
 rw[hr]at e
 simp only[Prod.mk.injEq,Aa.mk.injEq]at e
 obtain⟨⟨rfl,rfl,rfl,rfl,rfl,rfl⟩,rfl,rfl⟩:=e
 obtain rfl:cd=Ej:=by rw[←ae,←Ga]
 obtain rfl:nr6anod=nonod:=by first|omega|(rw[hnonod];simp;done)|(rw[hnonod];simp;omega)
 obtain rfl:ce=Ee:=by rw[←af,←Gd]
 obtain rfl:nr6aent=noent:=by first|omega|(rw[hnoent];simp;done)|(rw[hnoent];simp;omega)
 obtain rfl:cf=Eg:=by rw[←ag,←Gg]
 obtain rfl:nr6aold=noold:=by first|omega|(rw[hnoold];simp;done)|(rw[hnoold];simp;omega)
 obtain rfl:cg=Ek:=by rw[←ah,←F5]
 obtain rfl:nr6aste=noste:=by first|omega|(rw[hnoste];simp;done)|(rw[hnoste];simp;omega)
 exact hQ _ _ (.of [19,20,21,22] (.inl rfl) rfl rfl rfl rfl)
 conv=>cbv
 rcases cu:Bt cb ri5 rh5 4 with⟨d7,ri7,rh7⟩
 have zr7:=Cd cu (by omega)
 refine .bx [0] [] hP (Fi hcb (by omega) cu) rfl rfl rfl rfl ?_
 cases d7
 conv=>cbv
 rcases bo:C9 (⟨am,an,ao,ap,be,bf⟩:Aa)with⟨bv,bw,bz,b0,c2,c3⟩
 generalize bk:bv.map B3=cv
 generalize bl:bw.map Ad=cw
 generalize bm:bz.map Ad=cx
 generalize bn:b0.map cS=cy
 obtain⟨nr8nod,hnr8nod⟩:∃m,m=bv.length:=⟨_,rfl⟩
 obtain⟨nr8ent,hnr8ent⟩:∃m,m=bw.length:=⟨_,rfl⟩
 obtain⟨nr8old,hnr8old⟩:∃m,m=bz.length:=⟨_,rfl⟩
 obtain⟨nr8ste,hnr8ste⟩:∃m,m=b0.length:=⟨_,rfl⟩
 have g8:=g3.of (Qn g3.1) V1
 rw[bo]at g8
 try simp only[]at g8
 refine .lntN hP (M8 aa ab ac ad g3.1.1.1 g3.1.1.2.2.1 g3.1.1.2.2.2.2.1 (okE.st g3 (by omega)) g3.1.2.2 g3.1 bo bk bl bm bn hnr8nod hnr8ent hnr8old hnr8ste) (.agg (.ref rfl (Ag aa) (.ref rfl (Ag ab) (.ref rfl (Ag ac) (.ref rfl (Ag ad) (.d rfl (.d rfl .nil)))))) .nil) rfl rfl rfl (by simp only[List.all_cons,List.all_nil,Bool.and_self,Aq (fun _=>rfl) bk,Aq (fun _=>rfl) bl,Aq (fun _=>rfl) bm,Aq (fun _=>rfl) bn]) ?_
 conv=>cbv
 have e:((⟨bv,bw,bz,b0,c2,c3⟩:Aa),ri7,rh7)=E8 cb ci ch (⟨Ak,Aj,Am,Al,Ao,An⟩:Aa) name text:=(by unfold E8;simp only[b7,cu,b4,b5,b6,bo,Bool.false_eq_true,if_false,if_true])
 rw[hr]at e
 simp only[Prod.mk.injEq,Aa.mk.injEq]at e
 obtain⟨⟨rfl,rfl,rfl,rfl,rfl,rfl⟩,rfl,rfl⟩:=e
 obtain rfl:cv=Ej:=by rw[←bk,←Ga]
 obtain rfl:nr8nod=nonod:=by first|omega|(rw[hnonod];simp;done)|(rw[hnonod];simp;omega)
 obtain rfl:cw=Ee:=by rw[←bl,←Gd]
 obtain rfl:nr8ent=noent:=by first|omega|(rw[hnoent];simp;done)|(rw[hnoent];simp;omega)
 obtain rfl:cx=Eg:=by rw[←bm,←Gg]
 obtain rfl:nr8old=noold:=by first|omega|(rw[hnoold];simp;done)|(rw[hnoold];simp;omega)
 obtain rfl:cy=Ek:=by rw[←bn,←F5]
 obtain rfl:nr8ste=noste:=by first|omega|(rw[hnoste];simp;done)|(rw[hnoste];simp;omega)
 exact hQ _ _ (.of [19,20,21,22] (.inl rfl) rfl rfl rfl rfl)
 conv=>cbv
 have e:((⟨am,an,ao,ap,be,bf⟩:Aa),ri7,rh7)=E8 cb ci ch (⟨Ak,Aj,Am,Al,Ao,An⟩:Aa) name text:=(by unfold E8;simp only[b7,cu,b4,b5,b6,Bool.false_eq_true,if_false,if_true])
 rw[hr]at e
 simp only[Prod.mk.injEq,Aa.mk.injEq]at e
 obtain⟨⟨rfl,rfl,rfl,rfl,rfl,rfl⟩,rfl,rfl⟩:=e
 obtain rfl:b8=Ej:=by rw[←aa,←Ga]
 obtain rfl:nr3anod=nonod:=by first|omega|(rw[hnonod];simp;done)|(rw[hnonod];simp;omega)
 obtain rfl:b9=Ee:=by rw[←ab,←Gd]
 obtain rfl:nr3aent=noent:=by first|omega|(rw[hnoent];simp;done)|(rw[hnoent];simp;omega)
 obtain rfl:ca=Eg:=by rw[←ac,←Gg]
 obtain rfl:nr3aold=noold:=by first|omega|(rw[hnoold];simp;done)|(rw[hnoold];simp;omega)
 obtain rfl:cc=Ek:=by rw[←ad,←F5]
 obtain rfl:nr3aste=noste:=by first|omega|(rw[hnoste];simp;done)|(rw[hnoste];simp;omega)
 exact hQ _ _ (.of [15,16,17,18] (.inl rfl) rfl rfl rfl rfl)
def nwF(h:Int)(x:UInt8):Int:=Ku .and .i64 (h*131+x.toNat+7) 1073741823
def Eu(b:List UInt8):Int:=(b.take 4000).foldl nwF (94701+b.length)
def Xli(b:List UInt8):Bool:=decide (1048576<b.length)
theorem Qh(hcode:code.map cB=xcode)(hb:code.length≤1000000000000)(hr:Eu code=oh):Fn Tryz.prog 60 [.d (.row 1 xcode)] [] ⟨.ptr 0 0 0,[.box 140 [.d (.row 1 xcode),I 0,I oh]],[]⟩:=by
 refine Fn.goR Ic Tryz.func60 fun P hP Q hQ=>?_
 conv=>cbv
 refine .go hcode fun v1 ae=>?_
 conv=>cbv
 refine .add fun v2 af=>?_
 conv=>cbv
 refine LoopW.lp (κ:=Int×Int) Ic hP [] [0] (fun(i3,i4)=>[(3,I i3),(4,I i4)]) (fun(i3,i4)=>[])
  (fun(i3,i4)=>0≤i4∧i4≤code.length∧i4≤4000∧(0≤i3∧i3≤2000000000000)∧(code.take 4000).foldl nwF (94701+code.length)=((code.take 4000).drop i4.toNat).foldl nwF i3)
  (fun(i3,i4)=>(code.length - i4).toNat) (v2,0) ⟨by omega,by omega,by omega,by omega,by rw[af,ae];rfl⟩ ⟨rfl,rfl,trivial⟩ rfl ?_
 rintro⟨i3,i4⟩ J ⟨h0,h1,h2_,h3_,hx⟩ hJ
 conv=>cbv
 refine .go hcode fun v3 ao=>?_
 conv=>cbv
 refine .lss (fun h4=>?_) fun h4=>?_
 conv=>cbv
 refine .lss (fun h5=>?_) fun h5=>?_
 conv=>cbv
 refine .mul fun v6 ag=>?_
 conv=>cbv
 refine .go i4.toNat hcode fun am e7 ah=>?_
 conv=>cbv
 have hb7_:=e7.toNat_lt
 refine .id (a:=(e7.toNat:Int)) fun v8 ai=>?_
 conv=>cbv
 refine .add fun v9 aj=>?_
 conv=>cbv
 refine .add fun ak ab=>?_
 conv=>cbv
 refine .and fun al aa=>?_
 conv=>cbv
 refine .add fun ac an=>?_
 conv=>cbv
 have ap:=e7.toNat_lt
 have ad:=and30 ak
 rw[←aa]at ad
 exact .go [] (al,ac) (hJ _ ⟨by omega,by omega,by omega,by omega,by rw[hx,List.drop_eq_getElem_cons (by rw[List.length_take];omega),List.foldl_cons,List.getElem_take,←ah,show ac.toNat=i4.toNat+1 by omega];congr 1;unfold nwF;rw[aa,ab,aj,ai,ag]⟩ mlt)
 conv=>cbv
 have e:Eu code=i3:=by unfold Eu;rw[hx,List.drop_of_length_le (by rw[List.length_take];omega)];rfl
 rw[hr]at e
 subst e
 exact hQ _ _ (.of [1] (.inl rfl) rfl rfl rfl rfl)
 conv=>cbv
 have e:Eu code=i3:=by unfold Eu;rw[hx,List.drop_of_length_le (by rw[List.length_take];omega)];rfl
 rw[hr]at e
 subst e
 exact hQ _ _ (.of [1] (.inl rfl) rfl rfl rfl rfl)
theorem Flbig{o:Bool}(hcode:code.map cB=xcode)(hr:Xli code=o):Fn Tryz.prog 8 [.d (.row 1 xcode)] [] ⟨B o,[],[]⟩:=by
 refine Fn.go Ic Tryz.func8 fun P hP Q hQ=>?_
 conv=>cbv
 refine .go hcode fun v1 aa=>?_
 conv=>cbv
 refine .gtr (fun h2=>?_) fun h2=>?_
 conv=>cbv
 have e:true=Xli code:=(by unfold Xli;symm;rw[decide_eq_true_eq];omega)
 rw[hr]at e
 subst e
 exact hQ _ _ (.b rfl rfl)
 conv=>cbv
 have e:false=Xli code:=(by unfold Xli;symm;rw[decide_eq_false_iff_not];omega)
 rw[hr]at e
 subst e
 exact hQ _ _ (.b rfl rfl)
end
section
open Go Go.Proofs
set_option maxRecDepth 20000
set_option maxHeartbeats 4000000
def Za:List (Nat×TyRow):=[ty3,ty9,We,Z1,Xal,XiF,Xlm]
theorem Xc1:Bl Tryz.prog Za:=Bl.of (by kernel_rfl)
theorem XkF:Setup Tryz.prog Za:=⟨Xc1,mixed⟩
theorem Dy:Setup Tryz.prog ((1000054,Em Tryz.prog 1000054)::((1000049,Em Tryz.prog 1000049)::((1000040,Em Tryz.prog 1000040)::Za))):=(Setup.mark 1000054 (Setup.mark 1000049 (Setup.mark 1000040 XkF)))
theorem Xhb{cb:List UInt8}{xcb:List (List D)}{ci:Int}{ch:Int}{onod:List Cj}{Ej:List (List D)}{oent:List Ac}{Ee:List (List D)}{oold:List Ac}{Eg:List (List D)}{oste:List ByteArray}{Ek:List (List D)}{oroo:Int}{onex:Int}{oi oh:Int}{nonod:Nat}{noent:Nat}{noold:Nat}{noste:Nat}(hcb:cb.map cB=xcb)(hc:0≤ci∧ci≤cb.length∧cb.length≤1000000000000)(Ga:onod.map B3=Ej)(Gd:oent.map Ad=Ee)(Gg:oold.map Ad=Eg)(F5:oste.map cS=Ek)(hr:Gq cb ci ch=(⟨onod,oent,oold,oste,oroo,onex⟩,oi,oh))(hnonod:nonod=onod.length)(hnoent:noent=oent.length)(hnoold:noold=oold.length)(hnoste:noste=oste.length):Fn Tryz.prog 141 [.ptr 0 0 0] [.box 140 [.d (.row 1 xcb),I ci,I ch]] ⟨.agg [.ref 1 0 nonod,.ref 2 0 noent,.ref 3 0 noold,.ref 4 0 noste,I oroo,I onex],[.row 3 false Ej,.row 2 false Ee,.row 2 false Eg,.row 1 false Ek],[(0,.box 140 [.d (.row 1 xcb),I oi,I oh])]⟩:=by
 refine Fn.goR Dy Tryz.func141 fun P hP Q hQ=>?_
 conv=>cbv
 rcases bh:Bn cb ci ch [6000,6000,6000,900]with⟨d2,ri2,rh2⟩
 have zr2:=C5 bh (by omega)
 refine .bxL [0] [6] (.same (.ref rfl rfl .nil)) hP (Hn hcb rfl (by omega) (by decide) bh) rfl rfl rfl rfl ?_
 conv=>cbv
 rcases cy:Gj d2 with⟨b3,b4,b5,b6,cz,c0⟩
 generalize b8:b3.map B3=cq
 generalize b9:b4.map Ad=cr
 generalize ca:b5.map Ad=ct
 generalize cc:b6.map cS=cu
 obtain⟨nr3nod,hnr3nod⟩:∃m,m=b3.length:=⟨_,rfl⟩
 obtain⟨nr3ent,hnr3ent⟩:∃m,m=b4.length:=⟨_,rfl⟩
 obtain⟨nr3old,hnr3old⟩:∃m,m=b5.length:=⟨_,rfl⟩
 obtain⟨nr3ste,hnr3ste⟩:∃m,m=b6.length:=⟨_,rfl⟩
 have g3:=Us d2
 rw[cy]at g3
 refine .ddN hP (Xq cy b8 b9 ca cc hnr3nod hnr3ent hnr3old hnr3ste) rfl ?_
 conv=>cbv
 refine LoopW.lp (κ:=Int×Int×Int×Int×Int×Int×Int×(List (List D))×Nat×(List (List D))×Nat×(List (List D))×Nat×(List (List D))×Nat) Dy hP [7,8,9,10] [0,2,3] (fun(i4,i5,i6,bg,b7,ad,ae,ar,au,aw,ax,ay,az,a1,a2)=>[(4,I i4),(5,I i5),(6,I i6)]) (fun(i4,i5,i6,bg,b7,ad,ae,ar,au,aw,ax,ay,az,a1,a2)=>[(0,.box 140 [.d (.row 1 xcb),I bg,I b7]),(15,.box 28 [.ref 16 0 au,.ref 17 0 ax,.ref 18 0 az,.ref 19 0 a2,I ad,I ae]),(16,.row 3 false ar),(17,.row 2 false aw),(18,.row 2 false ay),(19,.row 1 false a1)])
  (fun(i4,i5,i6,bg,b7,ad,ae,ar,au,aw,ax,ay,az,a1,a2)=>∃(a6:List Cj) (a7:List Ac) (a8:List Ac) (ba:List ByteArray),a6.map B3=ar∧au=a6.length∧a7.map Ad=aw∧ax=a7.length∧a8.map Ad=ay∧az=a8.length∧ba.map cS=a1∧a2=ba.length∧0≤i6∧i6≤4∧(0≤i4∧i4≤10*i6)∧(0≤bg∧bg≤cb.length)∧okE (5*i6.toNat) (⟨a6,a7,a8,ba,ad,ae⟩:Aa)∧Qr cb 5 0 ri2 rh2 (Gj d2) 0 0=Qr cb (5 - i6.toNat) i6 bg b7 (⟨a6,a7,a8,ba,ad,ae⟩:Aa) i4 i5)
  (fun(i4,i5,i6,bg,b7,ad,ae,ar,au,aw,ax,ay,az,a1,a2)=>(4 - i6).toNat) (0,0,0,ri2,rh2,cz,c0,cq,nr3nod,cr,nr3ent,ct,nr3old,cu,nr3ste) ⟨b3,b4,b5,b6,b8,(by first|omega|(simp;omega)),b9,(by first|omega|(simp;omega)),ca,(by first|omega|(simp;omega)),cc,(by first|omega|(simp;omega)),by omega,by omega,⟨by omega,by omega⟩,by omega,g3,by rw[cy];rfl⟩ ⟨rfl,rfl,rfl,trivial⟩ rfl ?_
 rintro⟨i4,i5,i6,bg,b7,ad,ae,ar,au,aw,ax,ay,az,a1,a2⟩ J ⟨a6,a7,a8,ba,ag,dh,ah,di,ai,dj,aj,dk,h0,h1,hbb,hcu,hE,hio⟩ hJ
 conv=>cbv
 rcases bf:Ae cb bg b7 5 with⟨d5,ri5,rh5⟩
 have zr5:=Ah bf (by omega)
 refine .bx [0] [] hP (Bq hcb (by omega) bf) rfl rfl rfl rfl ?_
 conv=>cbv
 refine .lss (fun h6=>?_) fun h6=>?_
 conv=>cbv
 rcases bb:Ae cb ri5 rh5 2 with⟨d8,ri8,rh8⟩
 have zr8:=Ah bb (by omega)
 refine .bx [0] [] hP (Bq hcb (by omega) bb) rfl rfl rfl rfl ?_
 conv=>cbv
 refine .add fun v9 c9=>?_
 conv=>cbv
 rcases ap:Ae cb ri8 rh8 3 with⟨d11,ri11,rh11⟩
 have zr11:=Ah ap (by omega)
 refine .bx [0] [] hP (Bq hcb (by omega) ap) rfl rfl rfl rfl ?_
 conv=>cbv
 refine .add fun bi cv=>?_
 conv=>cbv
 rcases af:Dr cb ri11 rh11 with⟨d14,ri14,rh14⟩
 have zr14:=Kv af (by omega)
 refine .bx [0] [] hP (Ur hcb (by omega) af) rfl rfl rfl rfl ?_
 conv=>cbv
 rcases aq:Dh cb ri14 rh14 3 with⟨d16,ri16,rh16⟩
 generalize cw:d16.map cS=xd16
 obtain⟨nd16,hnd16⟩:∃m,m=d16.length:=⟨_,rfl⟩
 have zr16:=Gh aq (by omega) (by omega)
 refine .bx [0] [] hP (Nn hcb (by omega) (by omega) cw aq hnd16) rfl rfl rfl rfl ?_
 conv=>cbv
 refine .sub (l:=[d14]) (c:=cS) (m:=d16) (hl:=rfl) rfl cw fun cx dt c1 bj=>?_
 conv=>cbv
 have hnz:cx=([d14]++d16).length:=by rw[c1,List.length_append]
 have ds:cx=(d14::d16).length:=hnz
 have hrl:([d14]++d16).length≤4:=by rw[List.length_append,List.length_singleton];omega
 have hrx:∀x∈[d14]++d16,x.size≤60:=by intro x hx;rcases List.mem_append.1 hx with hx|hx;(rw[List.mem_singleton.1 hx];exact zr14.1);exact zr16.1.2 x hx
 rcases cd:Bt cb ri16 rh16 20 with⟨d19,ri19,rh19⟩
 have zr19:=Cd cd (by omega)
 refine .bx [0] [] hP (Fi hcb (by omega) cd) rfl rfl rfl rfl ?_
 cases d19
 conv=>cbv
 refine JoinW.jn (κ:=Int×Int×Int) Dy hP [] [0,2,3,4,5,6,7,8] (fun(c0b_40,c0c_40,c20d_40)=>[]) (fun(c0b_40,c0c_40,c20d_40)=>[(0,.box 140 [.d (.row 1 xcb),I c0b_40,I c0c_40]),(20,.box 38 [I v9,I bi,I i4,I c20d_40])])
  (fun(c0b_40,c0c_40,c20d_40)=>XiI cb ri19 rh19 i5=(c20d_40,c0b_40,c0c_40)∧0≤c0b_40∧c0b_40≤cb.length) (fun Jj1 hJj1=>?_) ?_
 conv=>cbv
 rcases ab:Bt cb ri19 rh19 20 with⟨d21,ri21,rh21⟩
 have zr21:=Cd ab (by omega)
 refine .bx [0] [] hP (Fi hcb (by omega) ab) rfl rfl rfl rfl ?_
 cases d21
 conv=>cbv
 exact .go [] (ri21,rh21,i5) (hJj1 _ ⟨by unfold XiI;rw[ab];first|done|rfl,by omega,by omega⟩)
 conv=>cbv
 refine .xor fun c2 ce=>?_
 conv=>cbv
 exact .go [] (ri21,rh21,c2) (hJj1 _ ⟨by unfold XiI;rw[ab,ce];first|done|rfl,by omega,by omega⟩)
 rintro⟨c0b_40,c0c_40,c20d_40⟩ ⟨hL,hL1,hL2⟩
 conv=>cbv
 generalize bc:A7 (⟨v9,bi,i4,c20d_40⟩:A0) ([d14]++d16)=c3
 have zr20:=Dt bc
 refine .lnt hP (Js bj (by first|omega|simp) bc) (.agg (.d rfl (.d rfl (.d rfl (.d rfl .nil)))) (.ref rfl (Ag bj) .nil)) ?_
 conv=>cbv
 refine JoinW.jn (κ:=ByteArray×Int×Int) Dy hP [] [0,2,3,4,5,6,8] (fun(s9_49,c0b_49,c0c_49)=>[(9,S s9_49)]) (fun(s9_49,c0b_49,c0c_49)=>[(0,.box 140 [.d (.row 1 xcb),I c0b_49,I c0c_49])])
  (fun(s9_49,c0b_49,c0c_49)=>Wj cb c0b_40 c0c_40 (⟨v9,bi,i4,c20d_40⟩:A0) (d14::d16)=(s9_49,c0b_49,c0c_49)∧(0≤c0b_49∧c0b_49≤cb.length)∧s9_49.size≤200400) (fun Jj2 hJj2=>?_) ?_
 conv=>cbv
 rcases aa:Bt cb c0b_40 c0c_40 4 with⟨d22,ri22,rh22⟩
 have zr22:=Cd aa (by omega)
 refine .bx [0] [] hP (Fi hcb (by omega) aa) rfl rfl rfl rfl ?_
 cases d22
 conv=>cbv
 exact .go [] (c3,ri22,rh22) (hJj2 _ ⟨by unfold Wj;rw[aa];exact congrArg (fun x=>(x,ri22,rh22)) bc,by omega,by first|omega|(simp at zr20;omega)⟩)
 conv=>cbv
 generalize ac:Ev (⟨v9,bi,i4,c20d_40⟩:A0) ([d14]++d16)=c4
 have zr23:=Kq ac
 refine .lnt hP (Po bj (by omega) (by first|omega|simp) (by first|exact hrx|(intro x hx;cases hx)) ac) (.agg (.d rfl (.d rfl (.d rfl (.d rfl .nil)))) (.ref rfl (Ag bj) .nil)) ?_
 conv=>cbv
 exact .go [] (c4,ri22,rh22) (hJj2 _ ⟨by unfold Wj;rw[aa];exact congrArg (fun x=>(x,ri22,rh22)) ac,by omega,by first|omega|(simp at zr23;omega)⟩)
 rintro⟨s9_49,c0b_49,c0c_49⟩ ⟨hT,hT1,hT2⟩
 conv=>cbv
 refine JoinW.jn (κ:=ByteArray×Int×Int) Dy hP [] [0,2,3,4,5,6,8] (fun(s9_54,c0b_54,c0c_54)=>[(9,S s9_54)]) (fun(s9_54,c0b_54,c0c_54)=>[(0,.box 140 [.d (.row 1 xcb),I c0b_54,I c0c_54])])
  (fun(s9_54,c0b_54,c0c_54)=>Wk cb c0b_49 c0c_49 s9_49=(s9_54,c0b_54,c0c_54)∧(0≤c0b_54∧c0b_54≤cb.length)∧s9_54.size≤500000) (fun Jj3 hJj3=>?_) ?_
 conv=>cbv
 rcases aa:Bt cb c0b_49 c0c_49 6 with⟨d22,ri22,rh22⟩
 have zr22:=Cd aa (by omega)
 refine .bx [0] [] hP (Fi hcb (by omega) aa) rfl rfl rfl rfl ?_
 cases d22
 conv=>cbv
 exact .go [] (s9_49,ri22,rh22) (hJj3 _ ⟨by unfold Wk;rw[aa];first|done|rfl,by omega,by omega⟩)
 conv=>cbv
 rcases bd:Do cb ri22 rh22 s9_49 with⟨d24,ri24,rh24⟩
 have zr24:=H8 bd (by omega)
 refine .bx [0] [] hP (Qp hcb (by omega) (by omega) bd) rfl rfl rfl rfl ?_
 conv=>cbv
 exact .go [] (d24,ri24,rh24) (hJj3 _ ⟨by unfold Wk;rw[aa];exact bd,by omega,by omega⟩)
 rintro⟨s9_54,c0b_54,c0c_54⟩ ⟨hB,hB1,hB2⟩
 conv=>cbv
 generalize ab:Af i4=c5
 have zr21:=Dx ab
 refine .dd hP (E6 ab) ?_
 conv=>cbv
 rcases ac:E8 cb c0b_54 c0c_54 (⟨a6,a7,a8,ba,ad,ae⟩:Aa) c5 s9_54 with⟨⟨d23nod,d23ent,d23old,d23ste,d23roo,d23nex⟩,ri23,rh23⟩
 generalize ak:d23nod.map B3=xd23nod
 generalize al:d23ent.map Ad=xd23ent
 generalize am:d23old.map Ad=xd23old
 generalize an:d23ste.map cS=xd23ste
 obtain⟨nd23nod,hnd23nod⟩:∃m,m=d23nod.length:=⟨_,rfl⟩
 obtain⟨nd23ent,hnd23ent⟩:∃m,m=d23ent.length:=⟨_,rfl⟩
 obtain⟨nd23old,hnd23old⟩:∃m,m=d23old.length:=⟨_,rfl⟩
 obtain⟨nd23ste,hnd23ste⟩:∃m,m=d23ste.length:=⟨_,rfl⟩
 have zr23:=H1 ac (by omega) hE (by omega) (by first|omega|decide)
 refine .bxL [0] [16,17,18,19] (.same (.agg1 (.ref rfl (Ag ag) (.ref rfl (Ag ah) (.ref rfl (Ag ai) (.ref rfl (Ag aj) (.d rfl (.d rfl .nil)))))) (.same (.same .nil)))) hP (Q2 hcb ag ah ai aj (by omega) hE (by omega) (by first|omega|decide) (by first|omega|decide) ak al am an ac hnd23nod hnd23ent hnd23old hnd23ste) rfl rfl rfl rfl ?_
 conv=>cbv
 refine .go fun dl da=>?_
 conv=>cbv
 refine .add fun cf db=>?_
 conv=>cbv
 refine LoopW.lp (κ:=Int×Int) Dy hP [] [0,2,3,4,6,8] (fun(i5_1,i10_1)=>[(5,I i5_1),(10,I i10_1)]) (fun(i5_1,i10_1)=>[])
  (fun(i5_1,i10_1)=>0≤i10_1∧i10_1≤(d14::d16).length∧i5_1=((d14::d16).take i10_1.toNat).foldl Dq i5)
  (fun(i5_1,i10_1)=>((d14::d16).length - i10_1).toNat) (i5,0) ⟨by omega,by omega,rfl⟩ ⟨rfl,rfl,trivial⟩ rfl ?_
 rintro⟨i5_1,i10_1⟩ J4 ⟨m0,m1,hlk⟩ c6
 conv=>cbv
 refine .go fun dm dc=>?_
 conv=>cbv
 refine .lss (fun h27=>?_) fun h27=>?_
 conv=>cbv
 refine .go i10_1.toNat fun dn cg c7=>?_
 conv=>cbv
 refine .go bj fun ao cj bk=>?_
 conv=>cbv
 have de:cj.size≤60:=by first|exact bk▸hrx _ (List.getElem_mem ao)|simp at ao
 generalize bl:Dq i5_1 cj=c8
 refine .dd hP (Sh (by omega) bl) ?_
 conv=>cbv
 refine .add fun ck df=>?_
 conv=>cbv
 subst cg
 exact .go [] (c8,ck) (c6 _ ⟨by omega,by omega,by rw[show ck.toNat=i10_1.toNat+1 by omega,List.take_succ_eq_append_getElem (l:=d14::d16) ao,List.foldl_append,←hlk,List.foldl_cons,List.foldl_nil];exact(bl.symm.trans (congrArg (Dq i5_1) bk))⟩ mlt)
 conv=>cbv
 refine .add fun cm cn=>?_
 conv=>cbv
 have hlf:i5_1=(d14::d16).foldl Dq i5:=by rw[hlk,List.take_of_length_le (by first|omega|(simp;omega)|simp)]
 have hbs:cf=i4+((d14::d16).length:Int):=by first|omega|(simp;omega)|simp
 exact .go [24,25,26,27] (cf,i5_1,cm,ri23,rh23,d23roo,d23nex,xd23nod,nd23nod,xd23ent,nd23ent,xd23old,nd23old,xd23ste,nd23ste) (hJ _ ⟨_,_,_,_,ak,Cv,al,Cv,am,Cv,an,Cv,by omega,by omega,⟨by omega,by first|omega|(simp at hbs;omega)⟩,by omega,zr23.1.up (by omega),by rw[hio,show 5 - i6.toNat=(5 - cm.toNat)+1 by omega,cn];simp only[Qr,bf];rw[if_pos (by omega)];simp only[bh,bf,bb,ap,af,aq,cd,ac,Bool.false_eq_true,if_false,if_true,←c9,←cv,hL,hT,hB,ab];rw[hbs,hlf]⟩ mlt)
 conv=>cbv
 refine JoinW.jn (κ:=Int×Int×Int) Dy hP [] [0,2,3,4,5,6,7,8] (fun(c0b_40,c0c_40,c20d_40)=>[]) (fun(c0b_40,c0c_40,c20d_40)=>[(0,.box 140 [.d (.row 1 xcb),I c0b_40,I c0c_40]),(20,.box 38 [I v9,I bi,I i4,I c20d_40])])
  (fun(c0b_40,c0c_40,c20d_40)=>XiI cb ri19 rh19 i5=(c20d_40,c0b_40,c0c_40)∧0≤c0b_40∧c0b_40≤cb.length) (fun Jj1 hJj1=>?_) ?_
 conv=>cbv
 rcases ab:Bt cb ri19 rh19 20 with⟨d21,ri21,rh21⟩
 have zr21:=Cd ab (by omega)
 refine .bx [0] [] hP (Fi hcb (by omega) ab) rfl rfl rfl rfl ?_
 cases d21
 conv=>cbv
 exact .go [] (ri21,rh21,i5) (hJj1 _ ⟨by unfold XiI;rw[ab];first|done|rfl,by omega,by omega⟩)
 conv=>cbv
 refine .xor fun c2 ce=>?_
 conv=>cbv
 exact .go [] (ri21,rh21,c2) (hJj1 _ ⟨by unfold XiI;rw[ab,ce];first|done|rfl,by omega,by omega⟩)
 rintro⟨c0b_40,c0c_40,c20d_40⟩ ⟨hL,hL1,hL2⟩
 conv=>cbv
 generalize bc:A7 (⟨v9,bi,i4,c20d_40⟩:A0) []=c3
 have zr20:=Dt bc
 refine .lnt hP (Js rfl (by first|omega|simp) bc) (.agg (.d rfl (.d rfl (.d rfl (.d rfl .nil)))) (.ref rfl rfl .nil)) ?_
 conv=>cbv
 refine JoinW.jn (κ:=ByteArray×Int×Int) Dy hP [] [0,2,3,4,5,6,8] (fun(s9_49,c0b_49,c0c_49)=>[(9,S s9_49)]) (fun(s9_49,c0b_49,c0c_49)=>[(0,.box 140 [.d (.row 1 xcb),I c0b_49,I c0c_49])])
  (fun(s9_49,c0b_49,c0c_49)=>Wj cb c0b_40 c0c_40 (⟨v9,bi,i4,c20d_40⟩:A0) (([]:List ByteArray))=(s9_49,c0b_49,c0c_49)∧(0≤c0b_49∧c0b_49≤cb.length)∧s9_49.size≤200400) (fun Jj2 hJj2=>?_) ?_
 conv=>cbv
 rcases aa:Bt cb c0b_40 c0c_40 4 with⟨d22,ri22,rh22⟩
 have zr22:=Cd aa (by omega)
 refine .bx [0] [] hP (Fi hcb (by omega) aa) rfl rfl rfl rfl ?_
 cases d22
 conv=>cbv
 exact .go [] (c3,ri22,rh22) (hJj2 _ ⟨by unfold Wj;rw[aa];exact congrArg (fun x=>(x,ri22,rh22)) bc,by omega,by first|omega|(simp at zr20;omega)⟩)
 conv=>cbv
 generalize ac:Ev (⟨v9,bi,i4,c20d_40⟩:A0) []=c4
 have zr23:=Kq ac
 refine .lnt hP (Po rfl (by omega) (by first|omega|simp) (by first|exact hrx|(intro x hx;cases hx)) ac) (.agg (.d rfl (.d rfl (.d rfl (.d rfl .nil)))) (.ref rfl rfl .nil)) ?_
 conv=>cbv
 exact .go [] (c4,ri22,rh22) (hJj2 _ ⟨by unfold Wj;rw[aa];exact congrArg (fun x=>(x,ri22,rh22)) ac,by omega,by first|omega|(simp at zr23;omega)⟩)
 rintro⟨s9_49,c0b_49,c0c_49⟩ ⟨hT,hT1,hT2⟩
 conv=>cbv
 refine JoinW.jn (κ:=ByteArray×Int×Int) Dy hP [] [0,2,3,4,5,6,8] (fun(s9_54,c0b_54,c0c_54)=>[(9,S s9_54)]) (fun(s9_54,c0b_54,c0c_54)=>[(0,.box 140 [.d (.row 1 xcb),I c0b_54,I c0c_54])])
  (fun(s9_54,c0b_54,c0c_54)=>Wk cb c0b_49 c0c_49 s9_49=(s9_54,c0b_54,c0c_54)∧(0≤c0b_54∧c0b_54≤cb.length)∧s9_54.size≤500000) (fun Jj3 hJj3=>?_) ?_
 conv=>cbv
 rcases aa:Bt cb c0b_49 c0c_49 6 with⟨d22,ri22,rh22⟩
 have zr22:=Cd aa (by omega)
 refine .bx [0] [] hP (Fi hcb (by omega) aa) rfl rfl rfl rfl ?_
 cases d22
 conv=>cbv
 exact .go [] (s9_49,ri22,rh22) (hJj3 _ ⟨by unfold Wk;rw[aa];first|done|rfl,by omega,by omega⟩)
 conv=>cbv
 rcases bd:Do cb ri22 rh22 s9_49 with⟨d24,ri24,rh24⟩
 have zr24:=H8 bd (by omega)
 refine .bx [0] [] hP (Qp hcb (by omega) (by omega) bd) rfl rfl rfl rfl ?_
 conv=>cbv
 exact .go [] (d24,ri24,rh24) (hJj3 _ ⟨by unfold Wk;rw[aa];exact bd,by omega,by omega⟩)
 rintro⟨s9_54,c0b_54,c0c_54⟩ ⟨hB,hB1,hB2⟩
 conv=>cbv
 generalize ab:Af i4=c5
 have zr21:=Dx ab
 refine .dd hP (E6 ab) ?_
 conv=>cbv
 rcases ac:E8 cb c0b_54 c0c_54 (⟨a6,a7,a8,ba,ad,ae⟩:Aa) c5 s9_54 with⟨⟨d23nod,d23ent,d23old,d23ste,d23roo,d23nex⟩,ri23,rh23⟩
 generalize ak:d23nod.map B3=xd23nod
 generalize al:d23ent.map Ad=xd23ent
 generalize am:d23old.map Ad=xd23old
 generalize an:d23ste.map cS=xd23ste
 obtain⟨nd23nod,hnd23nod⟩:∃m,m=d23nod.length:=⟨_,rfl⟩
 obtain⟨nd23ent,hnd23ent⟩:∃m,m=d23ent.length:=⟨_,rfl⟩
 obtain⟨nd23old,hnd23old⟩:∃m,m=d23old.length:=⟨_,rfl⟩
 obtain⟨nd23ste,hnd23ste⟩:∃m,m=d23ste.length:=⟨_,rfl⟩
 have zr23:=H1 ac (by omega) hE (by omega) (by first|omega|decide)
 refine .bxL [0] [16,17,18,19] (.same (.agg1 (.ref rfl (Ag ag) (.ref rfl (Ag ah) (.ref rfl (Ag ai) (.ref rfl (Ag aj) (.d rfl (.d rfl .nil)))))) (.same (.same .nil)))) hP (Q2 hcb ag ah ai aj (by omega) hE (by omega) (by first|omega|decide) (by first|omega|decide) ak al am an ac hnd23nod hnd23ent hnd23old hnd23ste) rfl rfl rfl rfl ?_
 conv=>cbv
 refine .go fun dl da=>?_
 conv=>cbv
 refine .add fun cf db=>?_
 conv=>cbv
 refine LoopW.lp (κ:=Int×Int) Dy hP [] [0,2,3,4,6,8] (fun(i5_1,i10_1)=>[(5,I i5_1),(10,I i10_1)]) (fun(i5_1,i10_1)=>[])
  (fun(i5_1,i10_1)=>0≤i10_1∧i10_1≤(([]:List ByteArray)).length∧i5_1=((([]:List ByteArray)).take i10_1.toNat).foldl Dq i5)
  (fun(i5_1,i10_1)=>((([]:List ByteArray)).length - i10_1).toNat) (i5,0) ⟨by omega,by omega,rfl⟩ ⟨rfl,rfl,trivial⟩ rfl ?_
 rintro⟨i5_1,i10_1⟩ J4 ⟨m0,m1,hlk⟩ c6
 conv=>cbv
 refine .go fun dm dc=>?_
 conv=>cbv
 refine .lss (fun h27=>?_) fun h27=>?_
 conv=>cbv
 refine .go i10_1.toNat fun dn cg c7=>?_
 conv=>cbv
 refine .go (l:=[]) (c:=cS) rfl fun ao cj bk=>?_
 conv=>cbv
 have de:cj.size≤60:=by first|exact bk▸hrx _ (List.getElem_mem ao)|simp at ao
 generalize bl:Dq i5_1 cj=c8
 refine .dd hP (Sh (by omega) bl) ?_
 conv=>cbv
 refine .add fun ck df=>?_
 conv=>cbv
 subst cg
 exact .go [] (c8,ck) (c6 _ ⟨by omega,by omega,by rw[show ck.toNat=i10_1.toNat+1 by omega,List.take_succ_eq_append_getElem (l:=([]:List ByteArray)) ao,List.foldl_append,←hlk,List.foldl_cons,List.foldl_nil];exact(bl.symm.trans (congrArg (Dq i5_1) bk))⟩ mlt)
 conv=>cbv
 refine .add fun cm cn=>?_
 conv=>cbv
 have hlf:i5_1=(([]:List ByteArray)).foldl Dq i5:=by rw[hlk,List.take_of_length_le (by first|omega|(simp;omega)|simp)]
 have hbs:cf=i4+((([]:List ByteArray)).length:Int):=by first|omega|(simp;omega)|simp
 exact .go [25,26,27,28] (cf,i5_1,cm,ri23,rh23,d23roo,d23nex,xd23nod,nd23nod,xd23ent,nd23ent,xd23old,nd23old,xd23ste,nd23ste) (hJ _ ⟨_,_,_,_,ak,Cv,al,Cv,am,Cv,an,Cv,by omega,by omega,⟨by omega,by first|omega|(simp at hbs;omega)⟩,by omega,zr23.1.up (by omega),by rw[hio,show 5 - i6.toNat=(5 - cm.toNat)+1 by omega,cn];simp only[Qr,bf];rw[if_pos (by omega)];simp only[bh,bf,bb,ap,af,aq,cd,ac,Bool.false_eq_true,if_false,if_true,←c9,←cv,hL,hT,hB,ab];rw[hbs,hlf]⟩ mlt)
 conv=>cbv
 rcases bb:Ae cb ri5 rh5 6 with⟨d8,ri8,rh8⟩
 have zr8:=Ah bb (by omega)
 refine .bx [0] [] hP (Bq hcb (by omega) bb) rfl rfl rfl rfl ?_
 conv=>cbv
 refine .eql (fun h9=>?_) fun h9=>?_
 conv=>cbv
 rcases ap:Ae cb ri8 rh8 4 with⟨d11,ri11,rh11⟩
 have zr11:=Ah ap (by omega)
 refine .bx [0] [] hP (Bq hcb (by omega) ap) rfl rfl rfl rfl ?_
 conv=>cbv
 generalize be:Bm d11=dp
 have zr12:=Px be
 refine .dd hP (Ss be) ?_
 conv=>cbv
 rcases af:E8 cb ri11 rh11 (⟨a6,a7,a8,ba,ad,ae⟩:Aa) dp (tx [104,97,108,102])with⟨⟨d14nod,d14ent,d14old,d14ste,d14roo,d14nex⟩,ri14,rh14⟩
 generalize bm:d14nod.map B3=xd14nod
 generalize bn:d14ent.map Ad=xd14ent
 generalize bo:d14old.map Ad=xd14old
 generalize bp:d14ste.map cS=xd14ste
 obtain⟨nd14nod,hnd14nod⟩:∃m,m=d14nod.length:=⟨_,rfl⟩
 obtain⟨nd14ent,hnd14ent⟩:∃m,m=d14ent.length:=⟨_,rfl⟩
 obtain⟨nd14old,hnd14old⟩:∃m,m=d14old.length:=⟨_,rfl⟩
 obtain⟨nd14ste,hnd14ste⟩:∃m,m=d14ste.length:=⟨_,rfl⟩
 have zr14:=H1 af (by omega) hE (by omega) (by first|omega|decide)
 refine .bxL [0] [16,17,18,19] (.same (.agg1 (.ref rfl (Ag ag) (.ref rfl (Ag ah) (.ref rfl (Ag ai) (.ref rfl (Ag aj) (.d rfl (.d rfl .nil)))))) (.same (.same .nil)))) hP (Q2 hcb ag ah ai aj (by omega) hE (by omega) (by first|omega|decide) (by first|omega|decide) bm bn bo bp af hnd14nod hnd14ent hnd14old hnd14ste) rfl rfl rfl rfl ?_
 conv=>cbv
 have e:((⟨d14nod,d14ent,d14old,d14ste,d14roo,d14nex⟩:Aa),ri14,rh14)=Gq cb ci ch:=(by unfold Gq;simp only[bh];rw[hio,show 5 - i6.toNat=(4 - i6.toNat)+1 by omega];simp only[Qr,bf];rw[if_neg (show¬i6<d5 by omega)];simp only[bb];rw[if_pos h9];simp only[ap,be];exact af.symm)
 rw[hr]at e
 simp only[Prod.mk.injEq,Aa.mk.injEq]at e
 obtain⟨⟨rfl,rfl,rfl,rfl,rfl,rfl⟩,rfl,rfl⟩:=e
 obtain rfl:xd14nod=Ej:=by rw[←bm,←Ga]
 obtain rfl:nd14nod=nonod:=by first|omega|(rw[hnonod];simp;done)|(rw[hnonod];simp;omega)
 obtain rfl:xd14ent=Ee:=by rw[←bn,←Gd]
 obtain rfl:nd14ent=noent:=by first|omega|(rw[hnoent];simp;done)|(rw[hnoent];simp;omega)
 obtain rfl:xd14old=Eg:=by rw[←bo,←Gg]
 obtain rfl:nd14old=noold:=by first|omega|(rw[hnoold];simp;done)|(rw[hnoold];simp;omega)
 obtain rfl:xd14ste=Ek:=by rw[←bp,←F5]
 obtain rfl:nd14ste=noste:=by first|omega|(rw[hnoste];simp;done)|(rw[hnoste];simp;omega)
 exact hQ _ _ (.of [20,21,22,23] (.inl rfl) rfl rfl rfl rfl)
 conv=>cbv
 refine .eql (fun h10=>?_) fun h10=>?_
 conv=>cbv
 rcases be:Ae cb ri8 rh8 9 with⟨d12,ri12,rh12⟩
 have zr12:=Ah be (by omega)
 refine .bx [0] [] hP (Bq hcb (by omega) be) rfl rfl rfl rfl ?_
 conv=>cbv
 refine .add fun dq dg=>?_
 conv=>cbv
 generalize af:Af dq=dr
 have zr14:=Dx af
 refine .dd hP (E6 af) ?_
 conv=>cbv
 rcases aq:Is cb ri12 rh12 with⟨d16,ri16,rh16⟩
 have zr16:=Yj aq (by omega)
 refine .bx [0] [] hP (Xhu hcb (by omega) aq) rfl rfl rfl rfl ?_
 conv=>cbv
 rcases co:E8 cb ri16 rh16 (⟨a6,a7,a8,ba,ad,ae⟩:Aa) dr d16 with⟨⟨d18nod,d18ent,d18old,d18ste,d18roo,d18nex⟩,ri18,rh18⟩
 generalize bq:d18nod.map B3=xd18nod
 generalize bt:d18ent.map Ad=xd18ent
 generalize bu:d18old.map Ad=xd18old
 generalize bv:d18ste.map cS=xd18ste
 obtain⟨nd18nod,hnd18nod⟩:∃m,m=d18nod.length:=⟨_,rfl⟩
 obtain⟨nd18ent,hnd18ent⟩:∃m,m=d18ent.length:=⟨_,rfl⟩
 obtain⟨nd18old,hnd18old⟩:∃m,m=d18old.length:=⟨_,rfl⟩
 obtain⟨nd18ste,hnd18ste⟩:∃m,m=d18ste.length:=⟨_,rfl⟩
 have zr18:=H1 co (by omega) hE (by omega) (by first|omega|decide)
 refine .bxL [0] [16,17,18,19] (.same (.agg1 (.ref rfl (Ag ag) (.ref rfl (Ag ah) (.ref rfl (Ag ai) (.ref rfl (Ag aj) (.d rfl (.d rfl .nil)))))) (.same (.same .nil)))) hP (Q2 hcb ag ah ai aj (by omega) hE (by omega) (by first|omega|decide) (by first|omega|decide) bq bt bu bv co hnd18nod hnd18ent hnd18old hnd18ste) rfl rfl rfl rfl ?_
 conv=>cbv
 have e:((⟨d18nod,d18ent,d18old,d18ste,d18roo,d18nex⟩:Aa),ri18,rh18)=Gq cb ci ch:=(by unfold Gq;simp only[bh];rw[hio,show 5 - i6.toNat=(4 - i6.toNat)+1 by omega];simp only[Qr,bf];rw[if_neg (show¬i6<d5 by omega)];simp only[bb];rw[if_neg h9,if_pos h10];simp only[be,←dg,af,aq];exact co.symm)
 rw[hr]at e
 simp only[Prod.mk.injEq,Aa.mk.injEq]at e
 obtain⟨⟨rfl,rfl,rfl,rfl,rfl,rfl⟩,rfl,rfl⟩:=e
 obtain rfl:xd18nod=Ej:=by rw[←bq,←Ga]
 obtain rfl:nd18nod=nonod:=by first|omega|(rw[hnonod];simp;done)|(rw[hnonod];simp;omega)
 obtain rfl:xd18ent=Ee:=by rw[←bt,←Gd]
 obtain rfl:nd18ent=noent:=by first|omega|(rw[hnoent];simp;done)|(rw[hnoent];simp;omega)
 obtain rfl:xd18old=Eg:=by rw[←bu,←Gg]
 obtain rfl:nd18old=noold:=by first|omega|(rw[hnoold];simp;done)|(rw[hnoold];simp;omega)
 obtain rfl:xd18ste=Ek:=by rw[←bv,←F5]
 obtain rfl:nd18ste=noste:=by first|omega|(rw[hnoste];simp;done)|(rw[hnoste];simp;omega)
 exact hQ _ _ (.of [20,21,22,23] (.inl rfl) rfl rfl rfl rfl)
 conv=>cbv
 refine .eql (fun h11=>?_) fun h11=>?_
 conv=>cbv
 rcases cp:E8 cb ri8 rh8 (⟨a6,a7,a8,ba,ad,ae⟩:Aa) (tx [114,101,97,100,109,101]) (tx [115,111,109,101,32,116,101,120,116])with⟨⟨d13nod,d13ent,d13old,d13ste,d13roo,d13nex⟩,ri13,rh13⟩
 generalize bw:d13nod.map B3=xd13nod
 generalize bz:d13ent.map Ad=xd13ent
 generalize b0:d13old.map Ad=xd13old
 generalize b2:d13ste.map cS=xd13ste
 obtain⟨nd13nod,hnd13nod⟩:∃m,m=d13nod.length:=⟨_,rfl⟩
 obtain⟨nd13ent,hnd13ent⟩:∃m,m=d13ent.length:=⟨_,rfl⟩
 obtain⟨nd13old,hnd13old⟩:∃m,m=d13old.length:=⟨_,rfl⟩
 obtain⟨nd13ste,hnd13ste⟩:∃m,m=d13ste.length:=⟨_,rfl⟩
 have zr13:=H1 cp (by omega) hE (by omega) (by first|omega|decide)
 refine .bxL [0] [16,17,18,19] (.same (.agg1 (.ref rfl (Ag ag) (.ref rfl (Ag ah) (.ref rfl (Ag ai) (.ref rfl (Ag aj) (.d rfl (.d rfl .nil)))))) (.same (.same .nil)))) hP (Q2 hcb ag ah ai aj (by omega) hE (by omega) (by first|omega|decide) (by first|omega|decide) bw bz b0 b2 cp hnd13nod hnd13ent hnd13old hnd13ste) rfl rfl rfl rfl ?_
 conv=>cbv
 have e:((⟨d13nod,d13ent,d13old,d13ste,d13roo,d13nex⟩:Aa),ri13,rh13)=Gq cb ci ch:=(by unfold Gq;simp only[bh];rw[hio,show 5 - i6.toNat=(4 - i6.toNat)+1 by omega];simp only[Qr,bf];rw[if_neg (show¬i6<d5 by omega)];simp only[bb];rw[if_neg h9,if_neg h10,if_pos h11];exact cp.symm)
 rw[hr]at e
 simp only[Prod.mk.injEq,Aa.mk.injEq]at e
 obtain⟨⟨rfl,rfl,rfl,rfl,rfl,rfl⟩,rfl,rfl⟩:=e
 obtain rfl:xd13nod=Ej:=by rw[←bw,←Ga]
 obtain rfl:nd13nod=nonod:=by first|omega|(rw[hnonod];simp;done)|(rw[hnonod];simp;omega)
 obtain rfl:xd13ent=Ee:=by rw[←bz,←Gd]
 obtain rfl:nd13ent=noent:=by first|omega|(rw[hnoent];simp;done)|(rw[hnoent];simp;omega)
 obtain rfl:xd13old=Eg:=by rw[←b0,←Gg]
 obtain rfl:nd13old=noold:=by first|omega|(rw[hnoold];simp;done)|(rw[hnoold];simp;omega)
 obtain rfl:xd13ste=Ek:=by rw[←b2,←F5]
 obtain rfl:nd13ste=noste:=by first|omega|(rw[hnoste];simp;done)|(rw[hnoste];simp;omega)
 exact hQ _ _ (.of [20,21,22,23] (.inl rfl) rfl rfl rfl rfl)
 conv=>cbv
 have e:((⟨a6,a7,a8,ba,ad,ae⟩:Aa),ri8,rh8)=Gq cb ci ch:=(by unfold Gq;simp only[bh];rw[hio,show 5 - i6.toNat=(4 - i6.toNat)+1 by omega];simp only[Qr,bf];rw[if_neg (show¬i6<d5 by omega)];simp only[bb];rw[if_neg h9,if_neg h10,if_neg h11])
 rw[hr]at e
 simp only[Prod.mk.injEq,Aa.mk.injEq]at e
 obtain⟨⟨rfl,rfl,rfl,rfl,rfl,rfl⟩,rfl,rfl⟩:=e
 obtain rfl:ar=Ej:=by rw[←ag,←Ga]
 obtain rfl:au=nonod:=by first|omega|(rw[hnonod];simp;done)|(rw[hnonod];simp;omega)
 obtain rfl:aw=Ee:=by rw[←ah,←Gd]
 obtain rfl:ax=noent:=by first|omega|(rw[hnoent];simp;done)|(rw[hnoent];simp;omega)
 obtain rfl:ay=Eg:=by rw[←ai,←Gg]
 obtain rfl:az=noold:=by first|omega|(rw[hnoold];simp;done)|(rw[hnoold];simp;omega)
 obtain rfl:a1=Ek:=by rw[←aj,←F5]
 obtain rfl:a2=noste:=by first|omega|(rw[hnoste];simp;done)|(rw[hnoste];simp;omega)
 exact hQ _ _ (.of [16,17,18,19] (.inl rfl) rfl rfl rfl rfl)
end
section
open Go Go.Proofs
set_option maxRecDepth 20000
set_option maxHeartbeats 4000000
def XdW:List (Nat×TyRow):=[ty3,ty9,XkD,Xfz,We,Z1,Xal,Xlm,XaA,Wn]
theorem Xc6:Bl Tryz.prog XdW:=Bl.of (by kernel_rfl)
theorem XcL:Setup Tryz.prog XdW:=⟨Xc6,mixed⟩
variable {cb:List UInt8} {xcb Ej Ee Eg Ek:List (List D)} {ci ch oroo onex oi oh:Int} {onod:List Cj} {oent oold:List Ac} {oste:List ByteArray} {nonod noent noold noste:Nat}
theorem XgT(hcb:cb.map cB=xcb)(hc:0≤ci∧ci≤cb.length∧cb.length≤1000000000000)(Ga:onod.map B3=Ej)(Gd:oent.map Ad=Ee)(Gg:oold.map Ad=Eg)(F5:oste.map cS=Ek)(hr:G3 cb ci ch=(⟨onod,oent,oold,oste,oroo,onex⟩,oi,oh))(hnonod:nonod=onod.length)(hnoent:noent=oent.length)(hnoold:noold=oold.length)(hnoste:noste=oste.length):Fn Tryz.prog 173 [.ptr 0 0 0] [.box 140 [.d (.row 1 xcb),I ci,I ch]] ⟨.agg [.ref 1 0 nonod,.ref 2 0 noent,.ref 3 0 noold,.ref 4 0 noste,I oroo,I onex],[.row 3 false Ej,.row 2 false Ee,.row 2 false Eg,.row 1 false Ek],[(0,.box 140 [.d (.row 1 xcb),I oi,I oh])]⟩:=by
 refine Fn.goR XcL Tryz.func173 fun P hP Q hQ=>?_
 conv=>cbv
 rcases dz:Bn cb ci ch [4000,4000,4000,300,100]with⟨d2,ri2,rh2⟩
 have zr2:=C5 dz (by omega)
 refine .bxL [0] [6] (.same (.ref rfl rfl .nil)) hP (Hn hcb rfl (by omega) (by decide) dz) rfl rfl rfl rfl ?_
 conv=>cbv
 rcases ek:Gj d2 with⟨c6,c7,c8,c9,eo,ep⟩
 generalize db:c6.map B3=ef
 generalize dc:c7.map Ad=eg
 generalize de:c8.map Ad=eh
 generalize df:c9.map cS=ei
 obtain⟨nr3nod,hnr3nod⟩:∃m,m=c6.length:=⟨_,rfl⟩
 obtain⟨nr3ent,hnr3ent⟩:∃m,m=c7.length:=⟨_,rfl⟩
 obtain⟨nr3old,hnr3old⟩:∃m,m=c8.length:=⟨_,rfl⟩
 obtain⟨nr3ste,hnr3ste⟩:∃m,m=c9.length:=⟨_,rfl⟩
 have g3:=Us d2
 rw[ek]at g3
 refine .ddN hP (Xq ek db dc de df hnr3nod hnr3ent hnr3old hnr3ste) rfl ?_
 conv=>cbv
 refine LoopW.lp (κ:=Int×Int×Int×Int×Int×(List (List D))×Nat×(List (List D))×Nat×(List (List D))×Nat×(List (List D))×Nat) XcL hP [7,8,9,10] [0,2,3] (fun(i4,ct,da,ai,aj,bp,bq,bt,bu,bv,bw,bz,b0)=>[(4,I i4)]) (fun(i4,ct,da,ai,aj,bp,bq,bt,bu,bv,bw,bz,b0)=>[(0,.box 140 [.d (.row 1 xcb),I ct,I da]),(15,.box 28 [.ref 16 0 bq,.ref 17 0 bu,.ref 18 0 bw,.ref 19 0 b0,I ai,I aj]),(16,.row 3 false bp),(17,.row 2 false bt),(18,.row 2 false bv),(19,.row 1 false bz)])
  (fun(i4,ct,da,ai,aj,bp,bq,bt,bu,bv,bw,bz,b0)=>∃(aq:List Cj) (ar:List Ac) (au:List Ac) (aw:List ByteArray),aq.map B3=bp∧bq=aq.length∧ar.map Ad=bt∧bu=ar.length∧au.map Ad=bv∧bw=au.length∧aw.map cS=bz∧b0=aw.length∧0≤i4∧i4≤8∧(0≤ct∧ct≤cb.length)∧okE (2*i4.toNat) (⟨aq,ar,au,aw,ai,aj⟩:Aa)∧G3 cb ci ch=Xan cb (9 - i4.toNat) i4 ct da (⟨aq,ar,au,aw,ai,aj⟩:Aa))
  (fun(i4,ct,da,ai,aj,bp,bq,bt,bu,bv,bw,bz,b0)=>(8 - i4).toNat) (0,ri2,rh2,eo,ep,ef,nr3nod,eg,nr3ent,eh,nr3old,ei,nr3ste) ⟨c6,c7,c8,c9,db,(by first|omega|(simp;omega)),dc,(by first|omega|(simp;omega)),de,(by first|omega|(simp;omega)),df,(by first|omega|(simp;omega)),by omega,by omega,by omega,g3,by unfold G3;rw[dz];exact congrArg (Xan cb 9 0 ri2 rh2) ek⟩ ⟨rfl,trivial⟩ rfl ?_
 rintro⟨i4,ct,da,ai,aj,bp,bq,bt,bu,bv,bw,bz,b0⟩ J ⟨aq,ar,au,aw,ak,e3,al,e4,am,e5,an,e6,h0,h1,hcu,hE,hio⟩ hJ
 conv=>cbv
 rcases bo:Ae cb ct da 9 with⟨d5,ri5,rh5⟩
 have zr5:=Ah bo (by omega)
 refine .bx [0] [] hP (Bq hcb (by omega) bo) rfl rfl rfl rfl ?_
 conv=>cbv
 refine .lss (fun h6=>?_) fun h6=>?_
 conv=>cbv
 rcases b2:E5 cb ri5 rh5 [(tx [97]),(tx [98]),(tx [115,48,48,48,48,48,48,48,48,46,115,101,103]),(tx [115,48,48,48,48,48,48,48,51,46,115,101,103]),(tx [115,48,48,48,48,48,48,48,48,46,115,101,103,46,116,109,112]),(tx [99])]with⟨d8,ri8,rh8⟩
 have zr8:=Hh (n:=100) b2 (by omega) (by decide)
 refine .bxL [0] [20] (.same (.ref rfl rfl .nil)) hP (P4 hcb rfl (by omega) (by decide) b2) rfl rfl rfl rfl ?_
 conv=>cbv
 rcases ax:Ae cb ri8 rh8 8 with⟨d10,ri10,rh10⟩
 have zr10:=Ah ax (by omega)
 refine .bx [0] [] hP (Bq hcb (by omega) ax) rfl rfl rfl rfl ?_
 conv=>cbv
 refine .eql (fun h11=>?_) fun h11=>?_
 conv=>cbv
 rcases d0:B5 (⟨aq,ar,au,aw,ai,aj⟩:Aa) d8 with⟨⟨b3,b4,b5,b6,cy,cz⟩,e7⟩
 generalize a7:b3.map B3=di
 generalize a8:b4.map Ad=dj
 generalize ba:b5.map Ad=dk
 generalize bb:b6.map cS=dl
 obtain⟨nr12anod,hnr12anod⟩:∃m,m=b3.length:=⟨_,rfl⟩
 obtain⟨nr12aent,hnr12aent⟩:∃m,m=b4.length:=⟨_,rfl⟩
 obtain⟨nr12aold,hnr12aold⟩:∃m,m=b5.length:=⟨_,rfl⟩
 obtain⟨nr12aste,hnr12aste⟩:∃m,m=b6.length:=⟨_,rfl⟩
 have g12:=hE.of (Qf (name:=d8) hE.1 (okE.st hE (by omega)) (by omega)) T6
 rw[d0]at g12
 try simp only[]at g12
 refine .lntN hP (Rl ak al am an hE.1.1.1 hE.1.1.2.2.1 hE.1.1.2.2.2.2.1 (okE.st hE (by omega)) hE.1.2.2 hE.1 (by omega) d0 a7 a8 ba bb hnr12anod hnr12aent hnr12aold hnr12aste) (.agg (.ref rfl (Ag ak) (.ref rfl (Ag al) (.ref rfl (Ag am) (.ref rfl (Ag an) (.d rfl (.d rfl .nil)))))) (.d rfl .nil)) rfl rfl rfl (by simp only[List.all_cons,List.all_nil,Bool.and_self,Aq (fun _=>rfl) a7,Aq (fun _=>rfl) a8,Aq (fun _=>rfl) ba,Aq (fun _=>rfl) bb]) ?_
 conv=>cbv
 refine .add fun er es=>?_
 conv=>cbv
 have hst:Gr cb ri5 rh5 (⟨aq,ar,au,aw,ai,aj⟩:Aa)=((⟨b3,b4,b5,b6,cy,cz⟩:Aa),ri10,rh10):=by unfold Gr nmA;simp only[b2,ax];rw[if_pos h11];simp only[d0]
 exact .go [21,22,23,24] (er,ri10,rh10,cy,cz,di,nr12anod,dj,nr12aent,dk,nr12aold,dl,nr12aste) (hJ _ ⟨_,_,_,_,a7,Cv,a8,Cv,ba,Cv,bb,Cv,by omega,by omega,by omega,g12.up (by omega),by rw[hio,show 9 - i4.toNat=(9 - er.toNat)+1 by omega,es];simp only[Xan,bo,hst];rw[if_pos (by omega)]⟩ mlt)
 conv=>cbv
 refine .eql (fun h12=>?_) fun h12=>?_
 conv=>cbv
 rcases d1:C9 (⟨aq,ar,au,aw,ai,aj⟩:Aa)with⟨cu,cv,cw,cx,dg,dh⟩
 generalize b7:cu.map B3=d3
 generalize b8:cv.map Ad=d4
 generalize b9:cw.map Ad=d6
 generalize ca:cx.map cS=d7
 obtain⟨nr13nod,hnr13nod⟩:∃m,m=cu.length:=⟨_,rfl⟩
 obtain⟨nr13ent,hnr13ent⟩:∃m,m=cv.length:=⟨_,rfl⟩
 obtain⟨nr13old,hnr13old⟩:∃m,m=cw.length:=⟨_,rfl⟩
 obtain⟨nr13ste,hnr13ste⟩:∃m,m=cx.length:=⟨_,rfl⟩
 have g13:=hE.of (Qn hE.1) V1
 rw[d1]at g13
 try simp only[]at g13
 refine .lntN hP (M8 ak al am an hE.1.1.1 hE.1.1.2.2.1 hE.1.1.2.2.2.2.1 (okE.st hE (by omega)) hE.1.2.2 hE.1 d1 b7 b8 b9 ca hnr13nod hnr13ent hnr13old hnr13ste) (.agg (.ref rfl (Ag ak) (.ref rfl (Ag al) (.ref rfl (Ag am) (.ref rfl (Ag an) (.d rfl (.d rfl .nil)))))) .nil) rfl rfl rfl (by simp only[List.all_cons,List.all_nil,Bool.and_self,Aq (fun _=>rfl) b7,Aq (fun _=>rfl) b8,Aq (fun _=>rfl) b9,Aq (fun _=>rfl) ca]) ?_
 conv=>cbv
 refine .add fun et eu=>?_
 conv=>cbv
 have hst:Gr cb ri5 rh5 (⟨aq,ar,au,aw,ai,aj⟩:Aa)=((⟨cu,cv,cw,cx,dg,dh⟩:Aa),ri10,rh10):=by unfold Gr nmA;simp only[b2,ax];rw[if_neg h11,if_pos h12];simp only[d1]
 exact .go [21,22,23,24] (et,ri10,rh10,dg,dh,d3,nr13nod,d4,nr13ent,d6,nr13old,d7,nr13ste) (hJ _ ⟨_,_,_,_,b7,Cv,b8,Cv,b9,Cv,ca,Cv,by omega,by omega,by omega,g13.up (by omega),by rw[hio,show 9 - i4.toNat=(9 - et.toNat)+1 by omega,eu];simp only[Xan,bo,hst];rw[if_pos (by omega)]⟩ mlt)
 conv=>cbv
 refine .eql (fun h13=>?_) fun h13=>?_
 conv=>cbv
 rcases d9:C8 (⟨aq,ar,au,aw,ai,aj⟩:Aa) d8 with⟨⟨cc,cd,ce,cf,c0,c1⟩,e8⟩
 generalize bc:cc.map B3=dm
 generalize bd:cd.map Ad=dn
 generalize be:ce.map Ad=dp
 generalize bf:cf.map cS=dq
 obtain⟨nr14anod,hnr14anod⟩:∃m,m=cc.length:=⟨_,rfl⟩
 obtain⟨nr14aent,hnr14aent⟩:∃m,m=cd.length:=⟨_,rfl⟩
 obtain⟨nr14aold,hnr14aold⟩:∃m,m=ce.length:=⟨_,rfl⟩
 obtain⟨nr14aste,hnr14aste⟩:∃m,m=cf.length:=⟨_,rfl⟩
 have g14:=hE.of (Zb (name:=d8) hE.1) XeA
 rw[d9]at g14
 try simp only[]at g14
 refine .lntN hP (U0 ak al am an hE.1.1.1 hE.1.1.2.2.1 hE.1.1.2.2.2.2.1 (okE.st hE (by omega)) hE.1.2.2 hE.1 d9 bc bd be bf hnr14anod hnr14aent hnr14aold hnr14aste) (.agg (.ref rfl (Ag ak) (.ref rfl (Ag al) (.ref rfl (Ag am) (.ref rfl (Ag an) (.d rfl (.d rfl .nil)))))) (.d rfl .nil)) rfl rfl rfl (by simp only[List.all_cons,List.all_nil,Bool.and_self,Aq (fun _=>rfl) bc,Aq (fun _=>rfl) bd,Aq (fun _=>rfl) be,Aq (fun _=>rfl) bf]) ?_
 conv=>cbv
 refine .add fun ew ex=>?_
 conv=>cbv
 have hst:Gr cb ri5 rh5 (⟨aq,ar,au,aw,ai,aj⟩:Aa)=((⟨cc,cd,ce,cf,c0,c1⟩:Aa),ri10,rh10):=by unfold Gr nmA;simp only[b2,ax];rw[if_neg h11,if_neg h12,if_pos h13];simp only[d9]
 exact .go [21,22,23,24] (ew,ri10,rh10,c0,c1,dm,nr14anod,dn,nr14aent,dp,nr14aold,dq,nr14aste) (hJ _ ⟨_,_,_,_,bc,Cv,bd,Cv,be,Cv,bf,Cv,by omega,by omega,by omega,g14.up (by omega),by rw[hio,show 9 - i4.toNat=(9 - ew.toNat)+1 by omega,ex];simp only[Xan,bo,hst];rw[if_pos (by omega)]⟩ mlt)
 conv=>cbv
 refine .eql (fun h14=>?_) fun h14=>?_
 conv=>cbv
 rcases cg:E5 cb ri10 rh10 [(tx [98]),(tx [120]),(tx [115,48,48,48,48,48,48,48,51,46,115,101,103])]with⟨d16,ri16,rh16⟩
 have zr16:=Hh (n:=100) cg (by omega) (by decide)
 refine .bxL [0] [21] (.same (.ref rfl rfl .nil)) hP (P4 hcb rfl (by omega) (by decide) cg) rfl rfl rfl rfl ?_
 conv=>cbv
 rcases ay:Cg (⟨aq,ar,au,aw,ai,aj⟩:Aa) d8 d16 with⟨⟨ae,af,ag,ah,ao,ap⟩,ej⟩
 generalize aa:ae.map B3=az
 generalize ab:af.map Ad=a1
 generalize ac:ag.map Ad=a2
 generalize ad:ah.map cS=a6
 obtain⟨nr17anod,hnr17anod⟩:∃m,m=ae.length:=⟨_,rfl⟩
 obtain⟨nr17aent,hnr17aent⟩:∃m,m=af.length:=⟨_,rfl⟩
 obtain⟨nr17aold,hnr17aold⟩:∃m,m=ag.length:=⟨_,rfl⟩
 obtain⟨nr17aste,hnr17aste⟩:∃m,m=ah.length:=⟨_,rfl⟩
 have g17:=hE.of (Xau (a:=d8) (b:=d16) hE.1 (okE.st hE (by omega)) (by omega) (by omega)) Xd2
 rw[ay]at g17
 try simp only[]at g17
 refine .lntN hP (Z0 ak al am an hE.1.1.1 hE.1.1.2.2.1 hE.1.1.2.2.2.2.1 (okE.st hE (by omega)) hE.1.2.2 hE.1 (by omega) ay aa ab ac ad hnr17anod hnr17aent hnr17aold hnr17aste) (.agg (.ref rfl (Ag ak) (.ref rfl (Ag al) (.ref rfl (Ag am) (.ref rfl (Ag an) (.d rfl (.d rfl .nil)))))) (.d rfl (.d rfl .nil))) rfl rfl rfl (by simp only[List.all_cons,List.all_nil,Bool.and_self,Aq (fun _=>rfl) aa,Aq (fun _=>rfl) ab,Aq (fun _=>rfl) ac,Aq (fun _=>rfl) ad]) ?_
 conv=>cbv
 refine .add fun ea eb=>?_
 conv=>cbv
 have hst:Gr cb ri5 rh5 (⟨aq,ar,au,aw,ai,aj⟩:Aa)=((⟨ae,af,ag,ah,ao,ap⟩:Aa),ri16,rh16):=by unfold Gr nmA nmB;simp only[b2,ax];rw[if_neg h11,if_neg h12,if_neg h13,if_pos h14];simp only[dz,bo,b2,ax,cg,ay]
 exact .go [22,23,24,25] (ea,ri16,rh16,ao,ap,az,nr17anod,a1,nr17aent,a2,nr17aold,a6,nr17aste) (hJ _ ⟨_,_,_,_,aa,Cv,ab,Cv,ac,Cv,ad,Cv,by omega,by omega,by omega,g17.up (by omega),by rw[hio,show 9 - i4.toNat=(9 - ea.toNat)+1 by omega,eb];simp only[Xan,bo,hst];rw[if_pos (by omega)]⟩ mlt)
 conv=>cbv
 refine .eql (fun h15=>?_) fun h15=>?_
 conv=>cbv
 rcases cg:Aw (⟨aq,ar,au,aw,ai,aj⟩:Aa) d8 with⟨⟨cj,ck,cm,cn,c2,c3⟩,e9⟩
 generalize bg:cj.map B3=dr
 generalize bh:ck.map Ad=ds
 generalize bi:cm.map Ad=dt
 generalize bj:cn.map cS=du
 obtain⟨nr16anod,hnr16anod⟩:∃m,m=cj.length:=⟨_,rfl⟩
 obtain⟨nr16aent,hnr16aent⟩:∃m,m=ck.length:=⟨_,rfl⟩
 obtain⟨nr16aold,hnr16aold⟩:∃m,m=cm.length:=⟨_,rfl⟩
 obtain⟨nr16aste,hnr16aste⟩:∃m,m=cn.length:=⟨_,rfl⟩
 have g16:=hE.of (J9 (name:=d8) hE.1 (okE.st hE (by omega)) (by omega)) Mn
 rw[cg]at g16
 try simp only[]at g16
 refine .lntN hP (Jk ak al am an hE.1.1.1 hE.1.1.2.2.1 hE.1.1.2.2.2.2.1 (okE.st hE (by omega)) hE.1.2.2 hE.1 (by omega) cg bg bh bi bj hnr16anod hnr16aent hnr16aold hnr16aste) (.agg (.ref rfl (Ag ak) (.ref rfl (Ag al) (.ref rfl (Ag am) (.ref rfl (Ag an) (.d rfl (.d rfl .nil)))))) (.d rfl .nil)) rfl rfl rfl (by simp only[List.all_cons,List.all_nil,Bool.and_self,Aq (fun _=>rfl) bg,Aq (fun _=>rfl) bh,Aq (fun _=>rfl) bi,Aq (fun _=>rfl) bj]) ?_
 conv=>cbv
 refine .add fun ey e0=>?_
 conv=>cbv
 have hst:Gr cb ri5 rh5 (⟨aq,ar,au,aw,ai,aj⟩:Aa)=((⟨cj,ck,cm,cn,c2,c3⟩:Aa),ri10,rh10):=by unfold Gr nmA;simp only[b2,ax];rw[if_neg h11,if_neg h12,if_neg h13,if_neg h14,if_pos (.inl h15)];simp only[cg]
 exact .go [21,22,23,24] (ey,ri10,rh10,c2,c3,dr,nr16anod,ds,nr16aent,dt,nr16aold,du,nr16aste) (hJ _ ⟨_,_,_,_,bg,Cv,bh,Cv,bi,Cv,bj,Cv,by omega,by omega,by omega,g16.up (by omega),by rw[hio,show 9 - i4.toNat=(9 - ey.toNat)+1 by omega,e0];simp only[Xan,bo,hst];rw[if_pos (by omega)]⟩ mlt)
 conv=>cbv
 refine .eql (fun h16=>?_) fun h16=>?_
 conv=>cbv
 rcases ay:Aw (⟨aq,ar,au,aw,ai,aj⟩:Aa) d8 with⟨⟨ae,af,ag,ah,ao,ap⟩,ej⟩
 generalize aa:ae.map B3=az
 generalize ab:af.map Ad=a1
 generalize ac:ag.map Ad=a2
 generalize ad:ah.map cS=a6
 obtain⟨nr17anod,hnr17anod⟩:∃m,m=ae.length:=⟨_,rfl⟩
 obtain⟨nr17aent,hnr17aent⟩:∃m,m=af.length:=⟨_,rfl⟩
 obtain⟨nr17aold,hnr17aold⟩:∃m,m=ag.length:=⟨_,rfl⟩
 obtain⟨nr17aste,hnr17aste⟩:∃m,m=ah.length:=⟨_,rfl⟩
 have g17:=hE.of (J9 (name:=d8) hE.1 (okE.st hE (by omega)) (by omega)) Mn
 rw[ay]at g17
 try simp only[]at g17
 refine .lntN hP (Jk ak al am an hE.1.1.1 hE.1.1.2.2.1 hE.1.1.2.2.2.2.1 (okE.st hE (by omega)) hE.1.2.2 hE.1 (by omega) ay aa ab ac ad hnr17anod hnr17aent hnr17aold hnr17aste) (.agg (.ref rfl (Ag ak) (.ref rfl (Ag al) (.ref rfl (Ag am) (.ref rfl (Ag an) (.d rfl (.d rfl .nil)))))) (.d rfl .nil)) rfl rfl rfl (by simp only[List.all_cons,List.all_nil,Bool.and_self,Aq (fun _=>rfl) aa,Aq (fun _=>rfl) ab,Aq (fun _=>rfl) ac,Aq (fun _=>rfl) ad]) ?_
 conv=>cbv
 refine .add fun ea eb=>?_
 conv=>cbv
 have hst:Gr cb ri5 rh5 (⟨aq,ar,au,aw,ai,aj⟩:Aa)=((⟨ae,af,ag,ah,ao,ap⟩:Aa),ri10,rh10):=by unfold Gr nmA;simp only[b2,ax];rw[if_neg h11,if_neg h12,if_neg h13,if_neg h14,if_pos (.inr h16)];simp only[ay]
 exact .go [21,22,23,24] (ea,ri10,rh10,ao,ap,az,nr17anod,a1,nr17aent,a2,nr17aold,a6,nr17aste) (hJ _ ⟨_,_,_,_,aa,Cv,ab,Cv,ac,Cv,ad,Cv,by omega,by omega,by omega,g17.up (by omega),by rw[hio,show 9 - i4.toNat=(9 - ea.toNat)+1 by omega,eb];simp only[Xan,bo,hst];rw[if_pos (by omega)]⟩ mlt)
 conv=>cbv
 rcases ay:Aw (⟨aq,ar,au,aw,ai,aj⟩:Aa) d8 with⟨⟨ae,af,ag,ah,ao,ap⟩,ej⟩
 generalize aa:ae.map B3=az
 generalize ab:af.map Ad=a1
 generalize ac:ag.map Ad=a2
 generalize ad:ah.map cS=a6
 obtain⟨nr17anod,hnr17anod⟩:∃m,m=ae.length:=⟨_,rfl⟩
 obtain⟨nr17aent,hnr17aent⟩:∃m,m=af.length:=⟨_,rfl⟩
 obtain⟨nr17aold,hnr17aold⟩:∃m,m=ag.length:=⟨_,rfl⟩
 obtain⟨nr17aste,hnr17aste⟩:∃m,m=ah.length:=⟨_,rfl⟩
 have g17:=hE.of (J9 (name:=d8) hE.1 (okE.st hE (by omega)) (by omega)) Mn
 rw[ay]at g17
 try simp only[]at g17
 refine .lntN hP (Jk ak al am an hE.1.1.1 hE.1.1.2.2.1 hE.1.1.2.2.2.2.1 (okE.st hE (by omega)) hE.1.2.2 hE.1 (by omega) ay aa ab ac ad hnr17anod hnr17aent hnr17aold hnr17aste) (.agg (.ref rfl (Ag ak) (.ref rfl (Ag al) (.ref rfl (Ag am) (.ref rfl (Ag an) (.d rfl (.d rfl .nil)))))) (.d rfl .nil)) rfl rfl rfl (by simp only[List.all_cons,List.all_nil,Bool.and_self,Aq (fun _=>rfl) aa,Aq (fun _=>rfl) ab,Aq (fun _=>rfl) ac,Aq (fun _=>rfl) ad]) ?_
 conv=>cbv
 rcases ec:Ae cb ri10 rh10 12 with⟨d19,ri19,rh19⟩
 have zr19:=Ah ec (by omega)
 refine .bx [0] [] hP (Bq hcb (by omega) ec) rfl rfl rfl rfl ?_
 conv=>cbv
 rcases ed:Dp cb ri19 rh19 d19 with⟨d21,ri21,rh21⟩
 have zr21:=F0 ed (by omega)
 refine .bx [0] [] hP (M5 hcb (by omega) ed) rfl rfl rfl rfl ?_
 conv=>cbv
 rcases ee:Be (⟨ae,af,ag,ah,ao,ap⟩:Aa) d8 d21 with⟨⟨co,cp,cq,cr,c4,c5⟩,fa⟩
 generalize bk:co.map B3=dv
 generalize bl:cp.map Ad=dw
 generalize bm:cq.map Ad=dx
 generalize bn:cr.map cS=dy
 obtain⟨nr22anod,hnr22anod⟩:∃m,m=co.length:=⟨_,rfl⟩
 obtain⟨nr22aent,hnr22aent⟩:∃m,m=cp.length:=⟨_,rfl⟩
 obtain⟨nr22aold,hnr22aold⟩:∃m,m=cq.length:=⟨_,rfl⟩
 obtain⟨nr22aste,hnr22aste⟩:∃m,m=cr.length:=⟨_,rfl⟩
 have g22:=g17.of (Rh (name:=d8) (text:=d21) g17.1) Tq
 rw[ee]at g22
 try simp only[]at g22
 refine .lntN hP (P8 aa ab ac ad g17.1.1.1 g17.1.1.2.2.1 g17.1.1.2.2.2.2.1 (okE.st g17 (by omega)) g17.1.2.2 g17.1 (by omega) ee bk bl bm bn hnr22anod hnr22aent hnr22aold hnr22aste) (.agg (.ref rfl (Ag aa) (.ref rfl (Ag ab) (.ref rfl (Ag ac) (.ref rfl (Ag ad) (.d rfl (.d rfl .nil)))))) (.d rfl (.d rfl .nil))) rfl rfl rfl (by simp only[List.all_cons,List.all_nil,Bool.and_self,Aq (fun _=>rfl) bk,Aq (fun _=>rfl) bl,Aq (fun _=>rfl) bm,Aq (fun _=>rfl) bn]) ?_
 conv=>cbv
 refine .add fun e1 e2=>?_
 conv=>cbv
 have hst:Gr cb ri5 rh5 (⟨aq,ar,au,aw,ai,aj⟩:Aa)=((⟨co,cp,cq,cr,c4,c5⟩:Aa),ri21,rh21):=by unfold Gr nmA;simp only[b2,ax];rw[if_neg h11,if_neg h12,if_neg h13,if_neg h14,if_neg (by omega)];simp only[dz,bo,b2,ax,ec,ed,ay,ee]
 exact .go [25,26,27,28] (e1,ri21,rh21,c4,c5,dv,nr22anod,dw,nr22aent,dx,nr22aold,dy,nr22aste) (hJ _ ⟨_,_,_,_,bk,Cv,bl,Cv,bm,Cv,bn,Cv,by omega,by omega,by omega,g22.up (by omega),by rw[hio,show 9 - i4.toNat=(9 - e1.toNat)+1 by omega,e2];simp only[Xan,bo,hst];rw[if_pos (by omega)]⟩ mlt)
 conv=>cbv
 have e:((⟨aq,ar,au,aw,ai,aj⟩:Aa),ri5,rh5)=G3 cb ci ch:=(by rw[hio,show 9 - i4.toNat=(8 - i4.toNat)+1 by omega];simp only[Xan,bo];rw[if_neg (by omega)])
 rw[hr]at e
 simp only[Prod.mk.injEq,Aa.mk.injEq]at e
 obtain⟨⟨rfl,rfl,rfl,rfl,rfl,rfl⟩,rfl,rfl⟩:=e
 obtain rfl:bp=Ej:=by rw[←ak,←Ga]
 obtain rfl:bq=nonod:=by first|omega|(rw[hnonod];simp;done)|(rw[hnonod];simp;omega)
 obtain rfl:bt=Ee:=by rw[←al,←Gd]
 obtain rfl:bu=noent:=by first|omega|(rw[hnoent];simp;done)|(rw[hnoent];simp;omega)
 obtain rfl:bv=Eg:=by rw[←am,←Gg]
 obtain rfl:bw=noold:=by first|omega|(rw[hnoold];simp;done)|(rw[hnoold];simp;omega)
 obtain rfl:bz=Ek:=by rw[←an,←F5]
 obtain rfl:b0=noste:=by first|omega|(rw[hnoste];simp;done)|(rw[hnoste];simp;omega)
 exact hQ _ _ (.of [16,17,18,19] (.inl rfl) rfl rfl rfl rfl)
theorem XeM(hcb:cb.map cB=xcb)(hc:0≤ci∧ci≤cb.length∧cb.length≤1000000000000)(Ga:onod.map B3=Ej)(Gd:oent.map Ad=Ee)(Gg:oold.map Ad=Eg)(F5:oste.map cS=Ek)(hr:C3 cb ci ch=(⟨onod,oent,oold,oste,oroo,onex⟩,oi,oh))(hnonod:nonod=onod.length)(hnoent:noent=oent.length)(hnoold:noold=oold.length)(hnoste:noste=oste.length):Fn Tryz.prog 91 [.ptr 0 0 0] [.box 140 [.d (.row 1 xcb),I ci,I ch]] ⟨.agg [.ref 1 0 nonod,.ref 2 0 noent,.ref 3 0 noold,.ref 4 0 noste,I oroo,I onex],[.row 3 false Ej,.row 2 false Ee,.row 2 false Eg,.row 1 false Ek],[(0,.box 140 [.d (.row 1 xcb),I oi,I oh])]⟩:=by
 refine Fn.goR XcL Tryz.func91 fun P hP Q hQ=>?_
 conv=>cbv
 rcases ae:G3 cb ci ch with⟨⟨d2nod,d2ent,d2old,d2ste,d2roo,d2nex⟩,ri2,rh2⟩
 generalize aa:d2nod.map B3=xd2nod
 generalize ab:d2ent.map Ad=xd2ent
 generalize ac:d2old.map Ad=xd2old
 generalize ad:d2ste.map cS=xd2ste
 obtain⟨nd2nod,hnd2nod⟩:∃m,m=d2nod.length:=⟨_,rfl⟩
 obtain⟨nd2ent,hnd2ent⟩:∃m,m=d2ent.length:=⟨_,rfl⟩
 obtain⟨nd2old,hnd2old⟩:∃m,m=d2old.length:=⟨_,rfl⟩
 obtain⟨nd2ste,hnd2ste⟩:∃m,m=d2ste.length:=⟨_,rfl⟩
 have zr2:=W5 ae (by omega)
 refine .bx [0] [] hP (XgT hcb (by omega) aa ab ac ad ae hnd2nod hnd2ent hnd2old hnd2ste) rfl rfl rfl rfl ?_
 conv=>cbv
 rcases af:Ae cb ri2 rh2 16 with⟨d4,ri4,rh4⟩
 have zr4:=Ah af (by omega)
 refine .bx [0] [] hP (Bq hcb (by omega) af) rfl rfl rfl rfl ?_
 conv=>cbv
 have hq:d2ste.length≤18∧d2ent.length≤18∧d2old.length≤18:=zr2.1.2
 refine .eql (fun h5=>?_) fun h5=>?_
 conv=>cbv
 rcases al:Bn cb ri4 rh4 [(-1),0,5,1000000001]with⟨d7,ri7,rh7⟩
 have zr7:=C5 al (by omega)
 refine .bxL [0] [15] (.same (.ref rfl rfl .nil)) hP (Hn hcb rfl (by omega) (by decide) al) rfl rfl rfl rfl ?_
 conv=>cbv
 have e:((⟨d2nod,d2ent,d2old,d2ste,d7,d2nex⟩:Aa),ri7,rh7)=C3 cb ci ch:=(by unfold C3;simp only[ae,af];rw[if_pos h5];simp only[ae,af,al])
 rw[hr]at e
 simp only[Prod.mk.injEq,Aa.mk.injEq]at e
 obtain⟨⟨rfl,rfl,rfl,rfl,rfl,rfl⟩,rfl,rfl⟩:=e
 obtain rfl:xd2nod=Ej:=by rw[←aa,←Ga]
 obtain rfl:nd2nod=nonod:=by first|omega|(rw[hnonod];simp;done)|(rw[hnonod];simp;omega)
 obtain rfl:xd2ent=Ee:=by rw[←ab,←Gd]
 obtain rfl:nd2ent=noent:=by first|omega|(rw[hnoent];simp;done)|(rw[hnoent];simp;omega)
 obtain rfl:xd2old=Eg:=by rw[←ac,←Gg]
 obtain rfl:nd2old=noold:=by first|omega|(rw[hnoold];simp;done)|(rw[hnoold];simp;omega)
 obtain rfl:xd2ste=Ek:=by rw[←ad,←F5]
 obtain rfl:nd2ste=noste:=by first|omega|(rw[hnoste];simp;done)|(rw[hnoste];simp;omega)
 exact hQ _ _ (.of [6,7,8,9] (.inl rfl) rfl rfl rfl rfl)
 conv=>cbv
 refine .eql (fun h6=>?_) fun h6=>?_
 conv=>cbv
 rcases am:Bn cb ri4 rh4 [0,1,2,(-1),9223372036854775807]with⟨d8,ri8,rh8⟩
 have zr8:=C5 am (by omega)
 refine .bxL [0] [15] (.same (.ref rfl rfl .nil)) hP (Hn hcb rfl (by omega) (by decide) am) rfl rfl rfl rfl ?_
 conv=>cbv
 have e:((⟨d2nod,d2ent,d2old,d2ste,d2roo,d8⟩:Aa),ri8,rh8)=C3 cb ci ch:=(by unfold C3;simp only[ae,af];rw[if_neg h5,if_pos h6];simp only[ae,af,am])
 rw[hr]at e
 simp only[Prod.mk.injEq,Aa.mk.injEq]at e
 obtain⟨⟨rfl,rfl,rfl,rfl,rfl,rfl⟩,rfl,rfl⟩:=e
 obtain rfl:xd2nod=Ej:=by rw[←aa,←Ga]
 obtain rfl:nd2nod=nonod:=by first|omega|(rw[hnonod];simp;done)|(rw[hnonod];simp;omega)
 obtain rfl:xd2ent=Ee:=by rw[←ab,←Gd]
 obtain rfl:nd2ent=noent:=by first|omega|(rw[hnoent];simp;done)|(rw[hnoent];simp;omega)
 obtain rfl:xd2old=Eg:=by rw[←ac,←Gg]
 obtain rfl:nd2old=noold:=by first|omega|(rw[hnoold];simp;done)|(rw[hnoold];simp;omega)
 obtain rfl:xd2ste=Ek:=by rw[←ad,←F5]
 obtain rfl:nd2ste=noste:=by first|omega|(rw[hnoste];simp;done)|(rw[hnoste];simp;omega)
 exact hQ _ _ (.of [6,7,8,9] (.inl rfl) rfl rfl rfl rfl)
 conv=>cbv
 refine .eql (fun h7=>?_) fun h7=>?_
 conv=>cbv
 rcases an:Ae cb ri4 rh4 4 with⟨d9,ri9,rh9⟩
 have zr9:=Ah an (by omega)
 refine .bx [0] [] hP (Bq hcb (by omega) an) rfl rfl rfl rfl ?_
 conv=>cbv
 refine .one (⟨tx [122],d9⟩:Ac) ab rfl fun ao a7 a8 ap=>?_
 conv=>cbv
 have e:((⟨d2nod,d2ent++[(⟨tx [122],d9⟩:Ac)],d2old,d2ste,d2roo,d2nex⟩:Aa),ri9,rh9)=C3 cb ci ch:=(by unfold C3;simp only[ae,af];rw[if_neg h5,if_neg h6,if_pos h7];simp only[ae,af,an])
 rw[hr]at e
 simp only[Prod.mk.injEq,Aa.mk.injEq]at e
 obtain⟨⟨rfl,rfl,rfl,rfl,rfl,rfl⟩,rfl,rfl⟩:=e
 obtain rfl:xd2nod=Ej:=by rw[←aa,←Ga]
 obtain rfl:nd2nod=nonod:=by first|omega|(rw[hnonod];simp;done)|(rw[hnonod];simp;omega)
 obtain rfl:a7=Ee:=by rw[←ap,←Gd]
 obtain rfl:ao=noent:=by first|omega|(rw[hnoent];simp;done)|(rw[hnoent];simp;omega)
 obtain rfl:xd2old=Eg:=by rw[←ac,←Gg]
 obtain rfl:nd2old=noold:=by first|omega|(rw[hnoold];simp;done)|(rw[hnoold];simp;omega)
 obtain rfl:xd2ste=Ek:=by rw[←ad,←F5]
 obtain rfl:nd2ste=noste:=by first|omega|(rw[hnoste];simp;done)|(rw[hnoste];simp;omega)
 exact hQ _ _ (.of [6,16,8,9] (.inl rfl) rfl rfl rfl rfl)
 conv=>cbv
 refine .eql (fun h8=>?_) fun h8=>?_
 conv=>cbv
 refine .one (⟨tx [122],1⟩:Ac) ac rfl fun ba z9 bk bb=>?_
 conv=>cbv
 have e:((⟨d2nod,d2ent,d2old++[(⟨tx [122],1⟩:Ac)],d2ste,d2roo,d2nex⟩:Aa),ri4,rh4)=C3 cb ci ch:=(by unfold C3;simp only[ae,af];rw[if_neg h5,if_neg h6,if_neg h7,if_pos h8])
 rw[hr]at e
 simp only[Prod.mk.injEq,Aa.mk.injEq]at e
 obtain⟨⟨rfl,rfl,rfl,rfl,rfl,rfl⟩,rfl,rfl⟩:=e
 obtain rfl:xd2nod=Ej:=by rw[←aa,←Ga]
 obtain rfl:nd2nod=nonod:=by first|omega|(rw[hnonod];simp;done)|(rw[hnonod];simp;omega)
 obtain rfl:xd2ent=Ee:=by rw[←ab,←Gd]
 obtain rfl:nd2ent=noent:=by first|omega|(rw[hnoent];simp;done)|(rw[hnoent];simp;omega)
 obtain rfl:z9=Eg:=by rw[←bb,←Gg]
 obtain rfl:ba=noold:=by first|omega|(rw[hnoold];simp;done)|(rw[hnoold];simp;omega)
 obtain rfl:xd2ste=Ek:=by rw[←ad,←F5]
 obtain rfl:nd2ste=noste:=by first|omega|(rw[hnoste];simp;done)|(rw[hnoste];simp;omega)
 exact hQ _ _ (.of [6,7,16,9] (.inl rfl) rfl rfl rfl rfl)
 conv=>cbv
 refine .eql (fun h9=>?_) fun h9=>?_
 conv=>cbv
 rcases aj:E5 cb ri4 rh4 [(tx [45,97]),(tx [43,113,58,49]),(tx [120]),(tx []),(tx [43,113,58,57]),(tx [45,122,122]),(tx [43,58,49]),(tx [43,113,58])]with⟨d11,ri11,rh11⟩
 have zr11:=Hh (n:=100) aj (by omega) (by decide)
 refine .bxL [0] [15] (.same (.ref rfl rfl .nil)) hP (P4 hcb rfl (by omega) (by decide) aj) rfl rfl rfl rfl ?_
 conv=>cbv
 refine .one d11 ad rfl fun aq bc bd ar=>?_
 conv=>cbv
 have e:((⟨d2nod,d2ent,d2old,d2ste++[d11],d2roo,d2nex⟩:Aa),ri11,rh11)=C3 cb ci ch:=(by unfold C3;simp only[ae,af];rw[if_neg h5,if_neg h6,if_neg h7,if_neg h8,if_pos h9];simp only[ae,af,aj])
 rw[hr]at e
 simp only[Prod.mk.injEq,Aa.mk.injEq]at e
 obtain⟨⟨rfl,rfl,rfl,rfl,rfl,rfl⟩,rfl,rfl⟩:=e
 obtain rfl:xd2nod=Ej:=by rw[←aa,←Ga]
 obtain rfl:nd2nod=nonod:=by first|omega|(rw[hnonod];simp;done)|(rw[hnonod];simp;omega)
 obtain rfl:xd2ent=Ee:=by rw[←ab,←Gd]
 obtain rfl:nd2ent=noent:=by first|omega|(rw[hnoent];simp;done)|(rw[hnoent];simp;omega)
 obtain rfl:xd2old=Eg:=by rw[←ac,←Gg]
 obtain rfl:nd2old=noold:=by first|omega|(rw[hnoold];simp;done)|(rw[hnoold];simp;omega)
 obtain rfl:bc=Ek:=by rw[←ar,←F5]
 obtain rfl:aq=noste:=by first|omega|(rw[hnoste];simp;done)|(rw[hnoste];simp;omega)
 exact hQ _ _ (.of [6,7,8,17] (.inl rfl) rfl rfl rfl rfl)
 conv=>cbv
 refine .eql (fun h10=>?_) fun h10=>?_
 conv=>cbv
 refine .go fun bn bl=>?_
 conv=>cbv
 refine .gtr (fun h12=>?_) fun h12=>?_
 conv=>cbv
 rcases ak:Bn cb ri4 rh4 [(-1),0,99]with⟨d14,ri14,rh14⟩
 have zr14:=C5 ak (by omega)
 refine .bxL [0] [15] (.same (.ref rfl rfl .nil)) hP (Hn hcb rfl (by omega) (by decide) ak) rfl rfl rfl rfl ?_
 conv=>cbv
 refine .go 0 fun ah au be=>?_
 conv=>cbv
 refine .go (⟨(d2nod.getD ah ⟨0,tx [],0⟩).id_,(d2nod.getD ah ⟨0,tx [],0⟩).text_,d14⟩:Cj) aa (by omega) (by rw[←gD (show ah<d2nod.length by omega)];rfl) (show 2+1≤3 by decide) fun bf aw=>?_
 conv=>cbv
 have e:((⟨d2nod.set ah (⟨(d2nod.getD ah ⟨0,tx [],0⟩).id_,(d2nod.getD ah ⟨0,tx [],0⟩).text_,d14⟩:Cj),d2ent,d2old,d2ste,d2roo,d2nex⟩:Aa),ri14,rh14)=C3 cb ci ch:=(by unfold C3;simp only[ae,af];rw[if_neg h5,if_neg h6,if_neg h7,if_neg h8,if_neg h9,if_pos h10];cases d2nod with|nil=>(exfalso;have h00:nd2nod=0:=hnd2nod;omega)|cons n l=>(subst au;simp only[ae,af,ak];rfl))
 rw[hr]at e
 simp only[Prod.mk.injEq,Aa.mk.injEq]at e
 obtain⟨⟨rfl,rfl,rfl,rfl,rfl,rfl⟩,rfl,rfl⟩:=e
 obtain rfl:bf=Ej:=by rw[←aw,←Ga]
 obtain rfl:nd2nod=nonod:=by first|omega|(rw[hnonod];simp;done)|(rw[hnonod];simp;omega)
 obtain rfl:xd2ent=Ee:=by rw[←ab,←Gd]
 obtain rfl:nd2ent=noent:=by first|omega|(rw[hnoent];simp;done)|(rw[hnoent];simp;omega)
 obtain rfl:xd2old=Eg:=by rw[←ac,←Gg]
 obtain rfl:nd2old=noold:=by first|omega|(rw[hnoold];simp;done)|(rw[hnoold];simp;omega)
 obtain rfl:xd2ste=Ek:=by rw[←ad,←F5]
 obtain rfl:nd2ste=noste:=by first|omega|(rw[hnoste];simp;done)|(rw[hnoste];simp;omega)
 exact hQ _ _ (.of [6,7,8,9] (.inl rfl) rfl rfl rfl rfl)
 conv=>cbv
 have e:((⟨d2nod,d2ent,d2old,d2ste,d2roo,d2nex⟩:Aa),ri4,rh4)=C3 cb ci ch:=(by unfold C3;simp only[ae,af];rw[if_neg h5,if_neg h6,if_neg h7,if_neg h8,if_neg h9,if_pos h10];cases d2nod with|nil=>rfl|cons n l=>(exfalso;rw[List.length_cons]at hnd2nod;omega))
 rw[hr]at e
 simp only[Prod.mk.injEq,Aa.mk.injEq]at e
 obtain⟨⟨rfl,rfl,rfl,rfl,rfl,rfl⟩,rfl,rfl⟩:=e
 obtain rfl:xd2nod=Ej:=by rw[←aa,←Ga]
 obtain rfl:nd2nod=nonod:=by first|omega|(rw[hnonod];simp;done)|(rw[hnonod];simp;omega)
 obtain rfl:xd2ent=Ee:=by rw[←ab,←Gd]
 obtain rfl:nd2ent=noent:=by first|omega|(rw[hnoent];simp;done)|(rw[hnoent];simp;omega)
 obtain rfl:xd2old=Eg:=by rw[←ac,←Gg]
 obtain rfl:nd2old=noold:=by first|omega|(rw[hnoold];simp;done)|(rw[hnoold];simp;omega)
 obtain rfl:xd2ste=Ek:=by rw[←ad,←F5]
 obtain rfl:nd2ste=noste:=by first|omega|(rw[hnoste];simp;done)|(rw[hnoste];simp;omega)
 exact hQ _ _ (.of [6,7,8,9] (.inl rfl) rfl rfl rfl rfl)
 conv=>cbv
 refine .eql (fun h11=>?_) fun h11=>?_
 conv=>cbv
 refine .go fun bo bm=>?_
 conv=>cbv
 refine .gtr (fun h13=>?_) fun h13=>?_
 conv=>cbv
 refine .go 0 fun bp ax bg=>?_
 conv=>cbv
 refine .go aa fun bh ⟨ag,a2,a6⟩ ay=>?_
 conv=>cbv
 refine .go 1 fun ai az bi=>?_
 conv=>cbv
 refine .go (⟨ag,(d2nod.getD ai ⟨0,tx [],0⟩).text_,(d2nod.getD ai ⟨0,tx [],0⟩).sure_⟩:Cj) aa (by omega) (by rw[←gD (show ai<d2nod.length by omega)];rfl) (show 0+1≤3 by decide) fun bj a1=>?_
 conv=>cbv
 have e:((⟨d2nod.set ai (⟨ag,(d2nod.getD ai ⟨0,tx [],0⟩).text_,(d2nod.getD ai ⟨0,tx [],0⟩).sure_⟩:Cj),d2ent,d2old,d2ste,d2roo,d2nex⟩:Aa),ri4,rh4)=C3 cb ci ch:=(by unfold C3;simp only[ae,af];rw[if_neg h5,if_neg h6,if_neg h7,if_neg h8,if_neg h9,if_neg h10,if_pos h11];cases d2nod with|nil=>(exfalso;have h00:nd2nod=0:=hnd2nod;omega)|cons n l=>(cases l with|nil=>(exfalso;have h00:nd2nod=1:=hnd2nod;omega)|cons q l=>(subst ax az;obtain rfl:ag=n.id_:=(congrArg Cj.id_ ay:_);rfl)))
 rw[hr]at e
 simp only[Prod.mk.injEq,Aa.mk.injEq]at e
 obtain⟨⟨rfl,rfl,rfl,rfl,rfl,rfl⟩,rfl,rfl⟩:=e
 obtain rfl:bj=Ej:=by rw[←a1,←Ga]
 obtain rfl:nd2nod=nonod:=by first|omega|(rw[hnonod];simp;done)|(rw[hnonod];simp;omega)
 obtain rfl:xd2ent=Ee:=by rw[←ab,←Gd]
 obtain rfl:nd2ent=noent:=by first|omega|(rw[hnoent];simp;done)|(rw[hnoent];simp;omega)
 obtain rfl:xd2old=Eg:=by rw[←ac,←Gg]
 obtain rfl:nd2old=noold:=by first|omega|(rw[hnoold];simp;done)|(rw[hnoold];simp;omega)
 obtain rfl:xd2ste=Ek:=by rw[←ad,←F5]
 obtain rfl:nd2ste=noste:=by first|omega|(rw[hnoste];simp;done)|(rw[hnoste];simp;omega)
 exact hQ _ _ (.of [6,7,8,9] (.inl rfl) rfl rfl rfl rfl)
 conv=>cbv
 have e:((⟨d2nod,d2ent,d2old,d2ste,d2roo,d2nex⟩:Aa),ri4,rh4)=C3 cb ci ch:=(by unfold C3;simp only[ae,af];rw[if_neg h5,if_neg h6,if_neg h7,if_neg h8,if_neg h9,if_neg h10,if_pos h11];cases d2nod with|nil=>rfl|cons n l=>(cases l with|nil=>rfl|cons q l=>(exfalso;rw[List.length_cons,List.length_cons]at hnd2nod;omega)))
 rw[hr]at e
 simp only[Prod.mk.injEq,Aa.mk.injEq]at e
 obtain⟨⟨rfl,rfl,rfl,rfl,rfl,rfl⟩,rfl,rfl⟩:=e
 obtain rfl:xd2nod=Ej:=by rw[←aa,←Ga]
 obtain rfl:nd2nod=nonod:=by first|omega|(rw[hnonod];simp;done)|(rw[hnonod];simp;omega)
 obtain rfl:xd2ent=Ee:=by rw[←ab,←Gd]
 obtain rfl:nd2ent=noent:=by first|omega|(rw[hnoent];simp;done)|(rw[hnoent];simp;omega)
 obtain rfl:xd2old=Eg:=by rw[←ac,←Gg]
 obtain rfl:nd2old=noold:=by first|omega|(rw[hnoold];simp;done)|(rw[hnoold];simp;omega)
 obtain rfl:xd2ste=Ek:=by rw[←ad,←F5]
 obtain rfl:nd2ste=noste:=by first|omega|(rw[hnoste];simp;done)|(rw[hnoste];simp;omega)
 exact hQ _ _ (.of [6,7,8,9] (.inl rfl) rfl rfl rfl rfl)
 conv=>cbv
 have e:((⟨d2nod,d2ent,d2old,d2ste,d2roo,d2nex⟩:Aa),ri4,rh4)=C3 cb ci ch:=(by unfold C3;simp only[ae,af];rw[if_neg h5,if_neg h6,if_neg h7,if_neg h8,if_neg h9,if_neg h10,if_neg h11])
 rw[hr]at e
 simp only[Prod.mk.injEq,Aa.mk.injEq]at e
 obtain⟨⟨rfl,rfl,rfl,rfl,rfl,rfl⟩,rfl,rfl⟩:=e
 obtain rfl:xd2nod=Ej:=by rw[←aa,←Ga]
 obtain rfl:nd2nod=nonod:=by first|omega|(rw[hnonod];simp;done)|(rw[hnonod];simp;omega)
 obtain rfl:xd2ent=Ee:=by rw[←ab,←Gd]
 obtain rfl:nd2ent=noent:=by first|omega|(rw[hnoent];simp;done)|(rw[hnoent];simp;omega)
 obtain rfl:xd2old=Eg:=by rw[←ac,←Gg]
 obtain rfl:nd2old=noold:=by first|omega|(rw[hnoold];simp;done)|(rw[hnoold];simp;omega)
 obtain rfl:xd2ste=Ek:=by rw[←ad,←F5]
 obtain rfl:nd2ste=noste:=by first|omega|(rw[hnoste];simp;done)|(rw[hnoste];simp;omega)
 exact hQ _ _ (.of [6,7,8,9] (.inl rfl) rfl rfl rfl rfl)
end
section
open Go Go.Proofs
set_option maxRecDepth 20000
set_option maxHeartbeats 4000000
def XeF:List (Nat×TyRow):=[ty3,Xgo,Z1,Xlm]
theorem XcA:Bl Tryz.prog XeF:=Bl.of (by kernel_rfl)
theorem XkC:Setup Tryz.prog XeF:=⟨XcA,mixed⟩
theorem Xe1{cb:List UInt8}{xcb:List (List D)}{ci:Int}{ch:Int}{onod:List Cj}{Ej:List (List D)}{oent:List Ac}{Ee:List (List D)}{oold:List Ac}{Eg:List (List D)}{oste:List ByteArray}{Ek:List (List D)}{oroo:Int}{onex:Int}{oi oh:Int}{nonod:Nat}{noent:Nat}{noold:Nat}{noste:Nat}(hcb:cb.map cB=xcb)(hc:0≤ci∧ci≤cb.length∧cb.length≤1000000000000)(Ga:onod.map B3=Ej)(Gd:oent.map Ad=Ee)(Gg:oold.map Ad=Eg)(F5:oste.map cS=Ek)(hr:H4 cb ci ch=(⟨onod,oent,oold,oste,oroo,onex⟩,oi,oh))(hnonod:nonod=onod.length)(hnoent:noent=oent.length)(hnoold:noold=oold.length)(hnoste:noste=oste.length):Fn Tryz.prog 59 [.ptr 0 0 0] [.box 140 [.d (.row 1 xcb),I ci,I ch]] ⟨.agg [.ref 1 0 nonod,.ref 2 0 noent,.ref 3 0 noold,.ref 4 0 noste,I oroo,I onex],[.row 3 false Ej,.row 2 false Ee,.row 2 false Eg,.row 1 false Ek],[(0,.box 140 [.d (.row 1 xcb),I oi,I oh])]⟩:=by
 refine Fn.goR XkC Tryz.func59 fun P hP Q hQ=>?_
 conv=>cbv
 rcases af:Bt cb ci ch 10 with⟨d2,ri2,rh2⟩
 have zr2:=Cd af (by omega)
 refine .bx [0] [] hP (Fi hcb (by omega) af) rfl rfl rfl rfl ?_
 cases d2
 conv=>cbv
 rcases ae:Gq cb ri2 rh2 with⟨⟨d4nod,d4ent,d4old,d4ste,d4roo,d4nex⟩,ri4,rh4⟩
 generalize aa:d4nod.map B3=xd4nod
 generalize ab:d4ent.map Ad=xd4ent
 generalize ac:d4old.map Ad=xd4old
 generalize ad:d4ste.map cS=xd4ste
 obtain⟨nd4nod,hnd4nod⟩:∃m,m=d4nod.length:=⟨_,rfl⟩
 obtain⟨nd4ent,hnd4ent⟩:∃m,m=d4ent.length:=⟨_,rfl⟩
 obtain⟨nd4old,hnd4old⟩:∃m,m=d4old.length:=⟨_,rfl⟩
 obtain⟨nd4ste,hnd4ste⟩:∃m,m=d4ste.length:=⟨_,rfl⟩
 have zr4:=W2 ae (by omega)
 refine .bx [0] [] hP (Xhb hcb (by omega) aa ab ac ad ae hnd4nod hnd4ent hnd4old hnd4ste) rfl rfl rfl rfl ?_
 conv=>cbv
 have e:((⟨d4nod,d4ent,d4old,d4ste,d4roo,d4nex⟩:Aa),ri4,rh4)=H4 cb ci ch:=(by unfold H4;simp only[af,ae,Bool.false_eq_true,if_false,if_true])
 rw[hr]at e
 simp only[Prod.mk.injEq,Aa.mk.injEq]at e
 obtain⟨⟨rfl,rfl,rfl,rfl,rfl,rfl⟩,rfl,rfl⟩:=e
 obtain rfl:xd4nod=Ej:=by rw[←aa,←Ga]
 obtain rfl:nd4nod=nonod:=by first|omega|(rw[hnonod];simp;done)|(rw[hnonod];simp;omega)
 obtain rfl:xd4ent=Ee:=by rw[←ab,←Gd]
 obtain rfl:nd4ent=noent:=by first|omega|(rw[hnoent];simp;done)|(rw[hnoent];simp;omega)
 obtain rfl:xd4old=Eg:=by rw[←ac,←Gg]
 obtain rfl:nd4old=noold:=by first|omega|(rw[hnoold];simp;done)|(rw[hnoold];simp;omega)
 obtain rfl:xd4ste=Ek:=by rw[←ad,←F5]
 obtain rfl:nd4ste=noste:=by first|omega|(rw[hnoste];simp;done)|(rw[hnoste];simp;omega)
 exact hQ _ _ (.of [6,7,8,9] (.inl rfl) rfl rfl rfl rfl)
 conv=>cbv
 rcases ae:C3 cb ri2 rh2 with⟨⟨d4nod,d4ent,d4old,d4ste,d4roo,d4nex⟩,ri4,rh4⟩
 generalize aa:d4nod.map B3=xd4nod
 generalize ab:d4ent.map Ad=xd4ent
 generalize ac:d4old.map Ad=xd4old
 generalize ad:d4ste.map cS=xd4ste
 obtain⟨nd4nod,hnd4nod⟩:∃m,m=d4nod.length:=⟨_,rfl⟩
 obtain⟨nd4ent,hnd4ent⟩:∃m,m=d4ent.length:=⟨_,rfl⟩
 obtain⟨nd4old,hnd4old⟩:∃m,m=d4old.length:=⟨_,rfl⟩
 obtain⟨nd4ste,hnd4ste⟩:∃m,m=d4ste.length:=⟨_,rfl⟩
 have zr4:=P7 ae (by omega)
 refine .bx [0] [] hP (XeM hcb (by omega) aa ab ac ad ae hnd4nod hnd4ent hnd4old hnd4ste) rfl rfl rfl rfl ?_
 conv=>cbv
 have e:((⟨d4nod,d4ent,d4old,d4ste,d4roo,d4nex⟩:Aa),ri4,rh4)=H4 cb ci ch:=(by unfold H4;simp only[af,ae,Bool.false_eq_true,if_false,if_true])
 rw[hr]at e
 simp only[Prod.mk.injEq,Aa.mk.injEq]at e
 obtain⟨⟨rfl,rfl,rfl,rfl,rfl,rfl⟩,rfl,rfl⟩:=e
 obtain rfl:xd4nod=Ej:=by rw[←aa,←Ga]
 obtain rfl:nd4nod=nonod:=by first|omega|(rw[hnonod];simp;done)|(rw[hnonod];simp;omega)
 obtain rfl:xd4ent=Ee:=by rw[←ab,←Gd]
 obtain rfl:nd4ent=noent:=by first|omega|(rw[hnoent];simp;done)|(rw[hnoent];simp;omega)
 obtain rfl:xd4old=Eg:=by rw[←ac,←Gg]
 obtain rfl:nd4old=noold:=by first|omega|(rw[hnoold];simp;done)|(rw[hnoold];simp;omega)
 obtain rfl:xd4ste=Ek:=by rw[←ad,←F5]
 obtain rfl:nd4ste=noste:=by first|omega|(rw[hnoste];simp;done)|(rw[hnoste];simp;omega)
 exact hQ _ _ (.of [6,7,8,9] (.inl rfl) rfl rfl rfl rfl)
def Xc2(b:List UInt8):Aa:=(H4 b 0 (Eu b)).1
theorem Xit{b:List UInt8}{d:Aa}(e:Xc2 b=d)(hb:b.length≤1000000000000):Pc d:=by
 rw[←e]
 exact(P2 (rfl:H4 b 0 (Eu b)=(_,_,_)) (by omega)).1
end
section
open Go Go.Proofs
set_option maxRecDepth 20000
set_option maxHeartbeats 4000000
def XaK:List (Nat×TyRow):=[ty3,ty9,Xfz,Z1,Xal,ty44,Wn,XlS]
theorem Xa3:Bl Tryz.prog XaK:=Bl.of (by kernel_rfl)
theorem XeS:Setup Tryz.prog XaK:=⟨Xa3,mixed⟩
def Vw(b:ByteArray):Bool:=(As b).ok_&&decide ((As b).end_=(b.size:Int))
def Ez(d:Aa)(chain:List Int)(name:ByteArray):Int:=
 if(Ay name).1=2 then 1 else if(Ay name).1=0 then 0 else if¬(Ay name).2∈chain then 2
 else if Ng (Cq d (Ay name).2)=true then 0 else if Vw (Cq d (Ay name).2)=true then 3 else 4
def Nc(d:Aa)(n:ByteArray):List Fm:=if Ez d (C4 d) n=0 then[]else[⟨n,Ez d (C4 d) n⟩]
def Ps(d:Aa):List Fm:=(d.entries_.map fun e=>e.name_).flatMap (Nc d)
theorem Xek{d:Aa}{b:Int}(h:b∈C4 d):(As (Cq d b)).ok_=true:=by
 unfold C4 at h
 obtain⟨x,hx,rfl⟩:=List.mem_map.1 h
 obtain⟨_,_,s,hs⟩:=Rw rfl hx
 obtain⟨hh,h1,_⟩:=Qi hs
 exact(XaU h1).2
theorem XhT(d:Aa)(n:ByteArray):(Nc d n).length≤1:=by
 unfold Nc
 split
 ·exact Nat.zero_le _
 ·exact Nat.le_refl _
theorem XjE{d:Aa}{l:List Fm}(hd:okD d)(e:Ps d=l):l.length≤1000000000∧∀x∈l,x.name_.size≤1000000000:=by
 rw[←e]
 unfold Ps
 constructor
 ·have:=Xbo (fun n=>XhT d n) (d.entries_.map fun e=>e.name_)
  rw[List.length_map]at this
  have:=hd.2.2.1
  omega
 ·intro x hx
  obtain⟨n,hn,h⟩:=List.mem_flatMap.1 hx
  obtain⟨y,hy,rfl⟩:=List.mem_map.1 hn
  have h4:=hd.2.2.2.1 y hy
  unfold Nc at h
  split at h
  ·cases h
  ·rw[List.mem_singleton]at h
   rw[h]
   exact h4
theorem XiV{Ak:List Cj}{Bk:List (List D)}{Aj:List Ac}{Bg:List (List D)}{Am:List Ac}{Bf:List (List D)}{Al:List ByteArray}{Bi:List (List D)}{Ao:Int}{An:Int}{o:List Fm}{xo:List (List D)}(A1:Ak.map B3=Bk)(Ax:Aj.map Ad=Bg)(A6:Am.map Ad=Bf)(A5:Al.map cS=Bi)(hd:okD (⟨Ak,Aj,Am,Al,Ao,An⟩:Aa))(hr:Ps (⟨Ak,Aj,Am,Al,Ao,An⟩:Aa)=o)(ho:o.map Mj=xo):Fn Tryz.prog 95 [.agg [.d (.row 3 Bk),.d (.row 2 Bg),.d (.row 2 Bf),.d (.row 1 Bi),I Ao,I An]] [] ⟨.d (.row 2 xo),[],[]⟩:=by
 refine Fn.go XeS Tryz.func95 fun P hP Q hQ=>?_
 conv=>cbv
 have ay:Aj.length≤1000000000:=hd.2.2.1
 have au:∀e∈Aj,e.name_.size≤1000000000:=hd.2.2.2.1
 have hdd:=hd
 generalize ab:C4 (⟨Ak,Aj,Am,Al,Ao,An⟩:Aa)=l1
 generalize az:l1.map cI=bk
 refine .dd hP (XcM A1 Ax A6 A5 hd ab az) ?_
 conv=>cbv
 have bg:=Ii ab
 refine LoopW.lp (κ:=Int×(List (List D))×Nat) XeS hP [2] [1,4] (fun(i5,ac,ad)=>[(3,.ref 3 0 ad),(5,I i5)]) (fun(i5,ac,ad)=>[(3,.row 2 false ac)])
  (fun(i5,ac,ad)=>∃(w3:List Fm),w3.map Mj=ac∧ad=w3.length∧0≤i5∧i5≤Aj.length∧w3=((Aj.take i5.toNat).map fun e=>e.name_).flatMap (Nc (⟨Ak,Aj,Am,Al,Ao,An⟩:Aa))∧w3.length≤i5)
  (fun(i5,ac,ad)=>(Aj.length - i5).toNat) (0,[],0) ⟨[],rfl,rfl,by omega,by omega,rfl,by simp⟩ ⟨rfl,rfl,trivial⟩ rfl ?_
 rintro⟨i5,ac,ad⟩ J ⟨w3,ae,bh,h0,h1,hx,hxl⟩ hJ
 conv=>cbv
 refine .go Ax fun v2 bl=>?_
 conv=>cbv
 refine .lss (fun h3=>?_) fun h3=>?_
 conv=>cbv
 refine .go i5.toNat Ax fun a1 ⟨aa,bi⟩ af=>?_
 conv=>cbv
 have bm:aa.size≤1000000000:=by have h9:=au _ (List.getElem_mem a1);rw[←af]at h9;exact h9
 rcases ag:Ay aa with⟨bn,al⟩
 refine .dd hP (N1 (by omega) ag) ?_
 conv=>cbv
 generalize ah:Cq (⟨Ak,Aj,Am,Al,Ao,An⟩:Aa) al=r6
 refine .dd hP (Y7 A1 Ax A6 A5 hd ah) ?_
 conv=>cbv
 have ht2:=Lr hd ah
 refine .eql (fun h7=>?_) fun h7=>?_
 conv=>cbv
 refine .neq (fun h8=>?_) fun h8=>?_
 conv=>cbv
 refine .one (⟨aa,1⟩:Fm) ae rfl fun bb z9 bj bc=>?_
 conv=>cbv
 refine .add fun am a2=>?_
 conv=>cbv
 have hla:Ez (⟨Ak,Aj,Am,Al,Ao,An⟩:Aa) (C4 (⟨Ak,Aj,Am,Al,Ao,An⟩:Aa)) aa=1:=by unfold Ez;rw[ag,ab];dsimp only;rw[if_pos h7]
 have hlk:Nc (⟨Ak,Aj,Am,Al,Ao,An⟩:Aa) aa=[⟨aa,1⟩]:=by unfold Nc;rw[hla];rfl
 exact .go [5] (am,z9,bb) (hJ _ ⟨_,bc,Cv,by omega,by omega,by rw[show am.toNat=i5.toNat+1 by omega,List.map_take,Hv (show i5.toNat<(Aj.map fun e=>e.name_).length by rw[List.length_map];omega),List.getElem_map,←af];simp only[];rw[hlk,←List.map_take,hx],by rw[List.length_append,List.length_singleton];omega⟩ mlt)
 omega
 conv=>cbv
 refine .eql (fun h8=>?_) fun h8=>?_
 conv=>cbv
 refine .neq (fun h9=>?_) fun h9=>?_
 omega
 conv=>cbv
 refine .add fun am a2=>?_
 conv=>cbv
 have hla:Ez (⟨Ak,Aj,Am,Al,Ao,An⟩:Aa) (C4 (⟨Ak,Aj,Am,Al,Ao,An⟩:Aa)) aa=0:=by unfold Ez;rw[ag,ab];dsimp only;rw[if_neg h7,if_pos h8]
 have hlk:Nc (⟨Ak,Aj,Am,Al,Ao,An⟩:Aa) aa=[]:=by unfold Nc;rw[hla];rfl
 exact .go [3] (am,ac,ad) (hJ _ ⟨_,ae,Cv,by omega,by omega,by rw[show am.toNat=i5.toNat+1 by omega,List.map_take,Hv (show i5.toNat<(Aj.map fun e=>e.name_).length by rw[List.length_map];omega),List.getElem_map,←af];simp only[];rw[hlk,List.append_nil,←List.map_take,hx],by omega⟩ mlt)
 conv=>cbv
 generalize ai:Jx l1 al=r9
 refine .dd hP (XdR az (by omega) ai) ?_
 cases r9
 conv=>cbv
 refine .neq (fun h10=>?_) fun h10=>?_
 conv=>cbv
 refine .one (⟨aa,2⟩:Fm) ae rfl fun a6 bd be a7=>?_
 conv=>cbv
 refine .add fun ak ar=>?_
 conv=>cbv
 have hla:Ez (⟨Ak,Aj,Am,Al,Ao,An⟩:Aa) (C4 (⟨Ak,Aj,Am,Al,Ao,An⟩:Aa)) aa=2:=by unfold Ez;rw[ag,ab];dsimp only;rw[if_neg h7,if_neg h8,if_pos (show¬al∈l1 from of_decide_eq_false ai)]
 have hlk:Nc (⟨Ak,Aj,Am,Al,Ao,An⟩:Aa) aa=[⟨aa,2⟩]:=by unfold Nc;rw[hla];rfl
 exact .go [5] (ak,bd,a6) (hJ _ ⟨_,a7,Cv,by omega,by omega,by rw[show ak.toNat=i5.toNat+1 by omega,List.map_take,Hv (show i5.toNat<(Aj.map fun e=>e.name_).length by rw[List.length_map];omega),List.getElem_map,←af];simp only[];rw[hlk,←List.map_take,hx],by rw[List.length_append,List.length_singleton];omega⟩ mlt)
 omega
 conv=>cbv
 have ay:Aj.length≤1000000000:=hd.2.2.1
 have au:∀e∈Aj,e.name_.size≤1000000000:=hd.2.2.2.1
 have hdd:=hd
 generalize aj:Ng r6=bf
 refine .dd hP (XfS (by omega) aj) ?_
 cases bf
 conv=>cbv
 have ay:Aj.length≤1000000000:=hd.2.2.1
 have au:∀e∈Aj,e.name_.size≤1000000000:=hd.2.2.2.1
 have hdd:=hd
 generalize an:Hl r6=a8
 refine .dd hP (Xaf (by omega) an) ?_
 conv=>cbv
 refine .go fun ak ar=>?_
 conv=>cbv
 refine .eql (fun h13=>?_) fun h13=>?_
 conv=>cbv
 refine .neq (fun h14=>?_) fun h14=>?_
 conv=>cbv
 refine .one (⟨aa,3⟩:Fm) ae rfl fun ao aw ax ap=>?_
 conv=>cbv
 refine .add fun aq ba=>?_
 conv=>cbv
 have hok:=Xek (d:=(⟨Ak,Aj,Am,Al,Ao,An⟩:Aa)) (b:=al) (by rw[ab];exact of_decide_eq_true ai)
 rw[ah]at hok
 have hop:Vw r6=decide (a8=(r6.size:Int)):=by unfold Vw;rw[hok,Bool.true_and];show decide (Hl r6=_)=_;rw[an]
 have hla:Ez (⟨Ak,Aj,Am,Al,Ao,An⟩:Aa) (C4 (⟨Ak,Aj,Am,Al,Ao,An⟩:Aa)) aa=3:=by unfold Ez;rw[ag,ab];dsimp only;rw[if_neg h7,if_neg h8,if_neg (fun h=>h (of_decide_eq_true ai)),ah,if_neg (by rw[aj];decide),if_pos (by rw[hop];exact decide_eq_true (by omega))]
 have hlk:Nc (⟨Ak,Aj,Am,Al,Ao,An⟩:Aa) aa=[⟨aa,3⟩]:=by unfold Nc;rw[hla];rfl
 exact .go [5] (aq,aw,ao) (hJ _ ⟨_,ap,Cv,by omega,by omega,by rw[show aq.toNat=i5.toNat+1 by omega,List.map_take,Hv (show i5.toNat<(Aj.map fun e=>e.name_).length by rw[List.length_map];omega),List.getElem_map,←af];simp only[];rw[hlk,←List.map_take,hx],by rw[List.length_append,List.length_singleton];omega⟩ mlt)
 omega
 conv=>cbv
 refine .neq (fun h14=>?_) fun h14=>?_
 conv=>cbv
 refine .one (⟨aa,4⟩:Fm) ae rfl fun ao aw ax ap=>?_
 conv=>cbv
 refine .add fun aq ba=>?_
 conv=>cbv
 have hok:=Xek (d:=(⟨Ak,Aj,Am,Al,Ao,An⟩:Aa)) (b:=al) (by rw[ab];exact of_decide_eq_true ai)
 rw[ah]at hok
 have hop:Vw r6=decide (a8=(r6.size:Int)):=by unfold Vw;rw[hok,Bool.true_and];show decide (Hl r6=_)=_;rw[an]
 have hla:Ez (⟨Ak,Aj,Am,Al,Ao,An⟩:Aa) (C4 (⟨Ak,Aj,Am,Al,Ao,An⟩:Aa)) aa=4:=by unfold Ez;rw[ag,ab];dsimp only;rw[if_neg h7,if_neg h8,if_neg (fun h=>h (of_decide_eq_true ai)),ah,if_neg (by rw[aj];decide),if_neg (by rw[hop,decide_eq_true_eq];omega)]
 have hlk:Nc (⟨Ak,Aj,Am,Al,Ao,An⟩:Aa) aa=[⟨aa,4⟩]:=by unfold Nc;rw[hla];rfl
 exact .go [5] (aq,aw,ao) (hJ _ ⟨_,ap,Cv,by omega,by omega,by rw[show aq.toNat=i5.toNat+1 by omega,List.map_take,Hv (show i5.toNat<(Aj.map fun e=>e.name_).length by rw[List.length_map];omega),List.getElem_map,←af];simp only[];rw[hlk,←List.map_take,hx],by rw[List.length_append,List.length_singleton];omega⟩ mlt)
 omega
 conv=>cbv
 refine .neq (fun h11=>?_) fun h11=>?_
 omega
 conv=>cbv
 refine .add fun ak ar=>?_
 conv=>cbv
 have hla:Ez (⟨Ak,Aj,Am,Al,Ao,An⟩:Aa) (C4 (⟨Ak,Aj,Am,Al,Ao,An⟩:Aa)) aa=0:=by unfold Ez;rw[ag,ab];dsimp only;rw[if_neg h7,if_neg h8,if_neg (fun h=>h (of_decide_eq_true ai)),ah,if_pos aj]
 have hlk:Nc (⟨Ak,Aj,Am,Al,Ao,An⟩:Aa) aa=[]:=by unfold Nc;rw[hla];rfl
 exact .go [3] (ak,ac,ad) (hJ _ ⟨_,ae,Cv,by omega,by omega,by rw[show ak.toNat=i5.toNat+1 by omega,List.map_take,Hv (show i5.toNat<(Aj.map fun e=>e.name_).length by rw[List.length_map];omega),List.getElem_map,←af];simp only[];rw[hlk,List.append_nil,←List.map_take,hx],by omega⟩ mlt)
 conv=>cbv
 have e:w3=Ps (⟨Ak,Aj,Am,Al,Ao,An⟩:Aa):=(by unfold Ps;rw[hx,List.take_of_length_le (by omega)])
 rw[hr]at e
 subst e
 exact hQ _ _ (.r rfl rfl (Ag ae) (by rw[←ae,←ho]))
end
section
open Go Go.Proofs
set_option maxRecDepth 20000
set_option maxHeartbeats 4000000
def XeL:List (Nat×TyRow):=[ty3,We,Z1,XlF,Xki]
theorem XcX:Bl Tryz.prog XeL:=Bl.of (by kernel_rfl)
theorem Yn:Setup Tryz.prog XeL:=⟨XcX,mixed⟩
def F1(d:Aa)(v:Int):List ByteArray:=(Fo d v).map Cy
def opW(x:TOp):Nat:=x.name_.size+x.to_.size
def Xak(l:List TOp):Nat:=(l.map opW).sum
theorem N8(a b:List TOp):Xak (a++b)=Xak a+Xak b:=by unfold Xak;rw[List.map_append,List.sum_append]
theorem Xc5{f:Int→List TOp}{m:Nat}(h:∀x,Xak (f x)≤m):∀l:List Int,Xak (l.flatMap f)≤m*l.length
 |[]=>Nat.zero_le _
 |x::l=>by
  have:=Xc5 h l
  have h2:=h x
  rw[List.flatMap_cons,N8,List.length_cons,Nat.mul_succ]
  omega
def Xjh(x:TOp):Prop:=x.name_.size≤1000000000∧x.to_.size≤1000000000∧x.text_.size≤1000000000
theorem Xkc(b:Int):(Af b).size≤13:=Dx rfl
theorem XkX(b:Int):(Bm b).size≤17:=Px rfl
theorem tx0:(tx []).size=0:=by simp[A3]
theorem Xj8{d:Aa}(b:Int):Xak (Fq d b)≤13∧∀x∈Fq d b,Xjh x:=by
 have h1:=Xkc b
 unfold Fq
 split
 ·exact⟨Nat.zero_le _,by simp⟩
 ·refine⟨by simp[Xak,opW,tx0];exact h1,?_⟩
  intro x hx
  rw[List.mem_singleton]at hx
  subst hx
  exact⟨by show(Af b).size≤_;omega,by show(tx []).size≤_;rw[tx0];omega,by show(tx []).size≤_;rw[tx0];omega⟩
theorem Xhe{d:Aa}{v:Int}(b:Int):Xak (Dz d v b)≤85∧∀x∈Dz d v b,Xjh x:=by
 have h1:=Xkc b
 have h2:=XkX b
 have h3:=Pu (rfl:B9 (Cq d b) v=_)
 unfold Dz
 split
 ·exact⟨Nat.zero_le _,by simp⟩
 ·refine⟨by simp[Xak,opW,tx0,Fx];omega,?_⟩
  intro x hx
  unfold Fx at hx
  simp only[List.mem_cons,List.not_mem_nil,or_false]at hx
  unfold Xjh
  rcases hx with rfl|rfl|rfl|rfl|rfl<;>(simp only[tx0];omega)
theorem Xca{l:List ByteArray}(h:∀n∈l,n.size≤1000000000):Xak (Ex l)≤(l.map (·.size)).sum∧∀x∈Ex l,Xjh x:=by
 unfold Ex
 split
 ·exact⟨Nat.zero_le _,by simp⟩
 ·constructor
  ·rw[N8]
   have e1:Xak (l.map Kz)=(l.map (·.size)).sum:=by
    unfold Xak
    rw[List.map_map]
    congr 1
   have e2:Xak [(⟨6,tx [],tx [],tx []⟩:TOp)]=0:=by simp[Xak,opW,tx0]
   omega
  ·intro x hx
   rw[List.mem_append,List.mem_map,List.mem_singleton]at hx
   unfold Xjh
   rcases hx with⟨n,hn,rfl⟩|rfl
   ·have:=h n hn
    exact⟨this,by show(tx []).size≤_;rw[tx0];omega,by show(tx []).size≤_;rw[tx0];omega⟩
   ·simp only[tx0];omega
theorem X0{l:List ByteArray}{p:ByteArray→Bool}:((l.filter p).map (·.size)).sum+((l.filter (fun n=>!p n)).map (·.size)).sum=(l.map (·.size)).sum:=by
 induction l with
 |nil=>rfl
 |cons x l ih=>
  rw[List.filter_cons,List.filter_cons]
  cases p x<;>simp at ih⊢<;>omega
theorem Xai{l:List ByteArray}{p:ByteArray→Bool}:((l.filter p).map (·.size)).sum≤(l.map (·.size)).sum:=by
 have:=X0 (l:=l) (p:=p)
 omega
theorem sum_reverse{l:List ByteArray}:(l.reverse.map (·.size)).sum=(l.map (·.size)).sum:=by
 rw[List.map_reverse,List.sum_reverse]
theorem Xj9{d:Aa}{v:Int}(hd:okD d):Xak (Fo d v)≤1600+(d.entries_.map (·.name_.size)).sum∧∀x∈Fo d v,Xjh x:=by
 have h1:=Ii (rfl:C4 d=_)
 have hs:=T1 hd (rfl:A9 d=_)
 have a1:=Xc5 (fun b=>(Xj8 (d:=d) b).1) (C4 d)
 have a2:=Xc5 (fun b=>(Xhe (d:=d) (v:=Wa v) b).1) (C4 d)
 have b1:=Xca (l:=(A9 d).filter F6) (fun n hn=>hs n (List.mem_filter.1 hn).1)
 have b2:=Xca (l:=((A9 d).filter (fun n=>!F6 n)).reverse) (fun n hn=>hs n (List.mem_filter.1 (List.mem_reverse.1 hn)).1)
 have s1:=X0 (l:=A9 d) (p:=F6)
 have s2:((A9 d).map (·.size)).sum≤(d.entries_.map (·.name_.size)).sum:=by
  unfold A9
  have:=Xai (l:=d.entries_.map fun e=>e.name_) (p:=My (C4 d))
  rw[List.map_map]at this
  exact this
 rw[sum_reverse]at b2
 have e6:Xak (if d.steps_=[]then[]else[(⟨6,tx [],tx [],tx []⟩:TOp)])=0:=by split<;>simp[Xak,opW,tx0]
 constructor
 ·unfold Fo Wz Ww
  rw[N8,N8,N8,N8,e6]
  omega
 ·intro x hx
  unfold Fo Wz Ww at hx
  simp only[List.mem_append,List.mem_flatMap]at hx
  rcases hx with(((⟨b,_,h⟩|h)|h)|⟨b,_,h⟩)|h
  ·exact(Xj8 b).2 x h
  ·split at h
   ·cases h
   ·rw[List.mem_singleton]at h
    subst h
    unfold Xjh
    simp only[tx0];omega
  ·exact b1.2 x h
  ·exact(Xhe b).2 x h
  ·exact b2.2 x h
theorem Xgr{x:TOp}(h:Xjh x):(Cy x).size≤opW x+40:=by
 obtain⟨h1,h2,h3⟩:=h
 have hw:=Zr (rfl:O4 x.kind_=_)
 have hf:=N2 (rfl:Hx [(x.text_.size:Int)]=_) (by intro n hn;rw[List.mem_singleton]at hn;subst hn;unfold K9;omega)
 have e1:(tx [32]).size=1:=by simp[A3]
 have e2:(tx [63]).size=1:=by simp[A3]
 unfold Cy opW
 rw[List.length_singleton]at hf
 split
 ·split
  ·omega
  ·split
   ·simp only[ByteArray.size_append,e1];omega
   ·split
    ·simp only[ByteArray.size_append,e1];omega
    ·simp only[ByteArray.size_append,e1];omega
 ·omega
theorem Y1{d:Aa}{v:Int}{l:List TOp}(hd:okD d)(e:Fo d v=l):l.length≤4294967296:=by
 rw[←e]
 unfold Fo Wz Ww
 have h1:=Ii (rfl:C4 d=_)
 have h2:=V9 hd (rfl:A9 d=_)
 have h3:=Xbo (fun x=>Qa (d:=d) x) (C4 d)
 have h4:=Xbo (fun x=>Xis (d:=d) (v:=Wa v) x) (C4 d)
 have h5:=Mk (l:=(A9 d).filter F6)
 have h6:=Mk (l:=((A9 d).filter (fun n=>!F6 n)).reverse)
 have h7:=List.length_filter_le F6 (A9 d)
 have h8:=List.length_filter_le (fun n=>!F6 n) (A9 d)
 rw[List.length_reverse]at h6
 have h9:(if d.steps_=[]then[]else[(⟨6,tx [],tx [],tx []⟩:TOp)]).length≤1:=by split<;>simp
 simp only[List.length_append]
 omega
variable {Ak:List Cj} {Bk Bg Bf Bi xo:List (List D)} {Aj Am:List Ac} {Al o:List ByteArray} {Ao An version:Int}
theorem XcP(A1:Ak.map B3=Bk)(Ax:Aj.map Ad=Bg)(A6:Am.map Ad=Bf)(A5:Al.map cS=Bi)(hd:okD ⟨Ak,Aj,Am,Al,Ao,An⟩)(hr:F1 (⟨Ak,Aj,Am,Al,Ao,An⟩:Aa) version=o)(ho:o.map cS=xo):Fn Tryz.prog 36 [.agg [.d (.row 3 Bk),.d (.row 2 Bg),.d (.row 2 Bf),.d (.row 1 Bi),I Ao,I An],I version] [] ⟨.d (.row 1 xo),[],[]⟩:=by
 refine Fn.go Yn Tryz.func36 fun P hP Q hQ=>?_
 conv=>cbv
 generalize ag:Fo (⟨Ak,Aj,Am,Al,Ao,An⟩:Aa) version=l1
 generalize ai:l1.map eOp=au
 refine .dd hP (XiK A1 Ax A6 A5 hd ag ai) ?_
 conv=>cbv
 refine .go ai fun v2 aw=>?_
 conv=>cbv
 refine LoopW.lp (κ:=Int×(List (List D))×Nat) Yn hP [2] [11,12] (fun(aa,ab,ac)=>[(5,.ref 3 0 ac),(13,I aa)]) (fun(aa,ab,ac)=>[(3,.row 1 false ab)])
  (fun(aa,ab,ac)=>∃(w3:List ByteArray),w3.map cS=ab∧ac=w3.length∧0≤aa∧aa≤l1.length∧w3=(l1.take aa.toNat).map Cy∧w3.length=aa.toNat)
  (fun(aa,ab,ac)=>(l1.length - aa).toNat) (0,[],0) ⟨[],rfl,rfl,by omega,by omega,by simp,rfl⟩ ⟨rfl,rfl,trivial⟩ rfl ?_
 rintro⟨aa,ab,ac⟩ J ⟨w3,aj,aq,h0,h1,hw,hwl⟩ hJ
 have hpl:=Y1 hd ag
 conv=>cbv
 refine .lss (fun h3=>?_) fun h3=>?_
 conv=>cbv
 refine .go aa.toNat ai fun al ⟨ad,ae,ah,af⟩ am=>?_
 conv=>cbv
 have hok:=(Xj9 (v:=version) hd).2 ⟨ad,ae,ah,af⟩ (by rw[ag,am];exact List.getElem_mem _)
 generalize ak:Cy (⟨ad,ae,ah,af⟩:TOp)=r5
 refine .dd hP (Zj hok ak) ?_
 conv=>cbv
 have an:=Xgr hok
 rw[ak]at an
 have hok2:=hok
 unfold Xjh at hok2
 unfold opW at an
 refine .one r5 aj rfl fun ao z6 ar ap=>?_
 conv=>cbv
 refine .add fun v7 ax=>?_
 conv=>cbv
 exact .go [6] (v7,z6,ao) (hJ _ ⟨_,ap,Cv,by omega,by omega,by rw[hw,show v7.toNat=aa.toNat+1 by omega,Rn al,←am,ak],by rw[List.length_append,List.length_singleton];omega⟩ mlt)
 conv=>cbv
 have e:w3=F1 (⟨Ak,Aj,Am,Al,Ao,An⟩:Aa) version:=(by unfold F1;rw[ag,hw,List.take_of_length_le (by omega)])
 rw[hr]at e
 subst e
 exact hQ _ _ (.r rfl rfl (by rw[←aj,List.length_map];first|omega|(simp;omega)) (by rw[←aj,←ho]))
theorem Xdf(A1:Ak.map B3=Bk)(Ax:Aj.map Ad=Bg)(A6:Am.map Ad=Bf)(A5:Al.map cS=Bi)(hd:okD ⟨Ak,Aj,Am,Al,Ao,An⟩)(hr:F1 (⟨Ak,Aj,Am,Al,Ao,An⟩:Aa) version=o)(ho:o.map cS=xo):Fn Tryz.prog 45 [.agg [.d (.row 3 Bk),.d (.row 2 Bg),.d (.row 2 Bf),.d (.row 1 Bi),I Ao,I An],I version] [] ⟨.d (.row 1 xo),[],[]⟩:=by
 refine Fn.go Yn Tryz.func45 fun P hP Q hQ=>?_
 conv=>cbv
 generalize af:Fo (⟨Ak,Aj,Am,Al,Ao,An⟩:Aa) version=l1
 generalize ah:l1.map eOp=aq
 refine .dd hP (Xfe A1 Ax A6 A5 hd af ah) ?_
 conv=>cbv
 refine LoopW.lp (κ:=Int×(List (List D))×Nat) Yn hP [2] [6] (fun(i7,aa,ab)=>[(5,.ref 3 0 ab),(7,I i7)]) (fun(i7,aa,ab)=>[(3,.row 1 false aa)])
  (fun(i7,aa,ab)=>∃(w3:List ByteArray),w3.map cS=aa∧ab=w3.length∧0≤i7∧i7≤l1.length∧w3=(l1.take i7.toNat).map Cy∧w3.length=i7.toNat)
  (fun(i7,aa,ab)=>(l1.length - i7).toNat) (0,[],0) ⟨[],rfl,rfl,by omega,by omega,by simp,rfl⟩ ⟨rfl,rfl,trivial⟩ rfl ?_
 rintro⟨i7,aa,ab⟩ J ⟨w3,ai,ao,h0,h1,hw,hwl⟩ hJ
 have hpl:=Y1 hd af
 conv=>cbv
 refine .go ah fun v2 ar=>?_
 conv=>cbv
 refine .lss (fun h3=>?_) fun h3=>?_
 conv=>cbv
 refine .go i7.toNat ah fun aj ⟨ac,ad,ag,ae⟩ ak=>?_
 conv=>cbv
 have hok:=(Xj9 (v:=version) hd).2 ⟨ac,ad,ag,ae⟩ (by rw[af,ak];exact List.getElem_mem _)
 generalize al:Cy (⟨ac,ad,ag,ae⟩:TOp)=r5
 refine .dd hP (XeN hok al) ?_
 conv=>cbv
 refine .one r5 ai rfl fun am z6 ap an=>?_
 conv=>cbv
 refine .add fun v7 au=>?_
 conv=>cbv
 exact .go [5] (v7,z6,am) (hJ _ ⟨_,an,Cv,by omega,by omega,by rw[hw,show v7.toNat=i7.toNat+1 by omega,Rn aj,←ak,al],by rw[List.length_append,List.length_singleton];omega⟩ mlt)
 conv=>cbv
 have e:w3=F1 (⟨Ak,Aj,Am,Al,Ao,An⟩:Aa) version:=(by unfold F1;rw[af,hw,List.take_of_length_le (by omega)])
 rw[hr]at e
 subst e
 exact hQ _ _ (.r rfl rfl (by rw[←ai,List.length_map];first|omega|(simp;omega)) (by rw[←ai,←ho]))
end
end Go.Proofs.YtjbmpmmffjgedaaGreatDoor.Ab
