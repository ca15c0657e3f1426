/- What functions of the program come to, for all arguments in the given bounds. -/
import Derived.Test.YtjbmpmmffjgedaaGreatDoorCchD
import Derived.Test.YtjbmpmmffjgedaaGreatDoorCZ10
import Derived.Test.YtjbmpmmffjgedaaGreatDoorCch04
set_option linter.unusedVariables false
set_option linter.unusedSimpArgs false
namespace Go.Proofs.YtjbmpmmffjgedaaGreatDoor.Ab
section
open Go Go.Proofs
set_option maxRecDepth 20000
set_option maxHeartbeats 4000000
def XdR:List (Nat×TyRow):=[ty3,ty5,ty9,XhT,Zy,Xb9,XfJ,XkC,Xk1,Xkf]
theorem Xc4:B3 Tryz.prog XdR:=B3.of (by kernel_rfl)
theorem H6:Setup Tryz.prog XdR:=⟨Xc4,mixed⟩
theorem xor8(a b:Int):0≤La .xor .u8 a b∧La .xor .u8 a b<256:=by
 have h:La .xor .u8 a b=IntKind.u8.wrap (BitVec.ofInt 8 a^^^BitVec.ofInt 8 b).toNat:=rfl
 rw[h,G9]
 omega
variable {cb code:List UInt8} {xcb Ew Ev Eu Ex xcode:List (List D)} {ci ch oi oh oroo onex:Int} {o:ByteArray} {onod:List Cs} {oent oold:List Ad} {oste:List ByteArray} {nonod noent noold noste:Nat}
theorem T6{list:List ByteArray}{xlist:List (List D)}(hcb:cb.map cB=xcb)(hlist:list.map cS=xlist)(hc:0≤ci∧ci≤cb.length∧cb.length≤1000000000000)(hl:0<list.length∧list.length≤1000)(hr:F4 cb ci ch list=(o,oi,oh)):Fn Tryz.prog 176 [.ptr 0 0 0,.d (.row 1 xlist)] [.box 140 [.d (.row 1 xcb),I ci,I ch]] ⟨S o,[],[(0,.box 140 [.d (.row 1 xcb),I oi,I oh])]⟩:=by
 refine Fn.goR H6 Tryz.func176 fun P hP Q hQ=>?_
 conv=>cbv
 refine .go hlist fun v1 ab=>?_
 conv=>cbv
 have ae:v1=(list.length:Int):=ab
 rcases aa:Ag cb ci ch v1 with⟨d3,ri3,rh3⟩
 have zr3:=Aj aa (by omega)
 refine .bx [0] [] hP (B0 hcb (by omega) aa) rfl rfl rfl rfl ?_
 conv=>cbv
 refine .go d3.toNat hlist fun ac e4 ad=>?_
 conv=>cbv
 have e:(e4,ri3,rh3)=F4 cb ci ch list:=(by unfold F4;rw[←ab];simp only[aa];rw[List.getD_eq_getElem?_getD,List.getElem?_eq_getElem ac,Option.getD_some,←ad])
 rw[hr]at e
 simp only[Prod.mk.injEq]at e
 obtain⟨rfl,rfl,rfl⟩:=e
 exact hQ _ _ (.of [] (.inl rfl) rfl rfl rfl rfl)
theorem S5{most:Int}{o:List ByteArray}{xo:List (List D)}{no:Nat}(hcb:cb.map cB=xcb)(hc:0≤ci∧ci≤cb.length∧cb.length≤1000000000000)(hm:0≤most∧most≤100)(ho:o.map cS=xo)(hr:Eo cb ci ch most=(o,oi,oh))(hno:no=o.length):Fn Tryz.prog 96 [.ptr 0 0 0,I most] [.box 140 [.d (.row 1 xcb),I ci,I ch]] ⟨.ref 1 0 no,[.row 1 false xo],[(0,.box 140 [.d (.row 1 xcb),I oi,I oh])]⟩:=by
 refine Fn.goR H6 Tryz.func96 fun P hP Q hQ=>?_
 conv=>cbv
 refine LoopW.lp (κ:=Int×Int×Int×(List (List D))×Nat) H6 hP [2] [0,1] (fun(i6,aa,ab,ac,ad)=>[(5,.ref 3 0 ad),(6,I i6)]) (fun(i6,aa,ab,ac,ad)=>[(0,.box 140 [.d (.row 1 xcb),I aa,I ab]),(3,.row 1 false ac)])
  (fun(i6,aa,ab,ac,ad)=>∃(w3:List ByteArray),w3.map cS=ac∧ad=w3.length∧0≤i6∧i6≤most∧(0≤aa∧aa≤cb.length)∧w3.length=i6.toNat∧Eo cb ci ch most=(match XiH cb most (most.toNat+1 - i6.toNat) i6 aa ab with|(l,i,h)=>(w3++l,i,h)))
  (fun(i6,aa,ab,ac,ad)=>(most - i6).toNat) (0,ci,ch,[],0) ⟨[],rfl,rfl,by omega,by omega,by omega,rfl,by unfold Eo;simp⟩ ⟨rfl,rfl,trivial⟩ rfl ?_
 rintro⟨i6,aa,ab,ac,ad⟩ J ⟨w3,ag,al,h0,h1,hcu,hwl,hw⟩ hJ
 conv=>cbv
 refine .add fun v1 ah=>?_
 conv=>cbv
 rcases ae:Ag cb aa ab v1 with⟨d3,ri3,rh3⟩
 have zr3:=Aj ae (by omega)
 refine .bx [0] [] hP (B0 hcb (by omega) ae) rfl rfl rfl rfl ?_
 conv=>cbv
 refine .lss (fun h4=>?_) fun h4=>?_
 conv=>cbv
 rcases af:Dq cb ri3 rh3 with⟨d6,ri6,rh6⟩
 have zr6:=Ku af (by omega)
 refine .bx [0] [] hP (Ua hcb (by omega) af) rfl rfl rfl rfl ?_
 conv=>cbv
 refine .one d6 ag rfl fun ai z7 am aj=>?_
 conv=>cbv
 refine .add fun v8 ak=>?_
 conv=>cbv
 exact .go [5] (v8,ri6,rh6,z7,ai) (hJ _ ⟨_,aj,D4,by omega,by omega,by omega,by rw[List.length_append,hwl];simp;omega,by rw[hw,show most.toNat+1 - i6.toNat=(most.toNat+1 - v8.toNat)+1 by omega,ak];simp only[XiH,←ah,ae];rw[if_pos (by omega)];simp only[af];simp⟩ mlt)
 conv=>cbv
 have e:(w3,ri3,rh3)=Eo cb ci ch most:=(by rw[hw,show most.toNat+1 - i6.toNat=(most.toNat - i6.toNat)+1 by omega];simp only[XiH,←ah,ae];rw[if_neg (by omega)];simp)
 rw[hr]at e
 simp only[Prod.mk.injEq]at e
 obtain⟨rfl,rfl,rfl⟩:=e
 obtain rfl:ac=xo:=by rw[←ag,←ho]
 obtain rfl:ad=no:=by first|omega|(rw[hno];simp;done)|(rw[hno];simp;omega)
 exact hQ _ _ (.of [3] (.inl rfl) rfl rfl rfl rfl)
theorem Xhj{over:Int}{ostr:Int}{obas:Int}{olin:Int}(hcb:cb.map cB=xcb)(hc:0≤ci∧ci≤cb.length∧cb.length≤1000000000000)(hr:Kf cb ci ch=(⟨over,ostr,obas,olin⟩,oi,oh)):Fn Tryz.prog 276 [.ptr 0 0 0] [.box 140 [.d (.row 1 xcb),I ci,I ch]] ⟨.agg [I over,I ostr,I obas,I olin],[],[(0,.box 140 [.d (.row 1 xcb),I oi,I oh])]⟩:=by
 refine Fn.goR H6 Tryz.func276 fun P hP Q hQ=>?_
 conv=>cbv
 rcases ab:Ag cb ci ch 2 with⟨d2,ri2,rh2⟩
 have zr2:=Aj ab (by omega)
 refine .bx [0] [] hP (B0 hcb (by omega) ab) rfl rfl rfl rfl ?_
 conv=>cbv
 refine .add fun v3 ae=>?_
 conv=>cbv
 rcases ac:Ag cb ri2 rh2 4 with⟨d5,ri5,rh5⟩
 have zr5:=Aj ac (by omega)
 refine .bx [0] [] hP (B0 hcb (by omega) ac) rfl rfl rfl rfl ?_
 conv=>cbv
 refine .add fun v6 af=>?_
 conv=>cbv
 rcases ad:Ag cb ri5 rh5 9 with⟨d8,ri8,rh8⟩
 have zr8:=Aj ad (by omega)
 refine .bx [0] [] hP (B0 hcb (by omega) ad) rfl rfl rfl rfl ?_
 conv=>cbv
 rcases aa:Ag cb ri8 rh8 1000000 with⟨d10,ri10,rh10⟩
 have zr10:=Aj aa (by omega)
 refine .bx [0] [] hP (B0 hcb (by omega) aa) rfl rfl rfl rfl ?_
 conv=>cbv
 have e:((⟨v3,v6,d8,d10⟩:Az),ri10,rh10)=Kf cb ci ch:=(by unfold Kf;simp only[ab,ac,ad,aa];rw[ae,af])
 rw[hr]at e
 simp only[Prod.mk.injEq,Az.mk.injEq]at e
 obtain⟨⟨rfl,rfl,rfl,rfl⟩,rfl,rfl⟩:=e
 exact hQ _ _ (.of [] (.inl rfl) rfl rfl rfl rfl)
theorem P2{t:ByteArray}(hcb:cb.map cB=xcb)(hc:0≤ci∧ci≤cb.length∧cb.length≤1000000000000)(hz:t.size≤1000000)(hr:Dj cb ci ch t=(o,oi,oh)):Fn Tryz.prog 218 [.ptr 0 0 0,S t] [.box 140 [.d (.row 1 xcb),I ci,I ch]] ⟨S o,[],[(0,.box 140 [.d (.row 1 xcb),I oi,I oh])]⟩:=by
 refine Fn.goR H6 Tryz.func218 fun P hP Q hQ=>?_
 conv=>cbv
 refine .eql (fun h1=>?_) fun h1=>?_
 conv=>cbv
 have e:(t,ci,ch)=Dj cb ci ch t:=(by unfold Dj;rw[if_pos (show t=tx []from h1)])
 rw[hr]at e
 simp only[Prod.mk.injEq]at e
 obtain⟨rfl,rfl,rfl⟩:=e
 exact hQ _ _ (.of [] (.inl rfl) rfl rfl rfl rfl)
 conv=>cbv
 rcases aa:Bw cb ci ch 2 with⟨d3,ri3,rh3⟩
 have zr3:=Cf aa (by omega)
 refine .bx [0] [] hP (Fj hcb (by omega) aa) rfl rfl rfl rfl ?_
 cases d3
 conv=>cbv
 have hps:=Xeh (t:=t) h1
 refine .go fun v4 ag=>?_
 conv=>cbv
 rcases ac:Ag cb ri3 rh3 v4 with⟨d6,ri6,rh6⟩
 have zr6:=Aj ac (by omega)
 refine .bx [0] [] hP (B0 hcb (by omega) ac) rfl rfl rfl rfl ?_
 conv=>cbv
 rcases ad:Ag cb ri6 rh6 4 with⟨d8,ri8,rh8⟩
 have zr8:=Aj ad (by omega)
 refine .bx [0] [] hP (B0 hcb (by omega) ad) rfl rfl rfl rfl ?_
 conv=>cbv
 refine .eql (fun h9=>?_) fun h9=>?_
 conv=>cbv
 refine .hi fun az ao=>?_
 conv=>cbv
 have e:(az,ri8,rh8)=Dj cb ci ch t:=(by unfold Dj;rw[if_neg (show¬t=tx []from h1),←ag];simp only[aa,ac,ad,Bool.false_eq_true,if_false];rw[if_pos h9,ao];rfl)
 rw[hr]at e
 simp only[Prod.mk.injEq]at e
 obtain⟨rfl,rfl,rfl⟩:=e
 exact hQ _ _ (.of [] (.inl rfl) rfl rfl rfl rfl)
 conv=>cbv
 refine .eql (fun h10=>?_) fun h10=>?_
 conv=>cbv
 refine .hi fun a1 ah=>?_
 conv=>cbv
 have bj:a1.size≤t.size:=by rw[ah,ByteArray.size_extract];omega
 refine .add fun a2 bk=>?_
 conv=>cbv
 refine .lo fun a6 ai=>?_
 conv=>cbv
 have bl:a6.size≤t.size:=by rw[ai,ByteArray.size_extract];omega
 refine .go fun a7 ap bm=>?_
 conv=>cbv
 have e:(a7,ri8,rh8)=Dj cb ci ch t:=(by unfold Dj;rw[if_neg (show¬t=tx []from h1),←ag];simp only[aa,ac,ad,Bool.false_eq_true,if_false];rw[if_neg h9,if_pos h10,ap,ah,ai,show a2.toNat=d6.toNat+1 by omega];rfl)
 rw[hr]at e
 simp only[Prod.mk.injEq]at e
 obtain⟨rfl,rfl,rfl⟩:=e
 exact hQ _ _ (.of [] (.inl rfl) rfl rfl rfl rfl)
 conv=>cbv
 refine .eql (fun h11=>?_) fun h11=>?_
 conv=>cbv
 rcases ae:Ag cb ri8 rh8 4 with⟨d13,ri13,rh13⟩
 have zr13:=Aj ae (by omega)
 refine .bx [0] [] hP (B0 hcb (by omega) ae) rfl rfl rfl rfl ?_
 conv=>cbv
 refine .add fun a8 aq=>?_
 conv=>cbv
 rcases ab:D5 cb ri13 rh13 a8 with⟨d16,ri16,rh16⟩
 have zr16:=Hh ab (by omega)
 refine .bx [0] [] hP (Pz hcb (by omega) ab) rfl rfl rfl rfl ?_
 conv=>cbv
 refine .go fun ba ar bn=>?_
 conv=>cbv
 have e:(ba,ri16,rh16)=Dj cb ci ch t:=(by unfold Dj;rw[if_neg (show¬t=tx []from h1),←ag];simp only[aa,ac,ad,ae,ab,Bool.false_eq_true,if_false];rw[if_neg h9,if_neg h10,if_pos h11];simp only[←aq,ab];rw[ar])
 rw[hr]at e
 simp only[Prod.mk.injEq]at e
 obtain⟨rfl,rfl,rfl⟩:=e
 exact hQ _ _ (.of [] (.inl rfl) rfl rfl rfl rfl)
 conv=>cbv
 refine .hi fun bb aj=>?_
 conv=>cbv
 refine .go d6.toNat fun hjv13 bw au bv13=>?_
 conv=>cbv
 rcases af:Ag cb ri8 rh8 8 with⟨d15,ri15,rh15⟩
 have zr15:=Aj af (by omega)
 refine .bx [0] [] hP (B0 hcb (by omega) af) rfl rfl rfl rfl ?_
 conv=>cbv
 refine .go fun bc ak=>?_
 conv=>cbv
 have bd:0≤bc:=by rw[ak,F7];omega
 refine .shlW fun bz aw=>?_
 conv=>cbv
 refine .xor fun be al=>?_
 conv=>cbv
 refine .go (hn:=rfl) (show[UInt8.ofNat be.toNat].map cB=_ from congrArg (fun x=>[x]) (Qg (by rw[al];exact xor8 _ _)).symm) fun bf am=>?_
 conv=>cbv
 have bo:bb.size≤t.size:=by rw[aj,ByteArray.size_extract];omega
 have bp:bf.size=1:=by rw[am];rfl
 refine .go fun b0 ax bq=>?_
 conv=>cbv
 refine .add fun bg bt=>?_
 conv=>cbv
 refine .lo fun bh an=>?_
 conv=>cbv
 have bu:bh.size≤t.size:=by rw[an,ByteArray.size_extract];omega
 refine .go fun bi ay bv=>?_
 conv=>cbv
 have e:(bi,ri15,rh15)=Dj cb ci ch t:=(by unfold Dj;rw[if_neg (show¬t=tx []from h1),←ag];simp only[aa,ac,ad,af,Bool.false_eq_true,if_false];rw[if_neg h9,if_neg h10,if_neg h11,ay,ax,aj,an,am,show bg.toNat=d6.toNat+1 by omega,al,aw,ak,au,XbJ];rfl)
 rw[hr]at e
 simp only[Prod.mk.injEq]at e
 obtain⟨rfl,rfl,rfl⟩:=e
 exact hQ _ _ (.of [] (.inl rfl) rfl rfl rfl rfl)
 conv=>cbv
 have e:(t,ri3,rh3)=Dj cb ci ch t:=(by unfold Dj;rw[if_neg (show¬t=tx []from h1)];simp only[aa,if_true])
 rw[hr]at e
 simp only[Prod.mk.injEq]at e
 obtain⟨rfl,rfl,rfl⟩:=e
 exact hQ _ _ (.of [] (.inl rfl) rfl rfl rfl rfl)
theorem O8{hver:Int}{hstr:Int}{hbas:Int}{hlin:Int}{records:List ByteArray}{xrecords:List (List D)}(hrecords:records.map cS=xrecords)(hb:0≤hbas∧hbas≤1000000000)(hl:records.length≤1000)(hx:∀x∈records,x.size≤60)(hr:E4 (⟨hver,hstr,hbas,hlin⟩:Az) records=o):Fn Tryz.prog 217 [.agg [I hver,I hstr,I hbas,I hlin],.d (.row 1 xrecords)] [] ⟨S o,[],[]⟩:=by
 refine Fn.go H6 Tryz.func217 fun P hP Q hQ=>?_
 conv=>cbv
 generalize ab:A7 (⟨hver,hstr,hbas,hlin⟩:Az)=r1
 have zr1:=Gj ab
 refine .dd hP (Rf ab) ?_
 conv=>cbv
 refine LoopW.lp (κ:=ByteArray×Int) H6 hP [] [1,2] (fun(s5,i6)=>[(5,S s5),(6,I i6)]) (fun(s5,i6)=>[])
  (fun(s5,i6)=>0≤i6∧i6≤records.length∧s5.size≤50+84*i6∧E4 (⟨hver,hstr,hbas,hlin⟩:Az) records=s5++Xkp hver (hbas+i6) (records.drop i6.toNat))
  (fun(s5,i6)=>(records.length - i6).toNat) (r1,0) ⟨by omega,by omega,by omega,by rw[Int.add_zero];unfold E4;rw[ab];rfl⟩ ⟨rfl,rfl,trivial⟩ rfl ?_
 rintro⟨s5,i6⟩ J ⟨h0,h1,hsz,hio⟩ hJ
 conv=>cbv
 refine .go hrecords fun v2 ag=>?_
 conv=>cbv
 refine .lss (fun h3=>?_) fun h3=>?_
 conv=>cbv
 refine .add fun v4 ae=>?_
 conv=>cbv
 refine .go i6.toNat hrecords fun aa e5 ad=>?_
 conv=>cbv
 have ah:e5.size≤60:=ad▸hx _ (List.getElem_mem aa)
 generalize ac:Ai hver v4 e5=r6
 have zr6:=Eb ac
 refine .dd hP (Lz (by omega) ac) ?_
 conv=>cbv
 refine .go fun s7 af ai=>?_
 conv=>cbv
 refine .add fun v8 aj=>?_
 conv=>cbv
 exact .go [] (s7,v8) (hJ _ ⟨by omega,by omega,by omega,by rw[hio,List.drop_eq_getElem_cons aa,←ad];show s5++(Ai hver (hbas+i6) e5++Xkp hver (hbas+i6+1) _)=_;rw[←ae,ac,←ByteArray.append_assoc,←af,show v8.toNat=i6.toNat+1 by omega,show hbas+v8=v4+1 by omega]⟩ mlt)
 conv=>cbv
 have e:s5=E4 (⟨hver,hstr,hbas,hlin⟩:Az) records:=(by rw[hio,List.drop_of_length_le (by omega)];exact ByteArray.append_empty.symm)
 rw[hr]at e
 subst e
 exact hQ _ _ (.s rfl rfl)
theorem Xg0(hcb:cb.map cB=xcb)(hc:0≤ci∧ci≤cb.length∧cb.length≤1000000000000)(hr:Ip cb ci ch=(o,oi,oh)):Fn Tryz.prog 220 [.ptr 0 0 0] [.box 140 [.d (.row 1 xcb),I ci,I ch]] ⟨S o,[],[(0,.box 140 [.d (.row 1 xcb),I oi,I oh])]⟩:=by
 refine Fn.goR H6 Tryz.func220 fun P hP Q hQ=>?_
 conv=>cbv
 rcases ad:Kf cb ci ch with⟨⟨d2ver,d2str,d2bas,d2lin⟩,ri2,rh2⟩
 have zr2:=Xy ad (by omega)
 refine .bx [0] [] hP (Xhj hcb (by omega) ad) rfl rfl rfl rfl ?_
 conv=>cbv
 dsimp only at zr2
 rcases ae:Eo cb ri2 rh2 6 with⟨d4,ri4,rh4⟩
 generalize ac:d4.map cS=xd4
 obtain⟨nd4,hnd4⟩:∃m,m=d4.length:=⟨_,rfl⟩
 have zr4:=Ja ae (by omega) (by omega)
 refine .bx [0] [] hP (S5 hcb (by omega) (by omega) ac ae hnd4) rfl rfl rfl rfl ?_
 conv=>cbv
 rcases af:Bw cb ri4 rh4 2 with⟨d6,ri6,rh6⟩
 have zr6:=Cf af (by omega)
 refine .bx [0] [] hP (Fj hcb (by omega) af) rfl rfl rfl rfl ?_
 cases d6
 conv=>cbv
 generalize aa:E4 (⟨d2ver,d2str,d2bas,d2lin⟩:Az) d4=r7
 have zr7:=Kp aa
 refine .lnt hP (O8 ac (by omega) (by omega) zr4.1.2 aa) (.agg (.d rfl (.d rfl (.d rfl (.d rfl .nil)))) (.ref rfl (Af ac) .nil)) ?_
 conv=>cbv
 rcases ab:Dj cb ri6 rh6 r7 with⟨d9,ri9,rh9⟩
 have zr9:=H8 ab (by omega)
 refine .bx [0] [] hP (P2 hcb (by omega) (by omega) ab) rfl rfl rfl rfl ?_
 conv=>cbv
 have e:(d9,ri9,rh9)=Ip cb ci ch:=(by unfold Ip;simp only[ad,ae,af,Bool.false_eq_true,if_false];rw[aa];exact ab.symm)
 rw[hr]at e
 simp only[Prod.mk.injEq]at e
 obtain⟨rfl,rfl,rfl⟩:=e
 exact hQ _ _ (.of [] (.inl rfl) rfl rfl rfl rfl)
 conv=>cbv
 generalize aa:Bh (⟨d2ver,d2str,d2bas,d2lin⟩:Az) d4=r7
 have zr7:=G5 aa
 refine .lnt hP (Lh ac (by omega) aa) (.agg (.d rfl (.d rfl (.d rfl (.d rfl .nil)))) (.ref rfl (Af ac) .nil)) ?_
 conv=>cbv
 rcases ab:Dj cb ri6 rh6 r7 with⟨d9,ri9,rh9⟩
 have zr9:=H8 ab (by omega)
 refine .bx [0] [] hP (P2 hcb (by omega) (by omega) ab) rfl rfl rfl rfl ?_
 conv=>cbv
 have e:(d9,ri9,rh9)=Ip cb ci ch:=(by unfold Ip;simp only[ad,ae,af,if_true];rw[aa];exact ab.symm)
 rw[hr]at e
 simp only[Prod.mk.injEq]at e
 obtain⟨rfl,rfl,rfl⟩:=e
 exact hQ _ _ (.of [] (.inl rfl) rfl rfl rfl rfl)
theorem Wr{room:Int}(hr:Gr room=⟨onod,oent,oold,oste,oroo,onex⟩)(Ge:onod.map B5=Ew)(Gb:oent.map Ae=Ev)(Gd:oold.map Ae=Eu)(F9:oste.map cS=Ex)(hnonod:nonod=onod.length)(hnoent:noent=oent.length)(hnoold:noold=oold.length)(hnoste:noste=oste.length):Fn Tryz.prog 62 [I room] [] ⟨.agg [.ref 0 0 nonod,.ref 1 0 noent,.ref 2 0 noold,.ref 3 0 noste,I oroo,I onex],[.row 3 false Ew,.row 2 false Ev,.row 2 false Eu,.row 1 false Ex],[]⟩:=by
 refine Fn.goR H6 Tryz.func62 fun P hP Q hQ=>?_
 conv=>cbv
 refine .lss (fun h1=>?_) fun h1=>?_
 conv=>cbv
 have e:(⟨[],[],[],[],0,1⟩:Aa)=Gr room:=(by unfold Gr;rw[show max 0 room=0 by omega])
 rw[hr]at e
 simp only[Aa.mk.injEq]at e
 obtain⟨rfl,rfl,rfl,rfl,rfl,rfl⟩:=e
 obtain rfl:[]=Ew:=by first|(rw[←Ge];done)|(rw[←Ge];rfl)
 obtain rfl:0=nonod:=by first|omega|(rw[hnonod];simp;done)|(rw[hnonod];simp;omega)
 obtain rfl:[]=Ev:=by first|(rw[←Gb];done)|(rw[←Gb];rfl)
 obtain rfl:0=noent:=by first|omega|(rw[hnoent];simp;done)|(rw[hnoent];simp;omega)
 obtain rfl:[]=Eu:=by first|(rw[←Gd];done)|(rw[←Gd];rfl)
 obtain rfl:0=noold:=by first|omega|(rw[hnoold];simp;done)|(rw[hnoold];simp;omega)
 obtain rfl:[]=Ex:=by first|(rw[←F9];done)|(rw[←F9];rfl)
 obtain rfl:0=noste:=by first|omega|(rw[hnoste];simp;done)|(rw[hnoste];simp;omega)
 exact hQ _ _ (.of [5,6,7,8] (.inl rfl) rfl rfl rfl rfl)
 conv=>cbv
 have e:(⟨[],[],[],[],room,1⟩:Aa)=Gr room:=(by unfold Gr;rw[show max 0 room=room by omega])
 rw[hr]at e
 simp only[Aa.mk.injEq]at e
 obtain⟨rfl,rfl,rfl,rfl,rfl,rfl⟩:=e
 obtain rfl:[]=Ew:=by first|(rw[←Ge];done)|(rw[←Ge];rfl)
 obtain rfl:0=nonod:=by first|omega|(rw[hnonod];simp;done)|(rw[hnonod];simp;omega)
 obtain rfl:[]=Ev:=by first|(rw[←Gb];done)|(rw[←Gb];rfl)
 obtain rfl:0=noent:=by first|omega|(rw[hnoent];simp;done)|(rw[hnoent];simp;omega)
 obtain rfl:[]=Eu:=by first|(rw[←Gd];done)|(rw[←Gd];rfl)
 obtain rfl:0=noold:=by first|omega|(rw[hnoold];simp;done)|(rw[hnoold];simp;omega)
 obtain rfl:[]=Ex:=by first|(rw[←F9];done)|(rw[←F9];rfl)
 obtain rfl:0=noste:=by first|omega|(rw[hnoste];simp;done)|(rw[hnoste];simp;omega)
 exact hQ _ _ (.of [5,6,7,8] (.inl rfl) rfl rfl rfl rfl)
theorem Qh{Ak:List Cs}{Bj:List (List D)}{Al:List Ad}{Be:List (List D)}{An:List Ad}{Bd:List (List D)}{Am:List ByteArray}{Bf:List (List D)}{Aq:Int}{As:Int}{name:ByteArray}{text:ByteArray}(hcb:cb.map cB=xcb)(Ay:Ak.map B5=Bj)(Av:Al.map Ae=Be)(A3:An.map Ae=Bd)(A5:Am.map cS=Bf)(hc:0≤ci∧ci≤cb.length∧cb.length≤1000000000000){m:Nat}(hd:okE m (⟨Ak,Al,An,Am,Aq,As⟩:Aa))(hmm:m≤900)(hnz:name.size≤1000)(htz:text.size≤1000000)(Ge:onod.map B5=Ew)(Gb:oent.map Ae=Ev)(Gd:oold.map Ae=Eu)(F9:oste.map cS=Ex)(hr:Fc cb ci ch (⟨Ak,Al,An,Am,Aq,As⟩:Aa) name text=(⟨onod,oent,oold,oste,oroo,onex⟩,oi,oh))(hnonod:nonod=onod.length)(hnoent:noent=oent.length)(hnoold:noold=oold.length)(hnoste:noste=oste.length):Fn Tryz.prog 219 [.ptr 0 0 0,.agg [.d (.row 3 Bj),.d (.row 2 Be),.d (.row 2 Bd),.d (.row 1 Bf),I Aq,I As],S name,S text] [.box 140 [.d (.row 1 xcb),I ci,I ch]] ⟨.agg [.ref 1 0 nonod,.ref 2 0 noent,.ref 3 0 noold,.ref 4 0 noste,I oroo,I onex],[.row 3 false Ew,.row 2 false Ev,.row 2 false Eu,.row 1 false Ex],[(0,.box 140 [.d (.row 1 xcb),I oi,I oh])]⟩:=by
 refine Fn.goR H6 Tryz.func219 fun P hP Q hQ=>?_
 conv=>cbv
 rcases b4:Ch (⟨Ak,Al,An,Am,Aq,As⟩:Aa) name with⟨⟨a2,a6,a7,a8,cj,ck⟩,dc⟩
 generalize ax:a2.map B5=c4
 generalize ay:a6.map Ae=c5
 generalize az:a7.map Ae=c6
 generalize a1:a8.map cS=c7
 obtain⟨nr1anod,hnr1anod⟩:∃m,m=a2.length:=⟨_,rfl⟩
 obtain⟨nr1aent,hnr1aent⟩:∃m,m=a6.length:=⟨_,rfl⟩
 obtain⟨nr1aold,hnr1aold⟩:∃m,m=a7.length:=⟨_,rfl⟩
 obtain⟨nr1aste,hnr1aste⟩:∃m,m=a8.length:=⟨_,rfl⟩
 have g1:=hd.of (Qi (name:=name) hd.1 (okE.st hd (by omega)) (by omega)) Td
 rw[b4]at g1
 try simp only[]at g1
 refine .ddN hP (Ql Ay Av A3 A5 hd.1.1.1 hd.1.1.2.2.1 hd.1.1.2.2.2.2.1 (okE.st hd (by omega)) hd.1.2.2 hd.1 (by omega) b4 ax ay az a1 hnr1anod hnr1aent hnr1aold hnr1aste) rfl ?_
 conv=>cbv
 rcases b5:Ax (⟨a2,a6,a7,a8,cj,ck⟩:Aa) name with⟨⟨ba,bb,bc,bd,cm,cn⟩,de⟩
 generalize ai:ba.map B5=c8
 generalize aj:bb.map Ae=c9
 generalize ak:bc.map Ae=da
 generalize al:bd.map cS=db
 obtain⟨nr2anod,hnr2anod⟩:∃m,m=ba.length:=⟨_,rfl⟩
 obtain⟨nr2aent,hnr2aent⟩:∃m,m=bb.length:=⟨_,rfl⟩
 obtain⟨nr2aold,hnr2aold⟩:∃m,m=bc.length:=⟨_,rfl⟩
 obtain⟨nr2aste,hnr2aste⟩:∃m,m=bd.length:=⟨_,rfl⟩
 have g2:=g1.of (Jz (name:=name) g1.1 (okE.st g1 (by omega)) (by omega)) L3
 rw[b5]at g2
 try simp only[]at g2
 refine .lntN hP (Jk ax ay az a1 g1.1.1.1 g1.1.1.2.2.1 g1.1.1.2.2.2.2.1 (okE.st g1 (by omega)) g1.1.2.2 g1.1 (by omega) b5 ai aj ak al hnr2anod hnr2aent hnr2aold hnr2aste) (.agg (.ref rfl (Af ax) (.ref rfl (Af ay) (.ref rfl (Af az) (.ref rfl (Af a1) (.d rfl (.d rfl .nil)))))) (.d rfl .nil)) rfl rfl rfl (by simp only[List.all_cons,List.all_nil,Bool.and_self,At (fun _=>rfl) ai,At (fun _=>rfl) aj,At (fun _=>rfl) ak,At (fun _=>rfl) al]) ?_
 conv=>cbv
 rcases b6:Bp (⟨ba,bb,bc,bd,cm,cn⟩:Aa) name text with⟨⟨am,an,ao,ap,be,bf⟩,df⟩
 generalize aa:am.map B5=b8
 generalize ab:an.map Ae=b9
 generalize ac:ao.map Ae=ca
 generalize ad:ap.map cS=cc
 obtain⟨nr3anod,hnr3anod⟩:∃m,m=am.length:=⟨_,rfl⟩
 obtain⟨nr3aent,hnr3aent⟩:∃m,m=an.length:=⟨_,rfl⟩
 obtain⟨nr3aold,hnr3aold⟩:∃m,m=ao.length:=⟨_,rfl⟩
 obtain⟨nr3aste,hnr3aste⟩:∃m,m=ap.length:=⟨_,rfl⟩
 have g3:=g2.of (P0 (name:=name) (text:=text) g2.1) Th
 rw[b6]at g3
 try simp only[]at g3
 refine .lntN hP (Py ai aj ak al g2.1.1.1 g2.1.1.2.2.1 g2.1.1.2.2.2.2.1 (okE.st g2 (by omega)) g2.1.2.2 g2.1 (by omega) b6 aa ab ac ad hnr3anod hnr3aent hnr3aold hnr3aste) (.agg (.ref rfl (Af ai) (.ref rfl (Af aj) (.ref rfl (Af ak) (.ref rfl (Af al) (.d rfl (.d rfl .nil)))))) (.d rfl (.d rfl .nil))) rfl rfl rfl (by simp only[List.all_cons,List.all_nil,Bool.and_self,At (fun _=>rfl) aa,At (fun _=>rfl) ab,At (fun _=>rfl) ac,At (fun _=>rfl) ad]) ?_
 conv=>cbv
 rcases b7:Bw cb ci ch 4 with⟨d5,ri5,rh5⟩
 have zr5:=Cf b7 (by omega)
 refine .bx [0] [] hP (Fj hcb (by omega) b7) rfl rfl rfl rfl ?_
 cases d5
 conv=>cbv
 rcases co:Dm (⟨am,an,ao,ap,be,bf⟩:Aa) name with⟨⟨aq,ar,au,aw,b2,b3⟩,dg⟩
 generalize ae:aq.map B5=cd
 generalize af:ar.map Ae=ce
 generalize ag:au.map Ae=cf
 generalize ah:aw.map cS=cg
 obtain⟨nr6anod,hnr6anod⟩:∃m,m=aq.length:=⟨_,rfl⟩
 obtain⟨nr6aent,hnr6aent⟩:∃m,m=ar.length:=⟨_,rfl⟩
 obtain⟨nr6aold,hnr6aold⟩:∃m,m=au.length:=⟨_,rfl⟩
 obtain⟨nr6aste,hnr6aste⟩:∃m,m=aw.length:=⟨_,rfl⟩
 have g6:=g3.of (Yd (name:=name) g3.1) Xdq
 rw[co]at g6
 try simp only[]at g6
 refine .lntN hP (U2 aa ab ac ad g3.1.1.1 g3.1.1.2.2.1 g3.1.1.2.2.2.2.1 (okE.st g3 (by omega)) g3.1.2.2 g3.1 co ae af ag ah hnr6anod hnr6aent hnr6aold hnr6aste) (.agg (.ref rfl (Af aa) (.ref rfl (Af ab) (.ref rfl (Af ac) (.ref rfl (Af ad) (.d rfl (.d rfl .nil)))))) (.d rfl .nil)) rfl rfl rfl (by simp only[List.all_cons,List.all_nil,Bool.and_self,At (fun _=>rfl) ae,At (fun _=>rfl) af,At (fun _=>rfl) ag,At (fun _=>rfl) ah]) ?_
 conv=>cbv
 rcases bo:Bw cb ri5 rh5 4 with⟨d8,ri8,rh8⟩
 have zr8:=Cf bo (by omega)
 refine .bx [0] [] hP (Fj hcb (by omega) bo) rfl rfl rfl rfl ?_
 cases d8
 conv=>cbv
 rcases cz:Do (⟨aq,ar,au,aw,b2,b3⟩:Aa)with⟨bp,bq,bt,bu,c0,c1⟩
 generalize bg:bp.map B5=cp
 generalize bh:bq.map Ae=cq
 generalize bi:bt.map Ae=cr
 generalize bj:bu.map cS=ct
 obtain⟨nr9nod,hnr9nod⟩:∃m,m=bp.length:=⟨_,rfl⟩
 obtain⟨nr9ent,hnr9ent⟩:∃m,m=bq.length:=⟨_,rfl⟩
 obtain⟨nr9old,hnr9old⟩:∃m,m=bt.length:=⟨_,rfl⟩
 obtain⟨nr9ste,hnr9ste⟩:∃m,m=bu.length:=⟨_,rfl⟩
 have g9:=g6.of (Qm g6.1) Ui
 rw[cz]at g9
 try simp only[]at g9
 refine .lntN hP (Nt ae af ag ah g6.1.1.1 g6.1.1.2.2.1 g6.1.1.2.2.2.2.1 (okE.st g6 (by omega)) g6.1.2.2 g6.1 cz bg bh bi bj hnr9nod hnr9ent hnr9old hnr9ste) (.agg (.ref rfl (Af ae) (.ref rfl (Af af) (.ref rfl (Af ag) (.ref rfl (Af ah) (.d rfl (.d rfl .nil)))))) .nil) rfl rfl rfl (by simp only[List.all_cons,List.all_nil,Bool.and_self,At (fun _=>rfl) bg,At (fun _=>rfl) bh,At (fun _=>rfl) bi,At (fun _=>rfl) bj]) ?_
 conv=>cbv
 have e:((⟨bp,bq,bt,bu,c0,c1⟩:Aa),ri8,rh8)=Fc cb ci ch (⟨Ak,Al,An,Am,Aq,As⟩:Aa) name text:=(by unfold Fc;simp only[b7,bo,b4,b5,b6,co,cz,Bool.false_eq_true,if_false,if_true])
 rw[hr]at e
 simp only[Prod.mk.injEq,Aa.mk.injEq]at e
 obtain⟨⟨rfl,rfl,rfl,rfl,rfl,rfl⟩,rfl,rfl⟩:=e
 obtain rfl:cp=Ew:=by rw[←bg,←Ge]
 obtain rfl:nr9nod=nonod:=by first|omega|(rw[hnonod];simp;done)|(rw[hnonod];simp;omega)
 obtain rfl:cq=Ev:=by rw[←bh,←Gb]
 obtain rfl:nr9ent=noent:=by first|omega|(rw[hnoent];simp;done)|(rw[hnoent];simp;omega)
 obtain rfl:cr=Eu:=by rw[←bi,←Gd]
 obtain rfl:nr9old=noold:=by first|omega|(rw[hnoold];simp;done)|(rw[hnoold];simp;omega)
 obtain rfl:ct=Ex:=by rw[←bj,←F9]
 obtain rfl:nr9ste=noste:=by first|omega|(rw[hnoste];simp;done)|(rw[hnoste];simp;omega)
 exact hQ _ _ (.of [23,24,25,26] (.inl rfl) rfl rfl rfl rfl)
 conv=>cbv
 have e:((⟨aq,ar,au,aw,b2,b3⟩:Aa),ri8,rh8)=Fc cb ci ch (⟨Ak,Al,An,Am,Aq,As⟩:Aa) name text:=(by unfold Fc;simp only[b7,bo,b4,b5,b6,co,Bool.false_eq_true,if_false,if_true])
 rw[hr]at e
 simp only[Prod.mk.injEq,Aa.mk.injEq]at e
 obtain⟨⟨rfl,rfl,rfl,rfl,rfl,rfl⟩,rfl,rfl⟩:=e
 obtain rfl:cd=Ew:=by rw[←ae,←Ge]
 obtain rfl:nr6anod=nonod:=by first|omega|(rw[hnonod];simp;done)|(rw[hnonod];simp;omega)
 obtain rfl:ce=Ev:=by rw[←af,←Gb]
 obtain rfl:nr6aent=noent:=by first|omega|(rw[hnoent];simp;done)|(rw[hnoent];simp;omega)
 obtain rfl:cf=Eu:=by rw[←ag,←Gd]
 obtain rfl:nr6aold=noold:=by first|omega|(rw[hnoold];simp;done)|(rw[hnoold];simp;omega)
 obtain rfl:cg=Ex:=by rw[←ah,←F9]
 obtain rfl:nr6aste=noste:=by first|omega|(rw[hnoste];simp;done)|(rw[hnoste];simp;omega)
 exact hQ _ _ (.of [19,20,21,22] (.inl rfl) rfl rfl rfl rfl)
 conv=>cbv
 rcases cu:Bw cb ri5 rh5 4 with⟨d7,ri7,rh7⟩
 have zr7:=Cf cu (by omega)
 refine .bx [0] [] hP (Fj hcb (by omega) cu) rfl rfl rfl rfl ?_
 cases d7
 conv=>cbv
 rcases bo:Do (⟨am,an,ao,ap,be,bf⟩:Aa)with⟨bv,bw,bz,b0,c2,c3⟩
 generalize bk:bv.map B5=cv
 generalize bl:bw.map Ae=cw
 generalize bm:bz.map Ae=cx
 generalize bn:b0.map cS=cy
 obtain⟨nr8nod,hnr8nod⟩:∃m,m=bv.length:=⟨_,rfl⟩
 obtain⟨nr8ent,hnr8ent⟩:∃m,m=bw.length:=⟨_,rfl⟩
 obtain⟨nr8old,hnr8old⟩:∃m,m=bz.length:=⟨_,rfl⟩
 obtain⟨nr8ste,hnr8ste⟩:∃m,m=b0.length:=⟨_,rfl⟩
 have g8:=g3.of (Qm g3.1) Ui
 rw[bo]at g8
 try simp only[]at g8
 refine .lntN hP (Nt aa ab ac ad g3.1.1.1 g3.1.1.2.2.1 g3.1.1.2.2.2.2.1 (okE.st g3 (by omega)) g3.1.2.2 g3.1 bo bk bl bm bn hnr8nod hnr8ent hnr8old hnr8ste) (.agg (.ref rfl (Af aa) (.ref rfl (Af ab) (.ref rfl (Af ac) (.ref rfl (Af ad) (.d rfl (.d rfl .nil)))))) .nil) rfl rfl rfl (by simp only[List.all_cons,List.all_nil,Bool.and_self,At (fun _=>rfl) bk,At (fun _=>rfl) bl,At (fun _=>rfl) bm,At (fun _=>rfl) bn]) ?_
 conv=>cbv
 have e:((⟨bv,bw,bz,b0,c2,c3⟩:Aa),ri7,rh7)=Fc cb ci ch (⟨Ak,Al,An,Am,Aq,As⟩:Aa) name text:=(by unfold Fc;simp only[b7,cu,b4,b5,b6,bo,Bool.false_eq_true,if_false,if_true])
 rw[hr]at e
 simp only[Prod.mk.injEq,Aa.mk.injEq]at e
 obtain⟨⟨rfl,rfl,rfl,rfl,rfl,rfl⟩,rfl,rfl⟩:=e
 obtain rfl:cv=Ew:=by rw[←bk,←Ge]
 obtain rfl:nr8nod=nonod:=by first|omega|(rw[hnonod];simp;done)|(rw[hnonod];simp;omega)
 obtain rfl:cw=Ev:=by rw[←bl,←Gb]
 obtain rfl:nr8ent=noent:=by first|omega|(rw[hnoent];simp;done)|(rw[hnoent];simp;omega)
 obtain rfl:cx=Eu:=by rw[←bm,←Gd]
 obtain rfl:nr8old=noold:=by first|omega|(rw[hnoold];simp;done)|(rw[hnoold];simp;omega)
 obtain rfl:cy=Ex:=by rw[←bn,←F9]
 obtain rfl:nr8ste=noste:=by first|omega|(rw[hnoste];simp;done)|(rw[hnoste];simp;omega)
 exact hQ _ _ (.of [19,20,21,22] (.inl rfl) rfl rfl rfl rfl)
 conv=>cbv
 have e:((⟨am,an,ao,ap,be,bf⟩:Aa),ri7,rh7)=Fc cb ci ch (⟨Ak,Al,An,Am,Aq,As⟩:Aa) name text:=(by unfold Fc;simp only[b7,cu,b4,b5,b6,Bool.false_eq_true,if_false,if_true])
 rw[hr]at e
 simp only[Prod.mk.injEq,Aa.mk.injEq]at e
 obtain⟨⟨rfl,rfl,rfl,rfl,rfl,rfl⟩,rfl,rfl⟩:=e
 obtain rfl:b8=Ew:=by rw[←aa,←Ge]
 obtain rfl:nr3anod=nonod:=by first|omega|(rw[hnonod];simp;done)|(rw[hnonod];simp;omega)
 obtain rfl:b9=Ev:=by rw[←ab,←Gb]
 obtain rfl:nr3aent=noent:=by first|omega|(rw[hnoent];simp;done)|(rw[hnoent];simp;omega)
 obtain rfl:ca=Eu:=by rw[←ac,←Gd]
 obtain rfl:nr3aold=noold:=by first|omega|(rw[hnoold];simp;done)|(rw[hnoold];simp;omega)
 obtain rfl:cc=Ex:=by rw[←ad,←F9]
 obtain rfl:nr3aste=noste:=by first|omega|(rw[hnoste];simp;done)|(rw[hnoste];simp;omega)
 exact hQ _ _ (.of [15,16,17,18] (.inl rfl) rfl rfl rfl rfl)
def nwF(h:Int)(x:UInt8):Int:=La .and .i64 (h*131+x.toNat+7) 1073741823
def Nl(b:List UInt8):Int:=(b.take 4000).foldl nwF (94701+b.length)
def Xkt(b:List UInt8):Bool:=decide (1048576<b.length)
theorem Xiv(hcode:code.map cB=xcode)(hb:code.length≤1000000000000)(hr:Nl code=oh):Fn Tryz.prog 60 [.d (.row 1 xcode)] [] ⟨.ptr 0 0 0,[.box 140 [.d (.row 1 xcode),I 0,I oh]],[]⟩:=by
 refine Fn.goR H6 Tryz.func60 fun P hP Q hQ=>?_
 conv=>cbv
 refine .go hcode fun v1 ae=>?_
 conv=>cbv
 refine .add fun v2 af=>?_
 conv=>cbv
 refine LoopW.lp (κ:=Int×Int) H6 hP [] [0] (fun(i3,i4)=>[(3,I i3),(4,I i4)]) (fun(i3,i4)=>[])
  (fun(i3,i4)=>0≤i4∧i4≤code.length∧i4≤4000∧(0≤i3∧i3≤2000000000000)∧(code.take 4000).foldl nwF (94701+code.length)=((code.take 4000).drop i4.toNat).foldl nwF i3)
  (fun(i3,i4)=>(code.length - i4).toNat) (v2,0) ⟨by omega,by omega,by omega,by omega,by rw[af,ae];rfl⟩ ⟨rfl,rfl,trivial⟩ rfl ?_
 rintro⟨i3,i4⟩ J ⟨h0,h1,h2_,h3_,hx⟩ hJ
 conv=>cbv
 refine .go hcode fun v3 ao=>?_
 conv=>cbv
 refine .lss (fun h4=>?_) fun h4=>?_
 conv=>cbv
 refine .lss (fun h5=>?_) fun h5=>?_
 conv=>cbv
 refine .mul fun v6 ag=>?_
 conv=>cbv
 refine .go i4.toNat hcode fun am e7 ah=>?_
 conv=>cbv
 have hb7_:=e7.toNat_lt
 refine .id (a:=(e7.toNat:Int)) fun v8 ai=>?_
 conv=>cbv
 refine .add fun v9 aj=>?_
 conv=>cbv
 refine .add fun ak ab=>?_
 conv=>cbv
 refine .and fun al aa=>?_
 conv=>cbv
 refine .add fun ac an=>?_
 conv=>cbv
 have ap:=e7.toNat_lt
 have ad:=and30 ak
 rw[←aa]at ad
 exact .go [] (al,ac) (hJ _ ⟨by omega,by omega,by omega,by omega,by rw[hx,List.drop_eq_getElem_cons (by rw[List.length_take];omega),List.foldl_cons,List.getElem_take,←ah,show ac.toNat=i4.toNat+1 by omega];congr 1;unfold nwF;rw[aa,ab,aj,ai,ag]⟩ mlt)
 conv=>cbv
 have e:Nl code=i3:=by unfold Nl;rw[hx,List.drop_of_length_le (by rw[List.length_take];omega)];rfl
 rw[hr]at e
 subst e
 exact hQ _ _ (.of [1] (.inl rfl) rfl rfl rfl rfl)
 conv=>cbv
 have e:Nl code=i3:=by unfold Nl;rw[hx,List.drop_of_length_le (by rw[List.length_take];omega)];rfl
 rw[hr]at e
 subst e
 exact hQ _ _ (.of [1] (.inl rfl) rfl rfl rfl rfl)
theorem Flbig{o:Bool}(hcode:code.map cB=xcode)(hr:Xkt code=o):Fn Tryz.prog 8 [.d (.row 1 xcode)] [] ⟨B o,[],[]⟩:=by
 refine Fn.go H6 Tryz.func8 fun P hP Q hQ=>?_
 conv=>cbv
 refine .go hcode fun v1 aa=>?_
 conv=>cbv
 refine .gtr (fun h2=>?_) fun h2=>?_
 conv=>cbv
 have e:true=Xkt code:=(by unfold Xkt;symm;rw[decide_eq_true_eq];omega)
 rw[hr]at e
 subst e
 exact hQ _ _ (.b rfl rfl)
 conv=>cbv
 have e:false=Xkt code:=(by unfold Xkt;symm;rw[decide_eq_false_iff_not];omega)
 rw[hr]at e
 subst e
 exact hQ _ _ (.b rfl rfl)
end
section
open Go Go.Proofs
set_option maxRecDepth 20000
set_option maxHeartbeats 4000000
def Yj:List (Nat×TyRow):=[ty3,ty9,Zy,Xb9,Xb7,XfJ,XkC]
theorem XcO:B3 Tryz.prog Yj:=B3.of (by kernel_rfl)
theorem Xkm:Setup Tryz.prog Yj:=⟨XcO,mixed⟩
theorem Du:Setup Tryz.prog ((1000054,Fe Tryz.prog 1000054)::((1000049,Fe Tryz.prog 1000049)::((1000040,Fe Tryz.prog 1000040)::Yj))):=(Setup.mark 1000054 (Setup.mark 1000049 (Setup.mark 1000040 Xkm)))
theorem Xf4{cb:List UInt8}{xcb:List (List D)}{ci:Int}{ch:Int}{onod:List Cs}{Ew:List (List D)}{oent:List Ad}{Ev:List (List D)}{oold:List Ad}{Eu:List (List D)}{oste:List ByteArray}{Ex:List (List D)}{oroo:Int}{onex:Int}{oi oh:Int}{nonod:Nat}{noent:Nat}{noold:Nat}{noste:Nat}(hcb:cb.map cB=xcb)(hc:0≤ci∧ci≤cb.length∧cb.length≤1000000000000)(Ge:onod.map B5=Ew)(Gb:oent.map Ae=Ev)(Gd:oold.map Ae=Eu)(F9:oste.map cS=Ex)(hr:Gl cb ci ch=(⟨onod,oent,oold,oste,oroo,onex⟩,oi,oh))(hnonod:nonod=onod.length)(hnoent:noent=oent.length)(hnoold:noold=oold.length)(hnoste:noste=oste.length):Fn Tryz.prog 141 [.ptr 0 0 0] [.box 140 [.d (.row 1 xcb),I ci,I ch]] ⟨.agg [.ref 1 0 nonod,.ref 2 0 noent,.ref 3 0 noold,.ref 4 0 noste,I oroo,I onex],[.row 3 false Ew,.row 2 false Ev,.row 2 false Eu,.row 1 false Ex],[(0,.box 140 [.d (.row 1 xcb),I oi,I oh])]⟩:=by
 refine Fn.goR Du Tryz.func141 fun P hP Q hQ=>?_
 conv=>cbv
 rcases bh:Cd cb ci ch [6000,6000,6000,900]with⟨d2,ri2,rh2⟩
 have zr2:=Ds bh (by omega)
 refine .bxL [0] [6] (.same (.ref rfl rfl .nil)) hP (It hcb rfl (by omega) (by decide) bh) rfl rfl rfl rfl ?_
 conv=>cbv
 rcases cy:Gr d2 with⟨b3,b4,b5,b6,cz,c0⟩
 generalize b8:b3.map B5=cq
 generalize b9:b4.map Ae=cr
 generalize ca:b5.map Ae=ct
 generalize cc:b6.map cS=cu
 obtain⟨nr3nod,hnr3nod⟩:∃m,m=b3.length:=⟨_,rfl⟩
 obtain⟨nr3ent,hnr3ent⟩:∃m,m=b4.length:=⟨_,rfl⟩
 obtain⟨nr3old,hnr3old⟩:∃m,m=b5.length:=⟨_,rfl⟩
 obtain⟨nr3ste,hnr3ste⟩:∃m,m=b6.length:=⟨_,rfl⟩
 have g3:=Yk d2
 rw[cy]at g3
 refine .ddN hP (Wr cy b8 b9 ca cc hnr3nod hnr3ent hnr3old hnr3ste) rfl ?_
 conv=>cbv
 refine LoopW.lp (κ:=Int×Int×Int×Int×Int×Int×Int×(List (List D))×Nat×(List (List D))×Nat×(List (List D))×Nat×(List (List D))×Nat) Du hP [7,8,9,10] [0,2,3] (fun(i4,i5,i6,bg,b7,ad,ae,ar,au,aw,ax,ay,az,a1,a2)=>[(4,I i4),(5,I i5),(6,I i6)]) (fun(i4,i5,i6,bg,b7,ad,ae,ar,au,aw,ax,ay,az,a1,a2)=>[(0,.box 140 [.d (.row 1 xcb),I bg,I b7]),(15,.box 28 [.ref 16 0 au,.ref 17 0 ax,.ref 18 0 az,.ref 19 0 a2,I ad,I ae]),(16,.row 3 false ar),(17,.row 2 false aw),(18,.row 2 false ay),(19,.row 1 false a1)])
  (fun(i4,i5,i6,bg,b7,ad,ae,ar,au,aw,ax,ay,az,a1,a2)=>∃(a6:List Cs) (a7:List Ad) (a8:List Ad) (ba:List ByteArray),a6.map B5=ar∧au=a6.length∧a7.map Ae=aw∧ax=a7.length∧a8.map Ae=ay∧az=a8.length∧ba.map cS=a1∧a2=ba.length∧0≤i6∧i6≤4∧(0≤i4∧i4≤10*i6)∧(0≤bg∧bg≤cb.length)∧okE (5*i6.toNat) (⟨a6,a7,a8,ba,ad,ae⟩:Aa)∧P1 cb 5 0 ri2 rh2 (Gr d2) 0 0=P1 cb (5 - i6.toNat) i6 bg b7 (⟨a6,a7,a8,ba,ad,ae⟩:Aa) i4 i5)
  (fun(i4,i5,i6,bg,b7,ad,ae,ar,au,aw,ax,ay,az,a1,a2)=>(4 - i6).toNat) (0,0,0,ri2,rh2,cz,c0,cq,nr3nod,cr,nr3ent,ct,nr3old,cu,nr3ste) ⟨b3,b4,b5,b6,b8,(by first|omega|(simp;omega)),b9,(by first|omega|(simp;omega)),ca,(by first|omega|(simp;omega)),cc,(by first|omega|(simp;omega)),by omega,by omega,⟨by omega,by omega⟩,by omega,g3,by rw[cy];rfl⟩ ⟨rfl,rfl,rfl,trivial⟩ rfl ?_
 rintro⟨i4,i5,i6,bg,b7,ad,ae,ar,au,aw,ax,ay,az,a1,a2⟩ J ⟨a6,a7,a8,ba,ag,dh,ah,di,ai,dj,aj,dk,h0,h1,hbb,hcu,hE,hio⟩ hJ
 conv=>cbv
 rcases bf:Ag cb bg b7 5 with⟨d5,ri5,rh5⟩
 have zr5:=Aj bf (by omega)
 refine .bx [0] [] hP (B0 hcb (by omega) bf) rfl rfl rfl rfl ?_
 conv=>cbv
 refine .lss (fun h6=>?_) fun h6=>?_
 conv=>cbv
 rcases bb:Ag cb ri5 rh5 2 with⟨d8,ri8,rh8⟩
 have zr8:=Aj bb (by omega)
 refine .bx [0] [] hP (B0 hcb (by omega) bb) rfl rfl rfl rfl ?_
 conv=>cbv
 refine .add fun v9 c9=>?_
 conv=>cbv
 rcases ap:Ag cb ri8 rh8 3 with⟨d11,ri11,rh11⟩
 have zr11:=Aj ap (by omega)
 refine .bx [0] [] hP (B0 hcb (by omega) ap) rfl rfl rfl rfl ?_
 conv=>cbv
 refine .add fun bi cv=>?_
 conv=>cbv
 rcases af:Dq cb ri11 rh11 with⟨d14,ri14,rh14⟩
 have zr14:=Ku af (by omega)
 refine .bx [0] [] hP (Ua hcb (by omega) af) rfl rfl rfl rfl ?_
 conv=>cbv
 rcases aq:Eo cb ri14 rh14 3 with⟨d16,ri16,rh16⟩
 generalize cw:d16.map cS=xd16
 obtain⟨nd16,hnd16⟩:∃m,m=d16.length:=⟨_,rfl⟩
 have zr16:=Ja aq (by omega) (by omega)
 refine .bx [0] [] hP (S5 hcb (by omega) (by omega) cw aq hnd16) rfl rfl rfl rfl ?_
 conv=>cbv
 refine .sub (l:=[d14]) (c:=cS) (m:=d16) (hl:=rfl) rfl cw fun cx dt c1 bj=>?_
 conv=>cbv
 have hnz:cx=([d14]++d16).length:=by rw[c1,List.length_append]
 have ds:cx=(d14::d16).length:=hnz
 have hrl:([d14]++d16).length≤4:=by rw[List.length_append,List.length_singleton];omega
 have hrx:∀x∈[d14]++d16,x.size≤60:=by intro x hx;rcases List.mem_append.1 hx with hx|hx;(rw[List.mem_singleton.1 hx];exact zr14.1);exact zr16.1.2 x hx
 rcases cd:Bw cb ri16 rh16 20 with⟨d19,ri19,rh19⟩
 have zr19:=Cf cd (by omega)
 refine .bx [0] [] hP (Fj hcb (by omega) cd) rfl rfl rfl rfl ?_
 cases d19
 conv=>cbv
 refine JoinW.jn (κ:=Int×Int×Int) Du hP [] [0,2,3,4,5,6,7,8] (fun(c0b_40,c0c_40,c20d_40)=>[]) (fun(c0b_40,c0c_40,c20d_40)=>[(0,.box 140 [.d (.row 1 xcb),I c0b_40,I c0c_40]),(20,.box 38 [I v9,I bi,I i4,I c20d_40])])
  (fun(c0b_40,c0c_40,c20d_40)=>XhU cb ri19 rh19 i5=(c20d_40,c0b_40,c0c_40)∧0≤c0b_40∧c0b_40≤cb.length) (fun Jj1 hJj1=>?_) ?_
 conv=>cbv
 rcases ab:Bw cb ri19 rh19 20 with⟨d21,ri21,rh21⟩
 have zr21:=Cf ab (by omega)
 refine .bx [0] [] hP (Fj hcb (by omega) ab) rfl rfl rfl rfl ?_
 cases d21
 conv=>cbv
 exact .go [] (ri21,rh21,i5) (hJj1 _ ⟨by unfold XhU;rw[ab];first|done|rfl,by omega,by omega⟩)
 conv=>cbv
 refine .xor fun c2 ce=>?_
 conv=>cbv
 exact .go [] (ri21,rh21,c2) (hJj1 _ ⟨by unfold XhU;rw[ab,ce];first|done|rfl,by omega,by omega⟩)
 rintro⟨c0b_40,c0c_40,c20d_40⟩ ⟨hL,hL1,hL2⟩
 conv=>cbv
 generalize bc:Bh (⟨v9,bi,i4,c20d_40⟩:Az) ([d14]++d16)=c3
 have zr20:=G5 bc
 refine .lnt hP (Lh bj (by first|omega|simp) bc) (.agg (.d rfl (.d rfl (.d rfl (.d rfl .nil)))) (.ref rfl (Af bj) .nil)) ?_
 conv=>cbv
 refine JoinW.jn (κ:=ByteArray×Int×Int) Du hP [] [0,2,3,4,5,6,8] (fun(s9_49,c0b_49,c0c_49)=>[(9,S s9_49)]) (fun(s9_49,c0b_49,c0c_49)=>[(0,.box 140 [.d (.row 1 xcb),I c0b_49,I c0c_49])])
  (fun(s9_49,c0b_49,c0c_49)=>V5 cb c0b_40 c0c_40 (⟨v9,bi,i4,c20d_40⟩:Az) (d14::d16)=(s9_49,c0b_49,c0c_49)∧(0≤c0b_49∧c0b_49≤cb.length)∧s9_49.size≤200400) (fun Jj2 hJj2=>?_) ?_
 conv=>cbv
 rcases aa:Bw cb c0b_40 c0c_40 4 with⟨d22,ri22,rh22⟩
 have zr22:=Cf aa (by omega)
 refine .bx [0] [] hP (Fj hcb (by omega) aa) rfl rfl rfl rfl ?_
 cases d22
 conv=>cbv
 exact .go [] (c3,ri22,rh22) (hJj2 _ ⟨by unfold V5;rw[aa];exact congrArg (fun x=>(x,ri22,rh22)) bc,by omega,by first|omega|(simp at zr20;omega)⟩)
 conv=>cbv
 generalize ac:E4 (⟨v9,bi,i4,c20d_40⟩:Az) ([d14]++d16)=c4
 have zr23:=Kp ac
 refine .lnt hP (O8 bj (by omega) (by first|omega|simp) (by first|exact hrx|(intro x hx;cases hx)) ac) (.agg (.d rfl (.d rfl (.d rfl (.d rfl .nil)))) (.ref rfl (Af bj) .nil)) ?_
 conv=>cbv
 exact .go [] (c4,ri22,rh22) (hJj2 _ ⟨by unfold V5;rw[aa];exact congrArg (fun x=>(x,ri22,rh22)) ac,by omega,by first|omega|(simp at zr23;omega)⟩)
 rintro⟨s9_49,c0b_49,c0c_49⟩ ⟨hT,hT1,hT2⟩
 conv=>cbv
 refine JoinW.jn (κ:=ByteArray×Int×Int) Du hP [] [0,2,3,4,5,6,8] (fun(s9_54,c0b_54,c0c_54)=>[(9,S s9_54)]) (fun(s9_54,c0b_54,c0c_54)=>[(0,.box 140 [.d (.row 1 xcb),I c0b_54,I c0c_54])])
  (fun(s9_54,c0b_54,c0c_54)=>V7 cb c0b_49 c0c_49 s9_49=(s9_54,c0b_54,c0c_54)∧(0≤c0b_54∧c0b_54≤cb.length)∧s9_54.size≤500000) (fun Jj3 hJj3=>?_) ?_
 conv=>cbv
 rcases aa:Bw cb c0b_49 c0c_49 6 with⟨d22,ri22,rh22⟩
 have zr22:=Cf aa (by omega)
 refine .bx [0] [] hP (Fj hcb (by omega) aa) rfl rfl rfl rfl ?_
 cases d22
 conv=>cbv
 exact .go [] (s9_49,ri22,rh22) (hJj3 _ ⟨by unfold V7;rw[aa];first|done|rfl,by omega,by omega⟩)
 conv=>cbv
 rcases bd:Dj cb ri22 rh22 s9_49 with⟨d24,ri24,rh24⟩
 have zr24:=H8 bd (by omega)
 refine .bx [0] [] hP (P2 hcb (by omega) (by omega) bd) rfl rfl rfl rfl ?_
 conv=>cbv
 exact .go [] (d24,ri24,rh24) (hJj3 _ ⟨by unfold V7;rw[aa];exact bd,by omega,by omega⟩)
 rintro⟨s9_54,c0b_54,c0c_54⟩ ⟨hB,hB1,hB2⟩
 conv=>cbv
 generalize ab:Ah i4=c5
 have zr21:=Ea ab
 refine .dd hP (Gm ab) ?_
 conv=>cbv
 rcases ac:Fc cb c0b_54 c0c_54 (⟨a6,a7,a8,ba,ad,ae⟩:Aa) c5 s9_54 with⟨⟨d23nod,d23ent,d23old,d23ste,d23roo,d23nex⟩,ri23,rh23⟩
 generalize ak:d23nod.map B5=xd23nod
 generalize al:d23ent.map Ae=xd23ent
 generalize am:d23old.map Ae=xd23old
 generalize an:d23ste.map cS=xd23ste
 obtain⟨nd23nod,hnd23nod⟩:∃m,m=d23nod.length:=⟨_,rfl⟩
 obtain⟨nd23ent,hnd23ent⟩:∃m,m=d23ent.length:=⟨_,rfl⟩
 obtain⟨nd23old,hnd23old⟩:∃m,m=d23old.length:=⟨_,rfl⟩
 obtain⟨nd23ste,hnd23ste⟩:∃m,m=d23ste.length:=⟨_,rfl⟩
 have zr23:=Hu ac (by omega) hE (by omega) (by first|omega|decide)
 refine .bxL [0] [16,17,18,19] (.same (.agg1 (.ref rfl (Af ag) (.ref rfl (Af ah) (.ref rfl (Af ai) (.ref rfl (Af aj) (.d rfl (.d rfl .nil)))))) (.same (.same .nil)))) hP (Qh hcb ag ah ai aj (by omega) hE (by omega) (by first|omega|decide) (by first|omega|decide) ak al am an ac hnd23nod hnd23ent hnd23old hnd23ste) rfl rfl rfl rfl ?_
 conv=>cbv
 refine .go fun dl da=>?_
 conv=>cbv
 refine .add fun cf db=>?_
 conv=>cbv
 refine LoopW.lp (κ:=Int×Int) Du hP [] [0,2,3,4,6,8] (fun(i5_1,i10_1)=>[(5,I i5_1),(10,I i10_1)]) (fun(i5_1,i10_1)=>[])
  (fun(i5_1,i10_1)=>0≤i10_1∧i10_1≤(d14::d16).length∧i5_1=((d14::d16).take i10_1.toNat).foldl Dk i5)
  (fun(i5_1,i10_1)=>((d14::d16).length - i10_1).toNat) (i5,0) ⟨by omega,by omega,rfl⟩ ⟨rfl,rfl,trivial⟩ rfl ?_
 rintro⟨i5_1,i10_1⟩ J4 ⟨m0,m1,hlk⟩ c6
 conv=>cbv
 refine .go fun dm dc=>?_
 conv=>cbv
 refine .lss (fun h27=>?_) fun h27=>?_
 conv=>cbv
 refine .go i10_1.toNat fun dn cg c7=>?_
 conv=>cbv
 refine .go bj fun ao cj bk=>?_
 conv=>cbv
 have de:cj.size≤60:=by first|exact bk▸hrx _ (List.getElem_mem ao)|simp at ao
 generalize bl:Dk i5_1 cj=c8
 refine .dd hP (Rl (by omega) bl) ?_
 conv=>cbv
 refine .add fun ck df=>?_
 conv=>cbv
 subst cg
 exact .go [] (c8,ck) (c6 _ ⟨by omega,by omega,by rw[show ck.toNat=i10_1.toNat+1 by omega,List.take_succ_eq_append_getElem (l:=d14::d16) ao,List.foldl_append,←hlk,List.foldl_cons,List.foldl_nil];exact(bl.symm.trans (congrArg (Dk i5_1) bk))⟩ mlt)
 conv=>cbv
 refine .add fun cm cn=>?_
 conv=>cbv
 have hlf:i5_1=(d14::d16).foldl Dk i5:=by rw[hlk,List.take_of_length_le (by first|omega|(simp;omega)|simp)]
 have hbs:cf=i4+((d14::d16).length:Int):=by first|omega|(simp;omega)|simp
 exact .go [24,25,26,27] (cf,i5_1,cm,ri23,rh23,d23roo,d23nex,xd23nod,nd23nod,xd23ent,nd23ent,xd23old,nd23old,xd23ste,nd23ste) (hJ _ ⟨_,_,_,_,ak,D4,al,D4,am,D4,an,D4,by omega,by omega,⟨by omega,by first|omega|(simp at hbs;omega)⟩,by omega,zr23.1.up (by omega),by rw[hio,show 5 - i6.toNat=(5 - cm.toNat)+1 by omega,cn];simp only[P1,bf];rw[if_pos (by omega)];simp only[bh,bf,bb,ap,af,aq,cd,ac,Bool.false_eq_true,if_false,if_true,←c9,←cv,hL,hT,hB,ab];rw[hbs,hlf]⟩ mlt)
 conv=>cbv
 refine JoinW.jn (κ:=Int×Int×Int) Du hP [] [0,2,3,4,5,6,7,8] (fun(c0b_40,c0c_40,c20d_40)=>[]) (fun(c0b_40,c0c_40,c20d_40)=>[(0,.box 140 [.d (.row 1 xcb),I c0b_40,I c0c_40]),(20,.box 38 [I v9,I bi,I i4,I c20d_40])])
  (fun(c0b_40,c0c_40,c20d_40)=>XhU cb ri19 rh19 i5=(c20d_40,c0b_40,c0c_40)∧0≤c0b_40∧c0b_40≤cb.length) (fun Jj1 hJj1=>?_) ?_
 conv=>cbv
 rcases ab:Bw cb ri19 rh19 20 with⟨d21,ri21,rh21⟩
 have zr21:=Cf ab (by omega)
 refine .bx [0] [] hP (Fj hcb (by omega) ab) rfl rfl rfl rfl ?_
 cases d21
 conv=>cbv
 exact .go [] (ri21,rh21,i5) (hJj1 _ ⟨by unfold XhU;rw[ab];first|done|rfl,by omega,by omega⟩)
 conv=>cbv
 refine .xor fun c2 ce=>?_
 conv=>cbv
 exact .go [] (ri21,rh21,c2) (hJj1 _ ⟨by unfold XhU;rw[ab,ce];first|done|rfl,by omega,by omega⟩)
 rintro⟨c0b_40,c0c_40,c20d_40⟩ ⟨hL,hL1,hL2⟩
 conv=>cbv
 generalize bc:Bh (⟨v9,bi,i4,c20d_40⟩:Az) []=c3
 have zr20:=G5 bc
 refine .lnt hP (Lh rfl (by first|omega|simp) bc) (.agg (.d rfl (.d rfl (.d rfl (.d rfl .nil)))) (.ref rfl rfl .nil)) ?_
 conv=>cbv
 refine JoinW.jn (κ:=ByteArray×Int×Int) Du hP [] [0,2,3,4,5,6,8] (fun(s9_49,c0b_49,c0c_49)=>[(9,S s9_49)]) (fun(s9_49,c0b_49,c0c_49)=>[(0,.box 140 [.d (.row 1 xcb),I c0b_49,I c0c_49])])
  (fun(s9_49,c0b_49,c0c_49)=>V5 cb c0b_40 c0c_40 (⟨v9,bi,i4,c20d_40⟩:Az) (([]:List ByteArray))=(s9_49,c0b_49,c0c_49)∧(0≤c0b_49∧c0b_49≤cb.length)∧s9_49.size≤200400) (fun Jj2 hJj2=>?_) ?_
 conv=>cbv
 rcases aa:Bw cb c0b_40 c0c_40 4 with⟨d22,ri22,rh22⟩
 have zr22:=Cf aa (by omega)
 refine .bx [0] [] hP (Fj hcb (by omega) aa) rfl rfl rfl rfl ?_
 cases d22
 conv=>cbv
 exact .go [] (c3,ri22,rh22) (hJj2 _ ⟨by unfold V5;rw[aa];exact congrArg (fun x=>(x,ri22,rh22)) bc,by omega,by first|omega|(simp at zr20;omega)⟩)
 conv=>cbv
 generalize ac:E4 (⟨v9,bi,i4,c20d_40⟩:Az) []=c4
 have zr23:=Kp ac
 refine .lnt hP (O8 rfl (by omega) (by first|omega|simp) (by first|exact hrx|(intro x hx;cases hx)) ac) (.agg (.d rfl (.d rfl (.d rfl (.d rfl .nil)))) (.ref rfl rfl .nil)) ?_
 conv=>cbv
 exact .go [] (c4,ri22,rh22) (hJj2 _ ⟨by unfold V5;rw[aa];exact congrArg (fun x=>(x,ri22,rh22)) ac,by omega,by first|omega|(simp at zr23;omega)⟩)
 rintro⟨s9_49,c0b_49,c0c_49⟩ ⟨hT,hT1,hT2⟩
 conv=>cbv
 refine JoinW.jn (κ:=ByteArray×Int×Int) Du hP [] [0,2,3,4,5,6,8] (fun(s9_54,c0b_54,c0c_54)=>[(9,S s9_54)]) (fun(s9_54,c0b_54,c0c_54)=>[(0,.box 140 [.d (.row 1 xcb),I c0b_54,I c0c_54])])
  (fun(s9_54,c0b_54,c0c_54)=>V7 cb c0b_49 c0c_49 s9_49=(s9_54,c0b_54,c0c_54)∧(0≤c0b_54∧c0b_54≤cb.length)∧s9_54.size≤500000) (fun Jj3 hJj3=>?_) ?_
 conv=>cbv
 rcases aa:Bw cb c0b_49 c0c_49 6 with⟨d22,ri22,rh22⟩
 have zr22:=Cf aa (by omega)
 refine .bx [0] [] hP (Fj hcb (by omega) aa) rfl rfl rfl rfl ?_
 cases d22
 conv=>cbv
 exact .go [] (s9_49,ri22,rh22) (hJj3 _ ⟨by unfold V7;rw[aa];first|done|rfl,by omega,by omega⟩)
 conv=>cbv
 rcases bd:Dj cb ri22 rh22 s9_49 with⟨d24,ri24,rh24⟩
 have zr24:=H8 bd (by omega)
 refine .bx [0] [] hP (P2 hcb (by omega) (by omega) bd) rfl rfl rfl rfl ?_
 conv=>cbv
 exact .go [] (d24,ri24,rh24) (hJj3 _ ⟨by unfold V7;rw[aa];exact bd,by omega,by omega⟩)
 rintro⟨s9_54,c0b_54,c0c_54⟩ ⟨hB,hB1,hB2⟩
 conv=>cbv
 generalize ab:Ah i4=c5
 have zr21:=Ea ab
 refine .dd hP (Gm ab) ?_
 conv=>cbv
 rcases ac:Fc cb c0b_54 c0c_54 (⟨a6,a7,a8,ba,ad,ae⟩:Aa) c5 s9_54 with⟨⟨d23nod,d23ent,d23old,d23ste,d23roo,d23nex⟩,ri23,rh23⟩
 generalize ak:d23nod.map B5=xd23nod
 generalize al:d23ent.map Ae=xd23ent
 generalize am:d23old.map Ae=xd23old
 generalize an:d23ste.map cS=xd23ste
 obtain⟨nd23nod,hnd23nod⟩:∃m,m=d23nod.length:=⟨_,rfl⟩
 obtain⟨nd23ent,hnd23ent⟩:∃m,m=d23ent.length:=⟨_,rfl⟩
 obtain⟨nd23old,hnd23old⟩:∃m,m=d23old.length:=⟨_,rfl⟩
 obtain⟨nd23ste,hnd23ste⟩:∃m,m=d23ste.length:=⟨_,rfl⟩
 have zr23:=Hu ac (by omega) hE (by omega) (by first|omega|decide)
 refine .bxL [0] [16,17,18,19] (.same (.agg1 (.ref rfl (Af ag) (.ref rfl (Af ah) (.ref rfl (Af ai) (.ref rfl (Af aj) (.d rfl (.d rfl .nil)))))) (.same (.same .nil)))) hP (Qh hcb ag ah ai aj (by omega) hE (by omega) (by first|omega|decide) (by first|omega|decide) ak al am an ac hnd23nod hnd23ent hnd23old hnd23ste) rfl rfl rfl rfl ?_
 conv=>cbv
 refine .go fun dl da=>?_
 conv=>cbv
 refine .add fun cf db=>?_
 conv=>cbv
 refine LoopW.lp (κ:=Int×Int) Du hP [] [0,2,3,4,6,8] (fun(i5_1,i10_1)=>[(5,I i5_1),(10,I i10_1)]) (fun(i5_1,i10_1)=>[])
  (fun(i5_1,i10_1)=>0≤i10_1∧i10_1≤(([]:List ByteArray)).length∧i5_1=((([]:List ByteArray)).take i10_1.toNat).foldl Dk i5)
  (fun(i5_1,i10_1)=>((([]:List ByteArray)).length - i10_1).toNat) (i5,0) ⟨by omega,by omega,rfl⟩ ⟨rfl,rfl,trivial⟩ rfl ?_
 rintro⟨i5_1,i10_1⟩ J4 ⟨m0,m1,hlk⟩ c6
 conv=>cbv
 refine .go fun dm dc=>?_
 conv=>cbv
 refine .lss (fun h27=>?_) fun h27=>?_
 conv=>cbv
 refine .go i10_1.toNat fun dn cg c7=>?_
 conv=>cbv
 refine .go (l:=[]) (c:=cS) rfl fun ao cj bk=>?_
 conv=>cbv
 have de:cj.size≤60:=by first|exact bk▸hrx _ (List.getElem_mem ao)|simp at ao
 generalize bl:Dk i5_1 cj=c8
 refine .dd hP (Rl (by omega) bl) ?_
 conv=>cbv
 refine .add fun ck df=>?_
 conv=>cbv
 subst cg
 exact .go [] (c8,ck) (c6 _ ⟨by omega,by omega,by rw[show ck.toNat=i10_1.toNat+1 by omega,List.take_succ_eq_append_getElem (l:=([]:List ByteArray)) ao,List.foldl_append,←hlk,List.foldl_cons,List.foldl_nil];exact(bl.symm.trans (congrArg (Dk i5_1) bk))⟩ mlt)
 conv=>cbv
 refine .add fun cm cn=>?_
 conv=>cbv
 have hlf:i5_1=(([]:List ByteArray)).foldl Dk i5:=by rw[hlk,List.take_of_length_le (by first|omega|(simp;omega)|simp)]
 have hbs:cf=i4+((([]:List ByteArray)).length:Int):=by first|omega|(simp;omega)|simp
 exact .go [25,26,27,28] (cf,i5_1,cm,ri23,rh23,d23roo,d23nex,xd23nod,nd23nod,xd23ent,nd23ent,xd23old,nd23old,xd23ste,nd23ste) (hJ _ ⟨_,_,_,_,ak,D4,al,D4,am,D4,an,D4,by omega,by omega,⟨by omega,by first|omega|(simp at hbs;omega)⟩,by omega,zr23.1.up (by omega),by rw[hio,show 5 - i6.toNat=(5 - cm.toNat)+1 by omega,cn];simp only[P1,bf];rw[if_pos (by omega)];simp only[bh,bf,bb,ap,af,aq,cd,ac,Bool.false_eq_true,if_false,if_true,←c9,←cv,hL,hT,hB,ab];rw[hbs,hlf]⟩ mlt)
 conv=>cbv
 rcases bb:Ag cb ri5 rh5 6 with⟨d8,ri8,rh8⟩
 have zr8:=Aj bb (by omega)
 refine .bx [0] [] hP (B0 hcb (by omega) bb) rfl rfl rfl rfl ?_
 conv=>cbv
 refine .eql (fun h9=>?_) fun h9=>?_
 conv=>cbv
 rcases ap:Ag cb ri8 rh8 4 with⟨d11,ri11,rh11⟩
 have zr11:=Aj ap (by omega)
 refine .bx [0] [] hP (B0 hcb (by omega) ap) rfl rfl rfl rfl ?_
 conv=>cbv
 generalize be:Ce d11=dp
 have zr12:=Um be
 refine .dd hP (X7 be) ?_
 conv=>cbv
 rcases af:Fc cb ri11 rh11 (⟨a6,a7,a8,ba,ad,ae⟩:Aa) dp (tx [104,97,108,102])with⟨⟨d14nod,d14ent,d14old,d14ste,d14roo,d14nex⟩,ri14,rh14⟩
 generalize bm:d14nod.map B5=xd14nod
 generalize bn:d14ent.map Ae=xd14ent
 generalize bo:d14old.map Ae=xd14old
 generalize bp:d14ste.map cS=xd14ste
 obtain⟨nd14nod,hnd14nod⟩:∃m,m=d14nod.length:=⟨_,rfl⟩
 obtain⟨nd14ent,hnd14ent⟩:∃m,m=d14ent.length:=⟨_,rfl⟩
 obtain⟨nd14old,hnd14old⟩:∃m,m=d14old.length:=⟨_,rfl⟩
 obtain⟨nd14ste,hnd14ste⟩:∃m,m=d14ste.length:=⟨_,rfl⟩
 have zr14:=Hu af (by omega) hE (by omega) (by first|omega|decide)
 refine .bxL [0] [16,17,18,19] (.same (.agg1 (.ref rfl (Af ag) (.ref rfl (Af ah) (.ref rfl (Af ai) (.ref rfl (Af aj) (.d rfl (.d rfl .nil)))))) (.same (.same .nil)))) hP (Qh hcb ag ah ai aj (by omega) hE (by omega) (by first|omega|decide) (by first|omega|decide) bm bn bo bp af hnd14nod hnd14ent hnd14old hnd14ste) rfl rfl rfl rfl ?_
 conv=>cbv
 have e:((⟨d14nod,d14ent,d14old,d14ste,d14roo,d14nex⟩:Aa),ri14,rh14)=Gl cb ci ch:=(by unfold Gl;simp only[bh];rw[hio,show 5 - i6.toNat=(4 - i6.toNat)+1 by omega];simp only[P1,bf];rw[if_neg (show¬i6<d5 by omega)];simp only[bb];rw[if_pos h9];simp only[ap,be];exact af.symm)
 rw[hr]at e
 simp only[Prod.mk.injEq,Aa.mk.injEq]at e
 obtain⟨⟨rfl,rfl,rfl,rfl,rfl,rfl⟩,rfl,rfl⟩:=e
 obtain rfl:xd14nod=Ew:=by rw[←bm,←Ge]
 obtain rfl:nd14nod=nonod:=by first|omega|(rw[hnonod];simp;done)|(rw[hnonod];simp;omega)
 obtain rfl:xd14ent=Ev:=by rw[←bn,←Gb]
 obtain rfl:nd14ent=noent:=by first|omega|(rw[hnoent];simp;done)|(rw[hnoent];simp;omega)
 obtain rfl:xd14old=Eu:=by rw[←bo,←Gd]
 obtain rfl:nd14old=noold:=by first|omega|(rw[hnoold];simp;done)|(rw[hnoold];simp;omega)
 obtain rfl:xd14ste=Ex:=by rw[←bp,←F9]
 obtain rfl:nd14ste=noste:=by first|omega|(rw[hnoste];simp;done)|(rw[hnoste];simp;omega)
 exact hQ _ _ (.of [20,21,22,23] (.inl rfl) rfl rfl rfl rfl)
 conv=>cbv
 refine .eql (fun h10=>?_) fun h10=>?_
 conv=>cbv
 rcases be:Ag cb ri8 rh8 9 with⟨d12,ri12,rh12⟩
 have zr12:=Aj be (by omega)
 refine .bx [0] [] hP (B0 hcb (by omega) be) rfl rfl rfl rfl ?_
 conv=>cbv
 refine .add fun dq dg=>?_
 conv=>cbv
 generalize af:Ah dq=dr
 have zr14:=Ea af
 refine .dd hP (Gm af) ?_
 conv=>cbv
 rcases aq:Ip cb ri12 rh12 with⟨d16,ri16,rh16⟩
 have zr16:=Xn aq (by omega)
 refine .bx [0] [] hP (Xg0 hcb (by omega) aq) rfl rfl rfl rfl ?_
 conv=>cbv
 rcases co:Fc cb ri16 rh16 (⟨a6,a7,a8,ba,ad,ae⟩:Aa) dr d16 with⟨⟨d18nod,d18ent,d18old,d18ste,d18roo,d18nex⟩,ri18,rh18⟩
 generalize bq:d18nod.map B5=xd18nod
 generalize bt:d18ent.map Ae=xd18ent
 generalize bu:d18old.map Ae=xd18old
 generalize bv:d18ste.map cS=xd18ste
 obtain⟨nd18nod,hnd18nod⟩:∃m,m=d18nod.length:=⟨_,rfl⟩
 obtain⟨nd18ent,hnd18ent⟩:∃m,m=d18ent.length:=⟨_,rfl⟩
 obtain⟨nd18old,hnd18old⟩:∃m,m=d18old.length:=⟨_,rfl⟩
 obtain⟨nd18ste,hnd18ste⟩:∃m,m=d18ste.length:=⟨_,rfl⟩
 have zr18:=Hu co (by omega) hE (by omega) (by first|omega|decide)
 refine .bxL [0] [16,17,18,19] (.same (.agg1 (.ref rfl (Af ag) (.ref rfl (Af ah) (.ref rfl (Af ai) (.ref rfl (Af aj) (.d rfl (.d rfl .nil)))))) (.same (.same .nil)))) hP (Qh hcb ag ah ai aj (by omega) hE (by omega) (by first|omega|decide) (by first|omega|decide) bq bt bu bv co hnd18nod hnd18ent hnd18old hnd18ste) rfl rfl rfl rfl ?_
 conv=>cbv
 have e:((⟨d18nod,d18ent,d18old,d18ste,d18roo,d18nex⟩:Aa),ri18,rh18)=Gl cb ci ch:=(by unfold Gl;simp only[bh];rw[hio,show 5 - i6.toNat=(4 - i6.toNat)+1 by omega];simp only[P1,bf];rw[if_neg (show¬i6<d5 by omega)];simp only[bb];rw[if_neg h9,if_pos h10];simp only[be,←dg,af,aq];exact co.symm)
 rw[hr]at e
 simp only[Prod.mk.injEq,Aa.mk.injEq]at e
 obtain⟨⟨rfl,rfl,rfl,rfl,rfl,rfl⟩,rfl,rfl⟩:=e
 obtain rfl:xd18nod=Ew:=by rw[←bq,←Ge]
 obtain rfl:nd18nod=nonod:=by first|omega|(rw[hnonod];simp;done)|(rw[hnonod];simp;omega)
 obtain rfl:xd18ent=Ev:=by rw[←bt,←Gb]
 obtain rfl:nd18ent=noent:=by first|omega|(rw[hnoent];simp;done)|(rw[hnoent];simp;omega)
 obtain rfl:xd18old=Eu:=by rw[←bu,←Gd]
 obtain rfl:nd18old=noold:=by first|omega|(rw[hnoold];simp;done)|(rw[hnoold];simp;omega)
 obtain rfl:xd18ste=Ex:=by rw[←bv,←F9]
 obtain rfl:nd18ste=noste:=by first|omega|(rw[hnoste];simp;done)|(rw[hnoste];simp;omega)
 exact hQ _ _ (.of [20,21,22,23] (.inl rfl) rfl rfl rfl rfl)
 conv=>cbv
 refine .eql (fun h11=>?_) fun h11=>?_
 conv=>cbv
 rcases cp:Fc cb ri8 rh8 (⟨a6,a7,a8,ba,ad,ae⟩:Aa) (tx [114,101,97,100,109,101]) (tx [115,111,109,101,32,116,101,120,116])with⟨⟨d13nod,d13ent,d13old,d13ste,d13roo,d13nex⟩,ri13,rh13⟩
 generalize bw:d13nod.map B5=xd13nod
 generalize bz:d13ent.map Ae=xd13ent
 generalize b0:d13old.map Ae=xd13old
 generalize b2:d13ste.map cS=xd13ste
 obtain⟨nd13nod,hnd13nod⟩:∃m,m=d13nod.length:=⟨_,rfl⟩
 obtain⟨nd13ent,hnd13ent⟩:∃m,m=d13ent.length:=⟨_,rfl⟩
 obtain⟨nd13old,hnd13old⟩:∃m,m=d13old.length:=⟨_,rfl⟩
 obtain⟨nd13ste,hnd13ste⟩:∃m,m=d13ste.length:=⟨_,rfl⟩
 have zr13:=Hu cp (by omega) hE (by omega) (by first|omega|decide)
 refine .bxL [0] [16,17,18,19] (.same (.agg1 (.ref rfl (Af ag) (.ref rfl (Af ah) (.ref rfl (Af ai) (.ref rfl (Af aj) (.d rfl (.d rfl .nil)))))) (.same (.same .nil)))) hP (Qh hcb ag ah ai aj (by omega) hE (by omega) (by first|omega|decide) (by first|omega|decide) bw bz b0 b2 cp hnd13nod hnd13ent hnd13old hnd13ste) rfl rfl rfl rfl ?_
 conv=>cbv
 have e:((⟨d13nod,d13ent,d13old,d13ste,d13roo,d13nex⟩:Aa),ri13,rh13)=Gl cb ci ch:=(by unfold Gl;simp only[bh];rw[hio,show 5 - i6.toNat=(4 - i6.toNat)+1 by omega];simp only[P1,bf];rw[if_neg (show¬i6<d5 by omega)];simp only[bb];rw[if_neg h9,if_neg h10,if_pos h11];exact cp.symm)
 rw[hr]at e
 simp only[Prod.mk.injEq,Aa.mk.injEq]at e
 obtain⟨⟨rfl,rfl,rfl,rfl,rfl,rfl⟩,rfl,rfl⟩:=e
 obtain rfl:xd13nod=Ew:=by rw[←bw,←Ge]
 obtain rfl:nd13nod=nonod:=by first|omega|(rw[hnonod];simp;done)|(rw[hnonod];simp;omega)
 obtain rfl:xd13ent=Ev:=by rw[←bz,←Gb]
 obtain rfl:nd13ent=noent:=by first|omega|(rw[hnoent];simp;done)|(rw[hnoent];simp;omega)
 obtain rfl:xd13old=Eu:=by rw[←b0,←Gd]
 obtain rfl:nd13old=noold:=by first|omega|(rw[hnoold];simp;done)|(rw[hnoold];simp;omega)
 obtain rfl:xd13ste=Ex:=by rw[←b2,←F9]
 obtain rfl:nd13ste=noste:=by first|omega|(rw[hnoste];simp;done)|(rw[hnoste];simp;omega)
 exact hQ _ _ (.of [20,21,22,23] (.inl rfl) rfl rfl rfl rfl)
 conv=>cbv
 have e:((⟨a6,a7,a8,ba,ad,ae⟩:Aa),ri8,rh8)=Gl cb ci ch:=(by unfold Gl;simp only[bh];rw[hio,show 5 - i6.toNat=(4 - i6.toNat)+1 by omega];simp only[P1,bf];rw[if_neg (show¬i6<d5 by omega)];simp only[bb];rw[if_neg h9,if_neg h10,if_neg h11])
 rw[hr]at e
 simp only[Prod.mk.injEq,Aa.mk.injEq]at e
 obtain⟨⟨rfl,rfl,rfl,rfl,rfl,rfl⟩,rfl,rfl⟩:=e
 obtain rfl:ar=Ew:=by rw[←ag,←Ge]
 obtain rfl:au=nonod:=by first|omega|(rw[hnonod];simp;done)|(rw[hnonod];simp;omega)
 obtain rfl:aw=Ev:=by rw[←ah,←Gb]
 obtain rfl:ax=noent:=by first|omega|(rw[hnoent];simp;done)|(rw[hnoent];simp;omega)
 obtain rfl:ay=Eu:=by rw[←ai,←Gd]
 obtain rfl:az=noold:=by first|omega|(rw[hnoold];simp;done)|(rw[hnoold];simp;omega)
 obtain rfl:a1=Ex:=by rw[←aj,←F9]
 obtain rfl:a2=noste:=by first|omega|(rw[hnoste];simp;done)|(rw[hnoste];simp;omega)
 exact hQ _ _ (.of [16,17,18,19] (.inl rfl) rfl rfl rfl rfl)
end
section
open Go Go.Proofs
set_option maxRecDepth 20000
set_option maxHeartbeats 4000000
def XdP:List (Nat×TyRow):=[ty3,ty9,XjO,XhS,Zy,Xb9,Xb7,XkC,Xfc,Z9]
theorem Xda:B3 Tryz.prog XdP:=B3.of (by kernel_rfl)
theorem Xca:Setup Tryz.prog XdP:=⟨Xda,mixed⟩
variable {cb:List UInt8} {xcb Ew Ev Eu Ex:List (List D)} {ci ch oroo onex oi oh:Int} {onod:List Cs} {oent oold:List Ad} {oste:List ByteArray} {nonod noent noold noste:Nat}
theorem XhQ(hcb:cb.map cB=xcb)(hc:0≤ci∧ci≤cb.length∧cb.length≤1000000000000)(Ge:onod.map B5=Ew)(Gb:oent.map Ae=Ev)(Gd:oold.map Ae=Eu)(F9:oste.map cS=Ex)(hr:Jd cb ci ch=(⟨onod,oent,oold,oste,oroo,onex⟩,oi,oh))(hnonod:nonod=onod.length)(hnoent:noent=oent.length)(hnoold:noold=oold.length)(hnoste:noste=oste.length):Fn Tryz.prog 173 [.ptr 0 0 0] [.box 140 [.d (.row 1 xcb),I ci,I ch]] ⟨.agg [.ref 1 0 nonod,.ref 2 0 noent,.ref 3 0 noold,.ref 4 0 noste,I oroo,I onex],[.row 3 false Ew,.row 2 false Ev,.row 2 false Eu,.row 1 false Ex],[(0,.box 140 [.d (.row 1 xcb),I oi,I oh])]⟩:=by
 refine Fn.goR Xca Tryz.func173 fun P hP Q hQ=>?_
 conv=>cbv
 rcases dz:Cd cb ci ch [4000,4000,4000,300,100]with⟨d2,ri2,rh2⟩
 have zr2:=Ds dz (by omega)
 refine .bxL [0] [6] (.same (.ref rfl rfl .nil)) hP (It hcb rfl (by omega) (by decide) dz) rfl rfl rfl rfl ?_
 conv=>cbv
 rcases ek:Gr d2 with⟨c6,c7,c8,c9,eo,ep⟩
 generalize db:c6.map B5=ef
 generalize dc:c7.map Ae=eg
 generalize de:c8.map Ae=eh
 generalize df:c9.map cS=ei
 obtain⟨nr3nod,hnr3nod⟩:∃m,m=c6.length:=⟨_,rfl⟩
 obtain⟨nr3ent,hnr3ent⟩:∃m,m=c7.length:=⟨_,rfl⟩
 obtain⟨nr3old,hnr3old⟩:∃m,m=c8.length:=⟨_,rfl⟩
 obtain⟨nr3ste,hnr3ste⟩:∃m,m=c9.length:=⟨_,rfl⟩
 have g3:=Yk d2
 rw[ek]at g3
 refine .ddN hP (Wr ek db dc de df hnr3nod hnr3ent hnr3old hnr3ste) rfl ?_
 conv=>cbv
 refine LoopW.lp (κ:=Int×Int×Int×Int×Int×(List (List D))×Nat×(List (List D))×Nat×(List (List D))×Nat×(List (List D))×Nat) Xca hP [7,8,9,10] [0,2,3] (fun(i4,ct,da,ai,aj,bp,bq,bt,bu,bv,bw,bz,b0)=>[(4,I i4)]) (fun(i4,ct,da,ai,aj,bp,bq,bt,bu,bv,bw,bz,b0)=>[(0,.box 140 [.d (.row 1 xcb),I ct,I da]),(15,.box 28 [.ref 16 0 bq,.ref 17 0 bu,.ref 18 0 bw,.ref 19 0 b0,I ai,I aj]),(16,.row 3 false bp),(17,.row 2 false bt),(18,.row 2 false bv),(19,.row 1 false bz)])
  (fun(i4,ct,da,ai,aj,bp,bq,bt,bu,bv,bw,bz,b0)=>∃(aq:List Cs) (ar:List Ad) (au:List Ad) (aw:List ByteArray),aq.map B5=bp∧bq=aq.length∧ar.map Ae=bt∧bu=ar.length∧au.map Ae=bv∧bw=au.length∧aw.map cS=bz∧b0=aw.length∧0≤i4∧i4≤8∧(0≤ct∧ct≤cb.length)∧okE (2*i4.toNat) (⟨aq,ar,au,aw,ai,aj⟩:Aa)∧Jd cb ci ch=XcS cb (9 - i4.toNat) i4 ct da (⟨aq,ar,au,aw,ai,aj⟩:Aa))
  (fun(i4,ct,da,ai,aj,bp,bq,bt,bu,bv,bw,bz,b0)=>(8 - i4).toNat) (0,ri2,rh2,eo,ep,ef,nr3nod,eg,nr3ent,eh,nr3old,ei,nr3ste) ⟨c6,c7,c8,c9,db,(by first|omega|(simp;omega)),dc,(by first|omega|(simp;omega)),de,(by first|omega|(simp;omega)),df,(by first|omega|(simp;omega)),by omega,by omega,by omega,g3,by unfold Jd;rw[dz];exact congrArg (XcS cb 9 0 ri2 rh2) ek⟩ ⟨rfl,trivial⟩ rfl ?_
 rintro⟨i4,ct,da,ai,aj,bp,bq,bt,bu,bv,bw,bz,b0⟩ J ⟨aq,ar,au,aw,ak,e3,al,e4,am,e5,an,e6,h0,h1,hcu,hE,hio⟩ hJ
 conv=>cbv
 rcases bo:Ag cb ct da 9 with⟨d5,ri5,rh5⟩
 have zr5:=Aj bo (by omega)
 refine .bx [0] [] hP (B0 hcb (by omega) bo) rfl rfl rfl rfl ?_
 conv=>cbv
 refine .lss (fun h6=>?_) fun h6=>?_
 conv=>cbv
 rcases b2:F4 cb ri5 rh5 [(tx [97]),(tx [98]),(tx [115,48,48,48,48,48,48,48,48,46,115,101,103]),(tx [115,48,48,48,48,48,48,48,51,46,115,101,103]),(tx [115,48,48,48,48,48,48,48,48,46,115,101,103,46,116,109,112]),(tx [99])]with⟨d8,ri8,rh8⟩
 have zr8:=Jn (n:=100) b2 (by omega) (by decide)
 refine .bxL [0] [20] (.same (.ref rfl rfl .nil)) hP (T6 hcb rfl (by omega) (by decide) b2) rfl rfl rfl rfl ?_
 conv=>cbv
 rcases ax:Ag cb ri8 rh8 8 with⟨d10,ri10,rh10⟩
 have zr10:=Aj ax (by omega)
 refine .bx [0] [] hP (B0 hcb (by omega) ax) rfl rfl rfl rfl ?_
 conv=>cbv
 refine .eql (fun h11=>?_) fun h11=>?_
 conv=>cbv
 rcases d0:Ch (⟨aq,ar,au,aw,ai,aj⟩:Aa) d8 with⟨⟨b3,b4,b5,b6,cy,cz⟩,e7⟩
 generalize a7:b3.map B5=di
 generalize a8:b4.map Ae=dj
 generalize ba:b5.map Ae=dk
 generalize bb:b6.map cS=dl
 obtain⟨nr12anod,hnr12anod⟩:∃m,m=b3.length:=⟨_,rfl⟩
 obtain⟨nr12aent,hnr12aent⟩:∃m,m=b4.length:=⟨_,rfl⟩
 obtain⟨nr12aold,hnr12aold⟩:∃m,m=b5.length:=⟨_,rfl⟩
 obtain⟨nr12aste,hnr12aste⟩:∃m,m=b6.length:=⟨_,rfl⟩
 have g12:=hE.of (Qi (name:=d8) hE.1 (okE.st hE (by omega)) (by omega)) Td
 rw[d0]at g12
 try simp only[]at g12
 refine .lntN hP (Ql ak al am an hE.1.1.1 hE.1.1.2.2.1 hE.1.1.2.2.2.2.1 (okE.st hE (by omega)) hE.1.2.2 hE.1 (by omega) d0 a7 a8 ba bb hnr12anod hnr12aent hnr12aold hnr12aste) (.agg (.ref rfl (Af ak) (.ref rfl (Af al) (.ref rfl (Af am) (.ref rfl (Af an) (.d rfl (.d rfl .nil)))))) (.d rfl .nil)) rfl rfl rfl (by simp only[List.all_cons,List.all_nil,Bool.and_self,At (fun _=>rfl) a7,At (fun _=>rfl) a8,At (fun _=>rfl) ba,At (fun _=>rfl) bb]) ?_
 conv=>cbv
 refine .add fun er es=>?_
 conv=>cbv
 have hst:Hz cb ri5 rh5 (⟨aq,ar,au,aw,ai,aj⟩:Aa)=((⟨b3,b4,b5,b6,cy,cz⟩:Aa),ri10,rh10):=by unfold Hz nmA;simp only[b2,ax];rw[if_pos h11];simp only[d0]
 exact .go [21,22,23,24] (er,ri10,rh10,cy,cz,di,nr12anod,dj,nr12aent,dk,nr12aold,dl,nr12aste) (hJ _ ⟨_,_,_,_,a7,D4,a8,D4,ba,D4,bb,D4,by omega,by omega,by omega,g12.up (by omega),by rw[hio,show 9 - i4.toNat=(9 - er.toNat)+1 by omega,es];simp only[XcS,bo,hst];rw[if_pos (by omega)]⟩ mlt)
 conv=>cbv
 refine .eql (fun h12=>?_) fun h12=>?_
 conv=>cbv
 rcases d1:Do (⟨aq,ar,au,aw,ai,aj⟩:Aa)with⟨cu,cv,cw,cx,dg,dh⟩
 generalize b7:cu.map B5=d3
 generalize b8:cv.map Ae=d4
 generalize b9:cw.map Ae=d6
 generalize ca:cx.map cS=d7
 obtain⟨nr13nod,hnr13nod⟩:∃m,m=cu.length:=⟨_,rfl⟩
 obtain⟨nr13ent,hnr13ent⟩:∃m,m=cv.length:=⟨_,rfl⟩
 obtain⟨nr13old,hnr13old⟩:∃m,m=cw.length:=⟨_,rfl⟩
 obtain⟨nr13ste,hnr13ste⟩:∃m,m=cx.length:=⟨_,rfl⟩
 have g13:=hE.of (Qm hE.1) Ui
 rw[d1]at g13
 try simp only[]at g13
 refine .lntN hP (Nt ak al am an hE.1.1.1 hE.1.1.2.2.1 hE.1.1.2.2.2.2.1 (okE.st hE (by omega)) hE.1.2.2 hE.1 d1 b7 b8 b9 ca hnr13nod hnr13ent hnr13old hnr13ste) (.agg (.ref rfl (Af ak) (.ref rfl (Af al) (.ref rfl (Af am) (.ref rfl (Af an) (.d rfl (.d rfl .nil)))))) .nil) rfl rfl rfl (by simp only[List.all_cons,List.all_nil,Bool.and_self,At (fun _=>rfl) b7,At (fun _=>rfl) b8,At (fun _=>rfl) b9,At (fun _=>rfl) ca]) ?_
 conv=>cbv
 refine .add fun et eu=>?_
 conv=>cbv
 have hst:Hz cb ri5 rh5 (⟨aq,ar,au,aw,ai,aj⟩:Aa)=((⟨cu,cv,cw,cx,dg,dh⟩:Aa),ri10,rh10):=by unfold Hz nmA;simp only[b2,ax];rw[if_neg h11,if_pos h12];simp only[d1]
 exact .go [21,22,23,24] (et,ri10,rh10,dg,dh,d3,nr13nod,d4,nr13ent,d6,nr13old,d7,nr13ste) (hJ _ ⟨_,_,_,_,b7,D4,b8,D4,b9,D4,ca,D4,by omega,by omega,by omega,g13.up (by omega),by rw[hio,show 9 - i4.toNat=(9 - et.toNat)+1 by omega,eu];simp only[XcS,bo,hst];rw[if_pos (by omega)]⟩ mlt)
 conv=>cbv
 refine .eql (fun h13=>?_) fun h13=>?_
 conv=>cbv
 rcases d9:Dm (⟨aq,ar,au,aw,ai,aj⟩:Aa) d8 with⟨⟨cc,cd,ce,cf,c0,c1⟩,e8⟩
 generalize bc:cc.map B5=dm
 generalize bd:cd.map Ae=dn
 generalize be:ce.map Ae=dp
 generalize bf:cf.map cS=dq
 obtain⟨nr14anod,hnr14anod⟩:∃m,m=cc.length:=⟨_,rfl⟩
 obtain⟨nr14aent,hnr14aent⟩:∃m,m=cd.length:=⟨_,rfl⟩
 obtain⟨nr14aold,hnr14aold⟩:∃m,m=ce.length:=⟨_,rfl⟩
 obtain⟨nr14aste,hnr14aste⟩:∃m,m=cf.length:=⟨_,rfl⟩
 have g14:=hE.of (Yd (name:=d8) hE.1) Xdq
 rw[d9]at g14
 try simp only[]at g14
 refine .lntN hP (U2 ak al am an hE.1.1.1 hE.1.1.2.2.1 hE.1.1.2.2.2.2.1 (okE.st hE (by omega)) hE.1.2.2 hE.1 d9 bc bd be bf hnr14anod hnr14aent hnr14aold hnr14aste) (.agg (.ref rfl (Af ak) (.ref rfl (Af al) (.ref rfl (Af am) (.ref rfl (Af an) (.d rfl (.d rfl .nil)))))) (.d rfl .nil)) rfl rfl rfl (by simp only[List.all_cons,List.all_nil,Bool.and_self,At (fun _=>rfl) bc,At (fun _=>rfl) bd,At (fun _=>rfl) be,At (fun _=>rfl) bf]) ?_
 conv=>cbv
 refine .add fun ew ex=>?_
 conv=>cbv
 have hst:Hz cb ri5 rh5 (⟨aq,ar,au,aw,ai,aj⟩:Aa)=((⟨cc,cd,ce,cf,c0,c1⟩:Aa),ri10,rh10):=by unfold Hz nmA;simp only[b2,ax];rw[if_neg h11,if_neg h12,if_pos h13];simp only[d9]
 exact .go [21,22,23,24] (ew,ri10,rh10,c0,c1,dm,nr14anod,dn,nr14aent,dp,nr14aold,dq,nr14aste) (hJ _ ⟨_,_,_,_,bc,D4,bd,D4,be,D4,bf,D4,by omega,by omega,by omega,g14.up (by omega),by rw[hio,show 9 - i4.toNat=(9 - ew.toNat)+1 by omega,ex];simp only[XcS,bo,hst];rw[if_pos (by omega)]⟩ mlt)
 conv=>cbv
 refine .eql (fun h14=>?_) fun h14=>?_
 conv=>cbv
 rcases cg:F4 cb ri10 rh10 [(tx [98]),(tx [120]),(tx [115,48,48,48,48,48,48,48,51,46,115,101,103])]with⟨d16,ri16,rh16⟩
 have zr16:=Jn (n:=100) cg (by omega) (by decide)
 refine .bxL [0] [21] (.same (.ref rfl rfl .nil)) hP (T6 hcb rfl (by omega) (by decide) cg) rfl rfl rfl rfl ?_
 conv=>cbv
 rcases ay:Cv (⟨aq,ar,au,aw,ai,aj⟩:Aa) d8 d16 with⟨⟨ae,af,ag,ah,ao,ap⟩,ej⟩
 generalize aa:ae.map B5=az
 generalize ab:af.map Ae=a1
 generalize ac:ag.map Ae=a2
 generalize ad:ah.map cS=a6
 obtain⟨nr17anod,hnr17anod⟩:∃m,m=ae.length:=⟨_,rfl⟩
 obtain⟨nr17aent,hnr17aent⟩:∃m,m=af.length:=⟨_,rfl⟩
 obtain⟨nr17aold,hnr17aold⟩:∃m,m=ag.length:=⟨_,rfl⟩
 obtain⟨nr17aste,hnr17aste⟩:∃m,m=ah.length:=⟨_,rfl⟩
 have g17:=hE.of (XaN (a:=d8) (b:=d16) hE.1 (okE.st hE (by omega)) (by omega) (by omega)) Xel
 rw[ay]at g17
 try simp only[]at g17
 refine .lntN hP (Yq ak al am an hE.1.1.1 hE.1.1.2.2.1 hE.1.1.2.2.2.2.1 (okE.st hE (by omega)) hE.1.2.2 hE.1 (by omega) ay aa ab ac ad hnr17anod hnr17aent hnr17aold hnr17aste) (.agg (.ref rfl (Af ak) (.ref rfl (Af al) (.ref rfl (Af am) (.ref rfl (Af an) (.d rfl (.d rfl .nil)))))) (.d rfl (.d rfl .nil))) rfl rfl rfl (by simp only[List.all_cons,List.all_nil,Bool.and_self,At (fun _=>rfl) aa,At (fun _=>rfl) ab,At (fun _=>rfl) ac,At (fun _=>rfl) ad]) ?_
 conv=>cbv
 refine .add fun ea eb=>?_
 conv=>cbv
 have hst:Hz cb ri5 rh5 (⟨aq,ar,au,aw,ai,aj⟩:Aa)=((⟨ae,af,ag,ah,ao,ap⟩:Aa),ri16,rh16):=by unfold Hz nmA nmB;simp only[b2,ax];rw[if_neg h11,if_neg h12,if_neg h13,if_pos h14];simp only[dz,bo,b2,ax,cg,ay]
 exact .go [22,23,24,25] (ea,ri16,rh16,ao,ap,az,nr17anod,a1,nr17aent,a2,nr17aold,a6,nr17aste) (hJ _ ⟨_,_,_,_,aa,D4,ab,D4,ac,D4,ad,D4,by omega,by omega,by omega,g17.up (by omega),by rw[hio,show 9 - i4.toNat=(9 - ea.toNat)+1 by omega,eb];simp only[XcS,bo,hst];rw[if_pos (by omega)]⟩ mlt)
 conv=>cbv
 refine .eql (fun h15=>?_) fun h15=>?_
 conv=>cbv
 rcases cg:Ax (⟨aq,ar,au,aw,ai,aj⟩:Aa) d8 with⟨⟨cj,ck,cm,cn,c2,c3⟩,e9⟩
 generalize bg:cj.map B5=dr
 generalize bh:ck.map Ae=ds
 generalize bi:cm.map Ae=dt
 generalize bj:cn.map cS=du
 obtain⟨nr16anod,hnr16anod⟩:∃m,m=cj.length:=⟨_,rfl⟩
 obtain⟨nr16aent,hnr16aent⟩:∃m,m=ck.length:=⟨_,rfl⟩
 obtain⟨nr16aold,hnr16aold⟩:∃m,m=cm.length:=⟨_,rfl⟩
 obtain⟨nr16aste,hnr16aste⟩:∃m,m=cn.length:=⟨_,rfl⟩
 have g16:=hE.of (Jz (name:=d8) hE.1 (okE.st hE (by omega)) (by omega)) L3
 rw[cg]at g16
 try simp only[]at g16
 refine .lntN hP (Jk ak al am an hE.1.1.1 hE.1.1.2.2.1 hE.1.1.2.2.2.2.1 (okE.st hE (by omega)) hE.1.2.2 hE.1 (by omega) cg bg bh bi bj hnr16anod hnr16aent hnr16aold hnr16aste) (.agg (.ref rfl (Af ak) (.ref rfl (Af al) (.ref rfl (Af am) (.ref rfl (Af an) (.d rfl (.d rfl .nil)))))) (.d rfl .nil)) rfl rfl rfl (by simp only[List.all_cons,List.all_nil,Bool.and_self,At (fun _=>rfl) bg,At (fun _=>rfl) bh,At (fun _=>rfl) bi,At (fun _=>rfl) bj]) ?_
 conv=>cbv
 refine .add fun ey e0=>?_
 conv=>cbv
 have hst:Hz cb ri5 rh5 (⟨aq,ar,au,aw,ai,aj⟩:Aa)=((⟨cj,ck,cm,cn,c2,c3⟩:Aa),ri10,rh10):=by unfold Hz nmA;simp only[b2,ax];rw[if_neg h11,if_neg h12,if_neg h13,if_neg h14,if_pos (.inl h15)];simp only[cg]
 exact .go [21,22,23,24] (ey,ri10,rh10,c2,c3,dr,nr16anod,ds,nr16aent,dt,nr16aold,du,nr16aste) (hJ _ ⟨_,_,_,_,bg,D4,bh,D4,bi,D4,bj,D4,by omega,by omega,by omega,g16.up (by omega),by rw[hio,show 9 - i4.toNat=(9 - ey.toNat)+1 by omega,e0];simp only[XcS,bo,hst];rw[if_pos (by omega)]⟩ mlt)
 conv=>cbv
 refine .eql (fun h16=>?_) fun h16=>?_
 conv=>cbv
 rcases ay:Ax (⟨aq,ar,au,aw,ai,aj⟩:Aa) d8 with⟨⟨ae,af,ag,ah,ao,ap⟩,ej⟩
 generalize aa:ae.map B5=az
 generalize ab:af.map Ae=a1
 generalize ac:ag.map Ae=a2
 generalize ad:ah.map cS=a6
 obtain⟨nr17anod,hnr17anod⟩:∃m,m=ae.length:=⟨_,rfl⟩
 obtain⟨nr17aent,hnr17aent⟩:∃m,m=af.length:=⟨_,rfl⟩
 obtain⟨nr17aold,hnr17aold⟩:∃m,m=ag.length:=⟨_,rfl⟩
 obtain⟨nr17aste,hnr17aste⟩:∃m,m=ah.length:=⟨_,rfl⟩
 have g17:=hE.of (Jz (name:=d8) hE.1 (okE.st hE (by omega)) (by omega)) L3
 rw[ay]at g17
 try simp only[]at g17
 refine .lntN hP (Jk ak al am an hE.1.1.1 hE.1.1.2.2.1 hE.1.1.2.2.2.2.1 (okE.st hE (by omega)) hE.1.2.2 hE.1 (by omega) ay aa ab ac ad hnr17anod hnr17aent hnr17aold hnr17aste) (.agg (.ref rfl (Af ak) (.ref rfl (Af al) (.ref rfl (Af am) (.ref rfl (Af an) (.d rfl (.d rfl .nil)))))) (.d rfl .nil)) rfl rfl rfl (by simp only[List.all_cons,List.all_nil,Bool.and_self,At (fun _=>rfl) aa,At (fun _=>rfl) ab,At (fun _=>rfl) ac,At (fun _=>rfl) ad]) ?_
 conv=>cbv
 refine .add fun ea eb=>?_
 conv=>cbv
 have hst:Hz cb ri5 rh5 (⟨aq,ar,au,aw,ai,aj⟩:Aa)=((⟨ae,af,ag,ah,ao,ap⟩:Aa),ri10,rh10):=by unfold Hz nmA;simp only[b2,ax];rw[if_neg h11,if_neg h12,if_neg h13,if_neg h14,if_pos (.inr h16)];simp only[ay]
 exact .go [21,22,23,24] (ea,ri10,rh10,ao,ap,az,nr17anod,a1,nr17aent,a2,nr17aold,a6,nr17aste) (hJ _ ⟨_,_,_,_,aa,D4,ab,D4,ac,D4,ad,D4,by omega,by omega,by omega,g17.up (by omega),by rw[hio,show 9 - i4.toNat=(9 - ea.toNat)+1 by omega,eb];simp only[XcS,bo,hst];rw[if_pos (by omega)]⟩ mlt)
 conv=>cbv
 rcases ay:Ax (⟨aq,ar,au,aw,ai,aj⟩:Aa) d8 with⟨⟨ae,af,ag,ah,ao,ap⟩,ej⟩
 generalize aa:ae.map B5=az
 generalize ab:af.map Ae=a1
 generalize ac:ag.map Ae=a2
 generalize ad:ah.map cS=a6
 obtain⟨nr17anod,hnr17anod⟩:∃m,m=ae.length:=⟨_,rfl⟩
 obtain⟨nr17aent,hnr17aent⟩:∃m,m=af.length:=⟨_,rfl⟩
 obtain⟨nr17aold,hnr17aold⟩:∃m,m=ag.length:=⟨_,rfl⟩
 obtain⟨nr17aste,hnr17aste⟩:∃m,m=ah.length:=⟨_,rfl⟩
 have g17:=hE.of (Jz (name:=d8) hE.1 (okE.st hE (by omega)) (by omega)) L3
 rw[ay]at g17
 try simp only[]at g17
 refine .lntN hP (Jk ak al am an hE.1.1.1 hE.1.1.2.2.1 hE.1.1.2.2.2.2.1 (okE.st hE (by omega)) hE.1.2.2 hE.1 (by omega) ay aa ab ac ad hnr17anod hnr17aent hnr17aold hnr17aste) (.agg (.ref rfl (Af ak) (.ref rfl (Af al) (.ref rfl (Af am) (.ref rfl (Af an) (.d rfl (.d rfl .nil)))))) (.d rfl .nil)) rfl rfl rfl (by simp only[List.all_cons,List.all_nil,Bool.and_self,At (fun _=>rfl) aa,At (fun _=>rfl) ab,At (fun _=>rfl) ac,At (fun _=>rfl) ad]) ?_
 conv=>cbv
 rcases ec:Ag cb ri10 rh10 12 with⟨d19,ri19,rh19⟩
 have zr19:=Aj ec (by omega)
 refine .bx [0] [] hP (B0 hcb (by omega) ec) rfl rfl rfl rfl ?_
 conv=>cbv
 rcases ed:D5 cb ri19 rh19 d19 with⟨d21,ri21,rh21⟩
 have zr21:=Hh ed (by omega)
 refine .bx [0] [] hP (Pz hcb (by omega) ed) rfl rfl rfl rfl ?_
 conv=>cbv
 rcases ee:Bp (⟨ae,af,ag,ah,ao,ap⟩:Aa) d8 d21 with⟨⟨co,cp,cq,cr,c4,c5⟩,fa⟩
 generalize bk:co.map B5=dv
 generalize bl:cp.map Ae=dw
 generalize bm:cq.map Ae=dx
 generalize bn:cr.map cS=dy
 obtain⟨nr22anod,hnr22anod⟩:∃m,m=co.length:=⟨_,rfl⟩
 obtain⟨nr22aent,hnr22aent⟩:∃m,m=cp.length:=⟨_,rfl⟩
 obtain⟨nr22aold,hnr22aold⟩:∃m,m=cq.length:=⟨_,rfl⟩
 obtain⟨nr22aste,hnr22aste⟩:∃m,m=cr.length:=⟨_,rfl⟩
 have g22:=g17.of (P0 (name:=d8) (text:=d21) g17.1) Th
 rw[ee]at g22
 try simp only[]at g22
 refine .lntN hP (Py aa ab ac ad g17.1.1.1 g17.1.1.2.2.1 g17.1.1.2.2.2.2.1 (okE.st g17 (by omega)) g17.1.2.2 g17.1 (by omega) ee bk bl bm bn hnr22anod hnr22aent hnr22aold hnr22aste) (.agg (.ref rfl (Af aa) (.ref rfl (Af ab) (.ref rfl (Af ac) (.ref rfl (Af ad) (.d rfl (.d rfl .nil)))))) (.d rfl (.d rfl .nil))) rfl rfl rfl (by simp only[List.all_cons,List.all_nil,Bool.and_self,At (fun _=>rfl) bk,At (fun _=>rfl) bl,At (fun _=>rfl) bm,At (fun _=>rfl) bn]) ?_
 conv=>cbv
 refine .add fun e1 e2=>?_
 conv=>cbv
 have hst:Hz cb ri5 rh5 (⟨aq,ar,au,aw,ai,aj⟩:Aa)=((⟨co,cp,cq,cr,c4,c5⟩:Aa),ri21,rh21):=by unfold Hz nmA;simp only[b2,ax];rw[if_neg h11,if_neg h12,if_neg h13,if_neg h14,if_neg (by omega)];simp only[dz,bo,b2,ax,ec,ed,ay,ee]
 exact .go [25,26,27,28] (e1,ri21,rh21,c4,c5,dv,nr22anod,dw,nr22aent,dx,nr22aold,dy,nr22aste) (hJ _ ⟨_,_,_,_,bk,D4,bl,D4,bm,D4,bn,D4,by omega,by omega,by omega,g22.up (by omega),by rw[hio,show 9 - i4.toNat=(9 - e1.toNat)+1 by omega,e2];simp only[XcS,bo,hst];rw[if_pos (by omega)]⟩ mlt)
 conv=>cbv
 have e:((⟨aq,ar,au,aw,ai,aj⟩:Aa),ri5,rh5)=Jd cb ci ch:=(by rw[hio,show 9 - i4.toNat=(8 - i4.toNat)+1 by omega];simp only[XcS,bo];rw[if_neg (by omega)])
 rw[hr]at e
 simp only[Prod.mk.injEq,Aa.mk.injEq]at e
 obtain⟨⟨rfl,rfl,rfl,rfl,rfl,rfl⟩,rfl,rfl⟩:=e
 obtain rfl:bp=Ew:=by rw[←ak,←Ge]
 obtain rfl:bq=nonod:=by first|omega|(rw[hnonod];simp;done)|(rw[hnonod];simp;omega)
 obtain rfl:bt=Ev:=by rw[←al,←Gb]
 obtain rfl:bu=noent:=by first|omega|(rw[hnoent];simp;done)|(rw[hnoent];simp;omega)
 obtain rfl:bv=Eu:=by rw[←am,←Gd]
 obtain rfl:bw=noold:=by first|omega|(rw[hnoold];simp;done)|(rw[hnoold];simp;omega)
 obtain rfl:bz=Ex:=by rw[←an,←F9]
 obtain rfl:b0=noste:=by first|omega|(rw[hnoste];simp;done)|(rw[hnoste];simp;omega)
 exact hQ _ _ (.of [16,17,18,19] (.inl rfl) rfl rfl rfl rfl)
theorem Xib(hcb:cb.map cB=xcb)(hc:0≤ci∧ci≤cb.length∧cb.length≤1000000000000)(Ge:onod.map B5=Ew)(Gb:oent.map Ae=Ev)(Gd:oold.map Ae=Eu)(F9:oste.map cS=Ex)(hr:D0 cb ci ch=(⟨onod,oent,oold,oste,oroo,onex⟩,oi,oh))(hnonod:nonod=onod.length)(hnoent:noent=oent.length)(hnoold:noold=oold.length)(hnoste:noste=oste.length):Fn Tryz.prog 91 [.ptr 0 0 0] [.box 140 [.d (.row 1 xcb),I ci,I ch]] ⟨.agg [.ref 1 0 nonod,.ref 2 0 noent,.ref 3 0 noold,.ref 4 0 noste,I oroo,I onex],[.row 3 false Ew,.row 2 false Ev,.row 2 false Eu,.row 1 false Ex],[(0,.box 140 [.d (.row 1 xcb),I oi,I oh])]⟩:=by
 refine Fn.goR Xca Tryz.func91 fun P hP Q hQ=>?_
 conv=>cbv
 rcases ae:Jd cb ci ch with⟨⟨d2nod,d2ent,d2old,d2ste,d2roo,d2nex⟩,ri2,rh2⟩
 generalize aa:d2nod.map B5=xd2nod
 generalize ab:d2ent.map Ae=xd2ent
 generalize ac:d2old.map Ae=xd2old
 generalize ad:d2ste.map cS=xd2ste
 obtain⟨nd2nod,hnd2nod⟩:∃m,m=d2nod.length:=⟨_,rfl⟩
 obtain⟨nd2ent,hnd2ent⟩:∃m,m=d2ent.length:=⟨_,rfl⟩
 obtain⟨nd2old,hnd2old⟩:∃m,m=d2old.length:=⟨_,rfl⟩
 obtain⟨nd2ste,hnd2ste⟩:∃m,m=d2ste.length:=⟨_,rfl⟩
 have zr2:=Xe ae (by omega)
 refine .bx [0] [] hP (XhQ hcb (by omega) aa ab ac ad ae hnd2nod hnd2ent hnd2old hnd2ste) rfl rfl rfl rfl ?_
 conv=>cbv
 rcases af:Ag cb ri2 rh2 16 with⟨d4,ri4,rh4⟩
 have zr4:=Aj af (by omega)
 refine .bx [0] [] hP (B0 hcb (by omega) af) rfl rfl rfl rfl ?_
 conv=>cbv
 have hq:d2ste.length≤18∧d2ent.length≤18∧d2old.length≤18:=zr2.1.2
 refine .eql (fun h5=>?_) fun h5=>?_
 conv=>cbv
 rcases al:Cd cb ri4 rh4 [(-1),0,5,1000000001]with⟨d7,ri7,rh7⟩
 have zr7:=Ds al (by omega)
 refine .bxL [0] [15] (.same (.ref rfl rfl .nil)) hP (It hcb rfl (by omega) (by decide) al) rfl rfl rfl rfl ?_
 conv=>cbv
 have e:((⟨d2nod,d2ent,d2old,d2ste,d7,d2nex⟩:Aa),ri7,rh7)=D0 cb ci ch:=(by unfold D0;simp only[ae,af];rw[if_pos h5];simp only[ae,af,al])
 rw[hr]at e
 simp only[Prod.mk.injEq,Aa.mk.injEq]at e
 obtain⟨⟨rfl,rfl,rfl,rfl,rfl,rfl⟩,rfl,rfl⟩:=e
 obtain rfl:xd2nod=Ew:=by rw[←aa,←Ge]
 obtain rfl:nd2nod=nonod:=by first|omega|(rw[hnonod];simp;done)|(rw[hnonod];simp;omega)
 obtain rfl:xd2ent=Ev:=by rw[←ab,←Gb]
 obtain rfl:nd2ent=noent:=by first|omega|(rw[hnoent];simp;done)|(rw[hnoent];simp;omega)
 obtain rfl:xd2old=Eu:=by rw[←ac,←Gd]
 obtain rfl:nd2old=noold:=by first|omega|(rw[hnoold];simp;done)|(rw[hnoold];simp;omega)
 obtain rfl:xd2ste=Ex:=by rw[←ad,←F9]
 obtain rfl:nd2ste=noste:=by first|omega|(rw[hnoste];simp;done)|(rw[hnoste];simp;omega)
 exact hQ _ _ (.of [6,7,8,9] (.inl rfl) rfl rfl rfl rfl)
 conv=>cbv
 refine .eql (fun h6=>?_) fun h6=>?_
 conv=>cbv
 rcases am:Cd cb ri4 rh4 [0,1,2,(-1),9223372036854775807]with⟨d8,ri8,rh8⟩
 have zr8:=Ds am (by omega)
 refine .bxL [0] [15] (.same (.ref rfl rfl .nil)) hP (It hcb rfl (by omega) (by decide) am) rfl rfl rfl rfl ?_
 conv=>cbv
 have e:((⟨d2nod,d2ent,d2old,d2ste,d2roo,d8⟩:Aa),ri8,rh8)=D0 cb ci ch:=(by unfold D0;simp only[ae,af];rw[if_neg h5,if_pos h6];simp only[ae,af,am])
 rw[hr]at e
 simp only[Prod.mk.injEq,Aa.mk.injEq]at e
 obtain⟨⟨rfl,rfl,rfl,rfl,rfl,rfl⟩,rfl,rfl⟩:=e
 obtain rfl:xd2nod=Ew:=by rw[←aa,←Ge]
 obtain rfl:nd2nod=nonod:=by first|omega|(rw[hnonod];simp;done)|(rw[hnonod];simp;omega)
 obtain rfl:xd2ent=Ev:=by rw[←ab,←Gb]
 obtain rfl:nd2ent=noent:=by first|omega|(rw[hnoent];simp;done)|(rw[hnoent];simp;omega)
 obtain rfl:xd2old=Eu:=by rw[←ac,←Gd]
 obtain rfl:nd2old=noold:=by first|omega|(rw[hnoold];simp;done)|(rw[hnoold];simp;omega)
 obtain rfl:xd2ste=Ex:=by rw[←ad,←F9]
 obtain rfl:nd2ste=noste:=by first|omega|(rw[hnoste];simp;done)|(rw[hnoste];simp;omega)
 exact hQ _ _ (.of [6,7,8,9] (.inl rfl) rfl rfl rfl rfl)
 conv=>cbv
 refine .eql (fun h7=>?_) fun h7=>?_
 conv=>cbv
 rcases an:Ag cb ri4 rh4 4 with⟨d9,ri9,rh9⟩
 have zr9:=Aj an (by omega)
 refine .bx [0] [] hP (B0 hcb (by omega) an) rfl rfl rfl rfl ?_
 conv=>cbv
 refine .one (⟨tx [122],d9⟩:Ad) ab rfl fun ao a7 a8 ap=>?_
 conv=>cbv
 have e:((⟨d2nod,d2ent++[(⟨tx [122],d9⟩:Ad)],d2old,d2ste,d2roo,d2nex⟩:Aa),ri9,rh9)=D0 cb ci ch:=(by unfold D0;simp only[ae,af];rw[if_neg h5,if_neg h6,if_pos h7];simp only[ae,af,an])
 rw[hr]at e
 simp only[Prod.mk.injEq,Aa.mk.injEq]at e
 obtain⟨⟨rfl,rfl,rfl,rfl,rfl,rfl⟩,rfl,rfl⟩:=e
 obtain rfl:xd2nod=Ew:=by rw[←aa,←Ge]
 obtain rfl:nd2nod=nonod:=by first|omega|(rw[hnonod];simp;done)|(rw[hnonod];simp;omega)
 obtain rfl:a7=Ev:=by rw[←ap,←Gb]
 obtain rfl:ao=noent:=by first|omega|(rw[hnoent];simp;done)|(rw[hnoent];simp;omega)
 obtain rfl:xd2old=Eu:=by rw[←ac,←Gd]
 obtain rfl:nd2old=noold:=by first|omega|(rw[hnoold];simp;done)|(rw[hnoold];simp;omega)
 obtain rfl:xd2ste=Ex:=by rw[←ad,←F9]
 obtain rfl:nd2ste=noste:=by first|omega|(rw[hnoste];simp;done)|(rw[hnoste];simp;omega)
 exact hQ _ _ (.of [6,16,8,9] (.inl rfl) rfl rfl rfl rfl)
 conv=>cbv
 refine .eql (fun h8=>?_) fun h8=>?_
 conv=>cbv
 refine .one (⟨tx [122],1⟩:Ad) ac rfl fun ba z9 bk bb=>?_
 conv=>cbv
 have e:((⟨d2nod,d2ent,d2old++[(⟨tx [122],1⟩:Ad)],d2ste,d2roo,d2nex⟩:Aa),ri4,rh4)=D0 cb ci ch:=(by unfold D0;simp only[ae,af];rw[if_neg h5,if_neg h6,if_neg h7,if_pos h8])
 rw[hr]at e
 simp only[Prod.mk.injEq,Aa.mk.injEq]at e
 obtain⟨⟨rfl,rfl,rfl,rfl,rfl,rfl⟩,rfl,rfl⟩:=e
 obtain rfl:xd2nod=Ew:=by rw[←aa,←Ge]
 obtain rfl:nd2nod=nonod:=by first|omega|(rw[hnonod];simp;done)|(rw[hnonod];simp;omega)
 obtain rfl:xd2ent=Ev:=by rw[←ab,←Gb]
 obtain rfl:nd2ent=noent:=by first|omega|(rw[hnoent];simp;done)|(rw[hnoent];simp;omega)
 obtain rfl:z9=Eu:=by rw[←bb,←Gd]
 obtain rfl:ba=noold:=by first|omega|(rw[hnoold];simp;done)|(rw[hnoold];simp;omega)
 obtain rfl:xd2ste=Ex:=by rw[←ad,←F9]
 obtain rfl:nd2ste=noste:=by first|omega|(rw[hnoste];simp;done)|(rw[hnoste];simp;omega)
 exact hQ _ _ (.of [6,7,16,9] (.inl rfl) rfl rfl rfl rfl)
 conv=>cbv
 refine .eql (fun h9=>?_) fun h9=>?_
 conv=>cbv
 rcases aj:F4 cb ri4 rh4 [(tx [45,97]),(tx [43,113,58,49]),(tx [120]),(tx []),(tx [43,113,58,57]),(tx [45,122,122]),(tx [43,58,49]),(tx [43,113,58])]with⟨d11,ri11,rh11⟩
 have zr11:=Jn (n:=100) aj (by omega) (by decide)
 refine .bxL [0] [15] (.same (.ref rfl rfl .nil)) hP (T6 hcb rfl (by omega) (by decide) aj) rfl rfl rfl rfl ?_
 conv=>cbv
 refine .one d11 ad rfl fun aq bc bd ar=>?_
 conv=>cbv
 have e:((⟨d2nod,d2ent,d2old,d2ste++[d11],d2roo,d2nex⟩:Aa),ri11,rh11)=D0 cb ci ch:=(by unfold D0;simp only[ae,af];rw[if_neg h5,if_neg h6,if_neg h7,if_neg h8,if_pos h9];simp only[ae,af,aj])
 rw[hr]at e
 simp only[Prod.mk.injEq,Aa.mk.injEq]at e
 obtain⟨⟨rfl,rfl,rfl,rfl,rfl,rfl⟩,rfl,rfl⟩:=e
 obtain rfl:xd2nod=Ew:=by rw[←aa,←Ge]
 obtain rfl:nd2nod=nonod:=by first|omega|(rw[hnonod];simp;done)|(rw[hnonod];simp;omega)
 obtain rfl:xd2ent=Ev:=by rw[←ab,←Gb]
 obtain rfl:nd2ent=noent:=by first|omega|(rw[hnoent];simp;done)|(rw[hnoent];simp;omega)
 obtain rfl:xd2old=Eu:=by rw[←ac,←Gd]
 obtain rfl:nd2old=noold:=by first|omega|(rw[hnoold];simp;done)|(rw[hnoold];simp;omega)
 obtain rfl:bc=Ex:=by rw[←ar,←F9]
 obtain rfl:aq=noste:=by first|omega|(rw[hnoste];simp;done)|(rw[hnoste];simp;omega)
 exact hQ _ _ (.of [6,7,8,17] (.inl rfl) rfl rfl rfl rfl)
 conv=>cbv
 refine .eql (fun h10=>?_) fun h10=>?_
 conv=>cbv
 refine .go fun bn bl=>?_
 conv=>cbv
 refine .gtr (fun h12=>?_) fun h12=>?_
 conv=>cbv
 rcases ak:Cd cb ri4 rh4 [(-1),0,99]with⟨d14,ri14,rh14⟩
 have zr14:=Ds ak (by omega)
 refine .bxL [0] [15] (.same (.ref rfl rfl .nil)) hP (It hcb rfl (by omega) (by decide) ak) rfl rfl rfl rfl ?_
 conv=>cbv
 refine .go 0 fun ah au be=>?_
 conv=>cbv
 refine .go (⟨(d2nod.getD ah ⟨0,tx [],0⟩).id_,(d2nod.getD ah ⟨0,tx [],0⟩).text_,d14⟩:Cs) aa (by omega) (by rw[←gD (show ah<d2nod.length by omega)];rfl) (show 2+1≤3 by decide) fun bf aw=>?_
 conv=>cbv
 have e:((⟨d2nod.set ah (⟨(d2nod.getD ah ⟨0,tx [],0⟩).id_,(d2nod.getD ah ⟨0,tx [],0⟩).text_,d14⟩:Cs),d2ent,d2old,d2ste,d2roo,d2nex⟩:Aa),ri14,rh14)=D0 cb ci ch:=(by unfold D0;simp only[ae,af];rw[if_neg h5,if_neg h6,if_neg h7,if_neg h8,if_neg h9,if_pos h10];cases d2nod with|nil=>(exfalso;have h00:nd2nod=0:=hnd2nod;omega)|cons n l=>(subst au;simp only[ae,af,ak];rfl))
 rw[hr]at e
 simp only[Prod.mk.injEq,Aa.mk.injEq]at e
 obtain⟨⟨rfl,rfl,rfl,rfl,rfl,rfl⟩,rfl,rfl⟩:=e
 obtain rfl:bf=Ew:=by rw[←aw,←Ge]
 obtain rfl:nd2nod=nonod:=by first|omega|(rw[hnonod];simp;done)|(rw[hnonod];simp;omega)
 obtain rfl:xd2ent=Ev:=by rw[←ab,←Gb]
 obtain rfl:nd2ent=noent:=by first|omega|(rw[hnoent];simp;done)|(rw[hnoent];simp;omega)
 obtain rfl:xd2old=Eu:=by rw[←ac,←Gd]
 obtain rfl:nd2old=noold:=by first|omega|(rw[hnoold];simp;done)|(rw[hnoold];simp;omega)
 obtain rfl:xd2ste=Ex:=by rw[←ad,←F9]
 obtain rfl:nd2ste=noste:=by first|omega|(rw[hnoste];simp;done)|(rw[hnoste];simp;omega)
 exact hQ _ _ (.of [6,7,8,9] (.inl rfl) rfl rfl rfl rfl)
 conv=>cbv
 have e:((⟨d2nod,d2ent,d2old,d2ste,d2roo,d2nex⟩:Aa),ri4,rh4)=D0 cb ci ch:=(by unfold D0;simp only[ae,af];rw[if_neg h5,if_neg h6,if_neg h7,if_neg h8,if_neg h9,if_pos h10];cases d2nod with|nil=>rfl|cons n l=>(exfalso;rw[List.length_cons]at hnd2nod;omega))
 rw[hr]at e
 simp only[Prod.mk.injEq,Aa.mk.injEq]at e
 obtain⟨⟨rfl,rfl,rfl,rfl,rfl,rfl⟩,rfl,rfl⟩:=e
 obtain rfl:xd2nod=Ew:=by rw[←aa,←Ge]
 obtain rfl:nd2nod=nonod:=by first|omega|(rw[hnonod];simp;done)|(rw[hnonod];simp;omega)
 obtain rfl:xd2ent=Ev:=by rw[←ab,←Gb]
 obtain rfl:nd2ent=noent:=by first|omega|(rw[hnoent];simp;done)|(rw[hnoent];simp;omega)
 obtain rfl:xd2old=Eu:=by rw[←ac,←Gd]
 obtain rfl:nd2old=noold:=by first|omega|(rw[hnoold];simp;done)|(rw[hnoold];simp;omega)
 obtain rfl:xd2ste=Ex:=by rw[←ad,←F9]
 obtain rfl:nd2ste=noste:=by first|omega|(rw[hnoste];simp;done)|(rw[hnoste];simp;omega)
 exact hQ _ _ (.of [6,7,8,9] (.inl rfl) rfl rfl rfl rfl)
 conv=>cbv
 refine .eql (fun h11=>?_) fun h11=>?_
 conv=>cbv
 refine .go fun bo bm=>?_
 conv=>cbv
 refine .gtr (fun h13=>?_) fun h13=>?_
 conv=>cbv
 refine .go 0 fun bp ax bg=>?_
 conv=>cbv
 refine .go aa fun bh ⟨ag,a2,a6⟩ ay=>?_
 conv=>cbv
 refine .go 1 fun ai az bi=>?_
 conv=>cbv
 refine .go (⟨ag,(d2nod.getD ai ⟨0,tx [],0⟩).text_,(d2nod.getD ai ⟨0,tx [],0⟩).sure_⟩:Cs) aa (by omega) (by rw[←gD (show ai<d2nod.length by omega)];rfl) (show 0+1≤3 by decide) fun bj a1=>?_
 conv=>cbv
 have e:((⟨d2nod.set ai (⟨ag,(d2nod.getD ai ⟨0,tx [],0⟩).text_,(d2nod.getD ai ⟨0,tx [],0⟩).sure_⟩:Cs),d2ent,d2old,d2ste,d2roo,d2nex⟩:Aa),ri4,rh4)=D0 cb ci ch:=(by unfold D0;simp only[ae,af];rw[if_neg h5,if_neg h6,if_neg h7,if_neg h8,if_neg h9,if_neg h10,if_pos h11];cases d2nod with|nil=>(exfalso;have h00:nd2nod=0:=hnd2nod;omega)|cons n l=>(cases l with|nil=>(exfalso;have h00:nd2nod=1:=hnd2nod;omega)|cons q l=>(subst ax az;obtain rfl:ag=n.id_:=(congrArg Cs.id_ ay:_);rfl)))
 rw[hr]at e
 simp only[Prod.mk.injEq,Aa.mk.injEq]at e
 obtain⟨⟨rfl,rfl,rfl,rfl,rfl,rfl⟩,rfl,rfl⟩:=e
 obtain rfl:bj=Ew:=by rw[←a1,←Ge]
 obtain rfl:nd2nod=nonod:=by first|omega|(rw[hnonod];simp;done)|(rw[hnonod];simp;omega)
 obtain rfl:xd2ent=Ev:=by rw[←ab,←Gb]
 obtain rfl:nd2ent=noent:=by first|omega|(rw[hnoent];simp;done)|(rw[hnoent];simp;omega)
 obtain rfl:xd2old=Eu:=by rw[←ac,←Gd]
 obtain rfl:nd2old=noold:=by first|omega|(rw[hnoold];simp;done)|(rw[hnoold];simp;omega)
 obtain rfl:xd2ste=Ex:=by rw[←ad,←F9]
 obtain rfl:nd2ste=noste:=by first|omega|(rw[hnoste];simp;done)|(rw[hnoste];simp;omega)
 exact hQ _ _ (.of [6,7,8,9] (.inl rfl) rfl rfl rfl rfl)
 conv=>cbv
 have e:((⟨d2nod,d2ent,d2old,d2ste,d2roo,d2nex⟩:Aa),ri4,rh4)=D0 cb ci ch:=(by unfold D0;simp only[ae,af];rw[if_neg h5,if_neg h6,if_neg h7,if_neg h8,if_neg h9,if_neg h10,if_pos h11];cases d2nod with|nil=>rfl|cons n l=>(cases l with|nil=>rfl|cons q l=>(exfalso;rw[List.length_cons,List.length_cons]at hnd2nod;omega)))
 rw[hr]at e
 simp only[Prod.mk.injEq,Aa.mk.injEq]at e
 obtain⟨⟨rfl,rfl,rfl,rfl,rfl,rfl⟩,rfl,rfl⟩:=e
 obtain rfl:xd2nod=Ew:=by rw[←aa,←Ge]
 obtain rfl:nd2nod=nonod:=by first|omega|(rw[hnonod];simp;done)|(rw[hnonod];simp;omega)
 obtain rfl:xd2ent=Ev:=by rw[←ab,←Gb]
 obtain rfl:nd2ent=noent:=by first|omega|(rw[hnoent];simp;done)|(rw[hnoent];simp;omega)
 obtain rfl:xd2old=Eu:=by rw[←ac,←Gd]
 obtain rfl:nd2old=noold:=by first|omega|(rw[hnoold];simp;done)|(rw[hnoold];simp;omega)
 obtain rfl:xd2ste=Ex:=by rw[←ad,←F9]
 obtain rfl:nd2ste=noste:=by first|omega|(rw[hnoste];simp;done)|(rw[hnoste];simp;omega)
 exact hQ _ _ (.of [6,7,8,9] (.inl rfl) rfl rfl rfl rfl)
 conv=>cbv
 have e:((⟨d2nod,d2ent,d2old,d2ste,d2roo,d2nex⟩:Aa),ri4,rh4)=D0 cb ci ch:=(by unfold D0;simp only[ae,af];rw[if_neg h5,if_neg h6,if_neg h7,if_neg h8,if_neg h9,if_neg h10,if_neg h11])
 rw[hr]at e
 simp only[Prod.mk.injEq,Aa.mk.injEq]at e
 obtain⟨⟨rfl,rfl,rfl,rfl,rfl,rfl⟩,rfl,rfl⟩:=e
 obtain rfl:xd2nod=Ew:=by rw[←aa,←Ge]
 obtain rfl:nd2nod=nonod:=by first|omega|(rw[hnonod];simp;done)|(rw[hnonod];simp;omega)
 obtain rfl:xd2ent=Ev:=by rw[←ab,←Gb]
 obtain rfl:nd2ent=noent:=by first|omega|(rw[hnoent];simp;done)|(rw[hnoent];simp;omega)
 obtain rfl:xd2old=Eu:=by rw[←ac,←Gd]
 obtain rfl:nd2old=noold:=by first|omega|(rw[hnoold];simp;done)|(rw[hnoold];simp;omega)
 obtain rfl:xd2ste=Ex:=by rw[←ad,←F9]
 obtain rfl:nd2ste=noste:=by first|omega|(rw[hnoste];simp;done)|(rw[hnoste];simp;omega)
 exact hQ _ _ (.of [6,7,8,9] (.inl rfl) rfl rfl rfl rfl)
end
section
open Go Go.Proofs
set_option maxRecDepth 20000
set_option maxHeartbeats 4000000
def XdG:List (Nat×TyRow):=[ty3,XhT,Xb9,XkC]
theorem Xcp:B3 Tryz.prog XdG:=B3.of (by kernel_rfl)
theorem Xf2:Setup Tryz.prog XdG:=⟨Xcp,mixed⟩
variable {onod:List Cs} {Ew Ev Eu Ex:List (List D)} {oent oold:List Ad} {oste:List ByteArray} {oroo onex:Int} {nonod noent noold noste:Nat}
theorem XiF{cb:List UInt8}{xcb:List (List D)}{ci:Int}{ch:Int}{oi oh:Int}(hcb:cb.map cB=xcb)(hc:0≤ci∧ci≤cb.length∧cb.length≤1000000000000)(Ge:onod.map B5=Ew)(Gb:oent.map Ae=Ev)(Gd:oold.map Ae=Eu)(F9:oste.map cS=Ex)(hr:Ky cb ci ch=(⟨onod,oent,oold,oste,oroo,onex⟩,oi,oh))(hnonod:nonod=onod.length)(hnoent:noent=oent.length)(hnoold:noold=oold.length)(hnoste:noste=oste.length):Fn Tryz.prog 59 [.ptr 0 0 0] [.box 140 [.d (.row 1 xcb),I ci,I ch]] ⟨.agg [.ref 1 0 nonod,.ref 2 0 noent,.ref 3 0 noold,.ref 4 0 noste,I oroo,I onex],[.row 3 false Ew,.row 2 false Ev,.row 2 false Eu,.row 1 false Ex],[(0,.box 140 [.d (.row 1 xcb),I oi,I oh])]⟩:=by
 refine Fn.goR Xf2 Tryz.func59 fun P hP Q hQ=>?_
 conv=>cbv
 rcases af:Bw cb ci ch 10 with⟨d2,ri2,rh2⟩
 have zr2:=Cf af (by omega)
 refine .bx [0] [] hP (Fj hcb (by omega) af) rfl rfl rfl rfl ?_
 cases d2
 conv=>cbv
 rcases ae:Gl cb ri2 rh2 with⟨⟨d4nod,d4ent,d4old,d4ste,d4roo,d4nex⟩,ri4,rh4⟩
 generalize aa:d4nod.map B5=xd4nod
 generalize ab:d4ent.map Ae=xd4ent
 generalize ac:d4old.map Ae=xd4old
 generalize ad:d4ste.map cS=xd4ste
 obtain⟨nd4nod,hnd4nod⟩:∃m,m=d4nod.length:=⟨_,rfl⟩
 obtain⟨nd4ent,hnd4ent⟩:∃m,m=d4ent.length:=⟨_,rfl⟩
 obtain⟨nd4old,hnd4old⟩:∃m,m=d4old.length:=⟨_,rfl⟩
 obtain⟨nd4ste,hnd4ste⟩:∃m,m=d4ste.length:=⟨_,rfl⟩
 have zr4:=Xg ae (by omega)
 refine .bx [0] [] hP (Xf4 hcb (by omega) aa ab ac ad ae hnd4nod hnd4ent hnd4old hnd4ste) rfl rfl rfl rfl ?_
 conv=>cbv
 have e:((⟨d4nod,d4ent,d4old,d4ste,d4roo,d4nex⟩:Aa),ri4,rh4)=Ky cb ci ch:=(by unfold Ky;simp only[af,ae,Bool.false_eq_true,if_false,if_true])
 rw[hr]at e
 simp only[Prod.mk.injEq,Aa.mk.injEq]at e
 obtain⟨⟨rfl,rfl,rfl,rfl,rfl,rfl⟩,rfl,rfl⟩:=e
 obtain rfl:xd4nod=Ew:=by rw[←aa,←Ge]
 obtain rfl:nd4nod=nonod:=by first|omega|(rw[hnonod];simp;done)|(rw[hnonod];simp;omega)
 obtain rfl:xd4ent=Ev:=by rw[←ab,←Gb]
 obtain rfl:nd4ent=noent:=by first|omega|(rw[hnoent];simp;done)|(rw[hnoent];simp;omega)
 obtain rfl:xd4old=Eu:=by rw[←ac,←Gd]
 obtain rfl:nd4old=noold:=by first|omega|(rw[hnoold];simp;done)|(rw[hnoold];simp;omega)
 obtain rfl:xd4ste=Ex:=by rw[←ad,←F9]
 obtain rfl:nd4ste=noste:=by first|omega|(rw[hnoste];simp;done)|(rw[hnoste];simp;omega)
 exact hQ _ _ (.of [6,7,8,9] (.inl rfl) rfl rfl rfl rfl)
 conv=>cbv
 rcases ae:D0 cb ri2 rh2 with⟨⟨d4nod,d4ent,d4old,d4ste,d4roo,d4nex⟩,ri4,rh4⟩
 generalize aa:d4nod.map B5=xd4nod
 generalize ab:d4ent.map Ae=xd4ent
 generalize ac:d4old.map Ae=xd4old
 generalize ad:d4ste.map cS=xd4ste
 obtain⟨nd4nod,hnd4nod⟩:∃m,m=d4nod.length:=⟨_,rfl⟩
 obtain⟨nd4ent,hnd4ent⟩:∃m,m=d4ent.length:=⟨_,rfl⟩
 obtain⟨nd4old,hnd4old⟩:∃m,m=d4old.length:=⟨_,rfl⟩
 obtain⟨nd4ste,hnd4ste⟩:∃m,m=d4ste.length:=⟨_,rfl⟩
 have zr4:=XbQ ae (by omega)
 refine .bx [0] [] hP (Xib hcb (by omega) aa ab ac ad ae hnd4nod hnd4ent hnd4old hnd4ste) rfl rfl rfl rfl ?_
 conv=>cbv
 have e:((⟨d4nod,d4ent,d4old,d4ste,d4roo,d4nex⟩:Aa),ri4,rh4)=Ky cb ci ch:=(by unfold Ky;simp only[af,ae,Bool.false_eq_true,if_false,if_true])
 rw[hr]at e
 simp only[Prod.mk.injEq,Aa.mk.injEq]at e
 obtain⟨⟨rfl,rfl,rfl,rfl,rfl,rfl⟩,rfl,rfl⟩:=e
 obtain rfl:xd4nod=Ew:=by rw[←aa,←Ge]
 obtain rfl:nd4nod=nonod:=by first|omega|(rw[hnonod];simp;done)|(rw[hnonod];simp;omega)
 obtain rfl:xd4ent=Ev:=by rw[←ab,←Gb]
 obtain rfl:nd4ent=noent:=by first|omega|(rw[hnoent];simp;done)|(rw[hnoent];simp;omega)
 obtain rfl:xd4old=Eu:=by rw[←ac,←Gd]
 obtain rfl:nd4old=noold:=by first|omega|(rw[hnoold];simp;done)|(rw[hnoold];simp;omega)
 obtain rfl:xd4ste=Ex:=by rw[←ad,←F9]
 obtain rfl:nd4ste=noste:=by first|omega|(rw[hnoste];simp;done)|(rw[hnoste];simp;omega)
 exact hQ _ _ (.of [6,7,8,9] (.inl rfl) rfl rfl rfl rfl)
def Zo(b:List UInt8):Aa:=(Ky b 0 (Nl b)).1
def Hs(b:List UInt8):Aa:=Zo b
theorem XhN{b:List UInt8}{d:Aa}(e:Zo b=d)(hb:b.length≤1000000000000):Sk d:=by
 rw[←e]
 exact(Xab (rfl:Ky b 0 (Nl b)=(_,_,_)) (by omega)).1
theorem Ri{code:List UInt8}{xcode:List (List D)}(hcode:code.map cB=xcode)(hb:code.length≤1000000000000)(hr:Hs code=⟨onod,oent,oold,oste,oroo,onex⟩)(Ge:onod.map B5=Ew)(Gb:oent.map Ae=Ev)(Gd:oold.map Ae=Eu)(F9:oste.map cS=Ex)(hnonod:nonod=onod.length)(hnoent:noent=oent.length)(hnoold:noold=oold.length)(hnoste:noste=oste.length):Fn Tryz.prog 13 [.d (.row 1 xcode)] [] ⟨.agg [.ref 0 0 nonod,.ref 1 0 noent,.ref 2 0 noold,.ref 3 0 noste,I oroo,I onex],[.row 3 false Ew,.row 2 false Ev,.row 2 false Eu,.row 1 false Ex],[]⟩:=by
 refine Fn.goR Xf2 Tryz.func13 fun P hP Q hQ=>?_
 conv=>cbv
 generalize af:Nl code=rh2
 refine .ddN hP (Xiv hcode (by omega) af) rfl ?_
 conv=>cbv
 rcases ae:Ky code 0 rh2 with⟨⟨d4nod,d4ent,d4old,d4ste,d4roo,d4nex⟩,ri4,rh4⟩
 generalize aa:d4nod.map B5=xd4nod
 generalize ab:d4ent.map Ae=xd4ent
 generalize ac:d4old.map Ae=xd4old
 generalize ad:d4ste.map cS=xd4ste
 obtain⟨nd4nod,hnd4nod⟩:∃m,m=d4nod.length:=⟨_,rfl⟩
 obtain⟨nd4ent,hnd4ent⟩:∃m,m=d4ent.length:=⟨_,rfl⟩
 obtain⟨nd4old,hnd4old⟩:∃m,m=d4old.length:=⟨_,rfl⟩
 obtain⟨nd4ste,hnd4ste⟩:∃m,m=d4ste.length:=⟨_,rfl⟩
 have zr4:=Xab ae (by omega)
 refine .bx [5] [] hP (XiF hcode (by omega) aa ab ac ad ae hnd4nod hnd4ent hnd4old hnd4ste) rfl rfl rfl rfl ?_
 conv=>cbv
 have e:(⟨d4nod,d4ent,d4old,d4ste,d4roo,d4nex⟩:Aa)=Hs code:=(by unfold Hs Zo;rw[af,ae])
 rw[hr]at e
 simp only[Aa.mk.injEq]at e
 obtain⟨rfl,rfl,rfl,rfl,rfl,rfl⟩:=e
 obtain rfl:xd4nod=Ew:=by rw[←aa,←Ge]
 obtain rfl:nd4nod=nonod:=by first|omega|(rw[hnonod];simp;done)|(rw[hnonod];simp;omega)
 obtain rfl:xd4ent=Ev:=by rw[←ab,←Gb]
 obtain rfl:nd4ent=noent:=by first|omega|(rw[hnoent];simp;done)|(rw[hnoent];simp;omega)
 obtain rfl:xd4old=Eu:=by rw[←ac,←Gd]
 obtain rfl:nd4old=noold:=by first|omega|(rw[hnoold];simp;done)|(rw[hnoold];simp;omega)
 obtain rfl:xd4ste=Ex:=by rw[←ad,←F9]
 obtain rfl:nd4ste=noste:=by first|omega|(rw[hnoste];simp;done)|(rw[hnoste];simp;omega)
 exact hQ _ _ (.of [6,7,8,9] (.inl rfl) rfl rfl rfl rfl)
end
section
open Go Go.Proofs
set_option maxRecDepth 20000
set_option maxHeartbeats 4000000
def Xav:List (Nat×TyRow):=[ty3,ty9,Zy,Xb9,Xb7,Xku,XkM,XgE]
theorem Xat:B3 Tryz.prog Xav:=B3.of (by kernel_rfl)
theorem Ko:Setup Tryz.prog Xav:=⟨Xat,mixed⟩
def Gp(x:Ht):Int:=if A2 x.text_=true then 0 else x.text_.size - x.scan_.end_
def Cp(d:Aa):Int:=H0 Gp (G0 d)
def Kk(d:Aa):Int:=Cp d+H0 (fun n=>((C5 d n).1.size:Int)) (Es d)
theorem Vg{d:Aa}:Cp d=H0 (fun b=>if A2 (Au d b)=true then 0 else(Au d b).size - Ba (Au d b)) (C2 d):=Pv _ _ fun x h1 h2=>by unfold Gp Ba;rw[h1,h2]
theorem Uk{d:Aa}(hd:okD d)(n:ByteArray):(C5 d n).1.size≤1000000000:=Mj (name:=n) (ok:=(C5 d n).2) hd rfl
theorem Ue{α:Type}{f:α→Int}{l:List α}{m:Int}(h:∀x∈l,0≤f x∧f x≤m):∀k,k≤l.length→0≤H0 f (l.take k)∧H0 f (l.take k)≤m*k
 |0,_=>by simp[H0]
 |k+1,hk=>by
  have ih:=Ue h k (by omega)
  have h2:=h _ (List.getElem_mem (l:=l) (n:=k) (by omega))
  rw[Dl (by omega)]
  have:m*((k+1:Nat):Int)=m*k+m:=by rw[Int.natCast_succ,Int.mul_add,Int.mul_one]
  omega
variable {o Aq As:Int} {Ak:List Cs} {Bj Be Bd Bf:List (List D)} {Al An:List Ad} {Am:List ByteArray}
theorem XcN{xbas:Int}{xtex:ByteArray}{xscaok:Bool}{xscaheaver:Int}{xscaheastr:Int}{xscaheabas:Int}{xscahealin:Int}{xscarec:List ByteArray}{xxscarec:List (List D)}{xscaoff:List Int}{xxscaoff:List (List D)}{xscaend:Int}{xscamar:Bool}(hxscarec:xscarec.map cS=xxscarec)(hxscaoff:xscaoff.map cI=xxscaoff)(hn:xtex.size<2^40)(hb:0≤xscaend∧xscaend≤1000000000)(hr:Gp (⟨xbas,xtex,⟨xscaok,⟨xscaheaver,xscaheastr,xscaheabas,xscahealin⟩,xscarec,xscaoff,xscaend,xscamar⟩⟩:Ht)=o):Fn Tryz.prog 77 [.agg [I xbas,S xtex,B xscaok,I xscaheaver,I xscaheastr,I xscaheabas,I xscahealin,.d (.row 1 xxscarec),.d (.row 1 xxscaoff),I xscaend,B xscamar]] [] ⟨I o,[],[]⟩:=by
 refine Fn.go Ko Tryz.func77 fun P hP Q hQ=>?_
 conv=>cbv
 generalize aa:A2 xtex=r1
 refine .dd hP (N7 (by omega) aa) ?_
 cases r1
 conv=>cbv
 refine .go fun v2 ab=>?_
 conv=>cbv
 refine .sub fun v3 ac=>?_
 conv=>cbv
 have e:v3=Gp (⟨xbas,xtex,⟨xscaok,⟨xscaheaver,xscaheastr,xscaheabas,xscahealin⟩,xscarec,xscaoff,xscaend,xscamar⟩⟩:Ht):=(by unfold Gp;simp[aa];omega)
 rw[hr]at e
 subst e
 exact hQ _ _ (.i rfl rfl)
 conv=>cbv
 have e:0=Gp (⟨xbas,xtex,⟨xscaok,⟨xscaheaver,xscaheastr,xscaheabas,xscahealin⟩,xscarec,xscaoff,xscaend,xscamar⟩⟩:Ht):=(by unfold Gp;simp[aa])
 rw[hr]at e
 subst e
 exact hQ _ _ (.i rfl rfl)
theorem Pi(Ay:Ak.map B5=Bj)(Av:Al.map Ae=Be)(A3:An.map Ae=Bd)(A5:Am.map cS=Bf)(hd:okD ⟨Ak,Al,An,Am,Aq,As⟩)(hr:Cp (⟨Ak,Al,An,Am,Aq,As⟩:Aa)=o):Fn Tryz.prog 75 [.agg [.d (.row 3 Bj),.d (.row 2 Be),.d (.row 2 Bd),.d (.row 1 Bf),I Aq,I As],.clo 77 []] [] ⟨I o,[],[]⟩:=by
 refine Fn.go Ko Tryz.func75 fun P hP Q hQ=>?_
 conv=>cbv
 generalize ao:G0 (⟨Ak,Al,An,Am,Aq,As⟩:Aa)=l1
 generalize aq:l1.map XaP=a6
 refine .dd hP (Sd Ay Av A3 A5 hd ao aq) ?_
 conv=>cbv
 refine .go aq fun v2 a7=>?_
 conv=>cbv
 refine LoopW.lp (κ:=Int×Int) Ko hP [] [1,9,10] (fun(i5,ah)=>[(5,I i5),(11,I ah)]) (fun(i5,ah)=>[])
  (fun(i5,ah)=>0≤ah∧ah≤l1.length∧(-1000000000*ah≤i5∧i5≤1000000000*ah)∧i5=H0 Gp (l1.take ah.toNat))
  (fun(i5,ah)=>(l1.length - ah).toNat) (0,0) ⟨by omega,by omega,by omega,rfl⟩ ⟨rfl,rfl,trivial⟩ rfl ?_
 rintro⟨i5,ah⟩ J ⟨h0,h1,hb,hx⟩ hJ
 have a2:=Ju ao
 conv=>cbv
 refine .lss (fun h3=>?_) fun h3=>?_
 conv=>cbv
 refine .goX ah.toNat aq fun ax ⟨al,ai,⟨ak,⟨aa,ab,ac,ad⟩,ae,af,ag,aj⟩⟩ fe4 ay hfe4=>?_
 replace hfe4:[.sc (.int .i64 al),.sc (.string ai),.sc (.bool ak),.sc (.int .i64 aa),.sc (.int .i64 ab),.sc (.int .i64 ac),.sc (.int .i64 ad),.row 1 (ae.map cS),.row 1 (af.map cI),.sc (.int .i64 ag),.sc (.bool aj)]=fe4:=hfe4
 generalize am:ae.map cS=ar at hfe4
 generalize an:af.map cI=au at hfe4
 subst hfe4
 conv=>cbv
 have hm:=If ao (x:=⟨al,ai,⟨ak,⟨aa,ab,ac,ad⟩,ae,af,ag,aj⟩⟩) (by rw[ay];exact List.getElem_mem _)
 obtain⟨ap,az,s9,a1⟩:=hm
 simp only[]at ap az a1
 have hz:=Dg hd ap.symm
 have ze:=Iv (b:=ai)
 rw[ap,←az]at ze
 simp only[]at ze
 rw[←ap]at ze
 generalize aw:Gp (⟨al,ai,⟨ak,⟨aa,ab,ac,ad⟩,ae,af,ag,aj⟩⟩:Ht)=r5
 refine .dd hP (XcN am an (by omega) (by omega) aw) ?_
 conv=>cbv
 have h5:r5=(if A2 ai=true then 0 else ai.size - ag):=aw.symm
 have h5b: -1000000000≤r5∧r5≤1000000000:=by rw[h5];split<;>omega
 refine .add fun v6 a8=>?_
 conv=>cbv
 refine .add fun v7 ba=>?_
 conv=>cbv
 exact .go [] (v6,v7) (hJ _ ⟨by omega,by omega,by omega,by rw[show v7.toNat=ah.toNat+1 by omega,Dl ax,←hx,←ay,aw];omega⟩ mlt)
 conv=>cbv
 have e:i5=Cp (⟨Ak,Al,An,Am,Aq,As⟩:Aa):=(by unfold Cp;rw[ao,hx,List.take_of_length_le (by omega)])
 rw[hr]at e
 subst e
 exact hQ _ _ (.i rfl rfl)
theorem XfQ{d:Aa}{o:Int}(hd:okD d)(e:Cp d=o): -16000000000≤o∧o≤16000000000:=by
 rw[←e,Vg]
 have key:∀c:List Int,c.length≤16→∀k,k≤c.length→-1000000000*(k:Int)≤H0 (fun b=>if A2 (Au d b)=true then 0 else((Au d b).size:Int) - Ba (Au d b)) (c.take k)∧H0 (fun b=>if A2 (Au d b)=true then 0 else((Au d b).size:Int) - Ba (Au d b)) (c.take k)≤1000000000*(k:Int):=by
  intro c hc k
  induction k with
  |zero=>intro _;simp[H0]
  |succ k ih=>
   intro hk
   have h1:=ih (by omega)
   rw[Dl (by omega)]
   have h2:=Dg hd (rfl:Au d c[k]=_)
   have h3:=Iv (b:=Au d c[k])
   have h4:Ba (Au d c[k])=(Ac (Au d c[k])).end_:=rfl
   have h5: -1000000000≤(if A2 (Au d c[k])=true then 0 else((Au d c[k]).size:Int) - Ba (Au d c[k]))∧(if A2 (Au d c[k])=true then 0 else((Au d c[k]).size:Int) - Ba (Au d c[k]))≤1000000000:=by split<;>omega
   omega
 have hl:=Fi (rfl:C2 d=_)
 have:=key (C2 d) hl (C2 d).length (Nat.le_refl _)
 rw[List.take_length]at this
 omega
theorem XgV(Ay:Ak.map B5=Bj)(Av:Al.map Ae=Be)(A3:An.map Ae=Bd)(A5:Am.map cS=Bf)(hd:okD ⟨Ak,Al,An,Am,Aq,As⟩)(hr:Kk (⟨Ak,Al,An,Am,Aq,As⟩:Aa)=o):Fn Tryz.prog 21 [.agg [.d (.row 3 Bj),.d (.row 2 Be),.d (.row 2 Bd),.d (.row 1 Bf),I Aq,I As]] [] ⟨I o,[],[]⟩:=by
 refine Fn.go Ko Tryz.func21 fun P hP Q hQ=>?_
 conv=>cbv
 generalize ab:Cp (⟨Ak,Al,An,Am,Aq,As⟩:Aa)=r1
 refine .dd hP (Pi Ay Av A3 A5 hd ab) ?_
 conv=>cbv
 generalize ac:Es (⟨Ak,Al,An,Am,Aq,As⟩:Aa)=l2
 generalize ad:l2.map cS=ah
 refine .dd hP (Xad Ay Av A3 A5 hd ac ad) ?_
 conv=>cbv
 refine .go ad fun v3 ai=>?_
 conv=>cbv
 refine LoopW.lp (κ:=Int×Int) Ko hP [] [1,11,12] (fun(i3,aa)=>[(3,I i3),(13,I aa)]) (fun(i3,aa)=>[])
  (fun(i3,aa)=>0≤aa∧aa≤l2.length∧i3=r1+H0 (fun n=>((C5 (⟨Ak,Al,An,Am,Aq,As⟩:Aa) n).1.size:Int)) (l2.take aa.toNat))
  (fun(i3,aa)=>(l2.length - aa).toNat) (r1,0) ⟨by omega,by omega,by show r1=r1+0;omega⟩ ⟨rfl,rfl,trivial⟩ rfl ?_
 rintro⟨i3,aa⟩ J ⟨h0,h1,hx⟩ hJ
 have aj:=XfQ hd ab
 have ak:=Xhr hd ac
 have hs:=Ue (f:=(fun n=>((C5 (⟨Ak,Al,An,Am,Aq,As⟩:Aa) n).1.size:Int))) (l:=l2) (m:=1000000000) (fun x _=>⟨Int.natCast_nonneg _,by have:=Uk hd x;omega⟩) aa.toNat (by omega)
 conv=>cbv
 refine .lss (fun h4=>?_) fun h4=>?_
 conv=>cbv
 refine .go aa.toNat ad fun af e5 ag=>?_
 conv=>cbv
 rcases ae:C5 (⟨Ak,Al,An,Am,Aq,As⟩:Aa) e5 with⟨al,am⟩
 refine .dd hP (Xs Ay Av A3 A5 hd ae) ?_
 conv=>cbv
 have z6:=Mj hd ae
 refine .go fun v7 an=>?_
 conv=>cbv
 refine .add fun v8 ao=>?_
 conv=>cbv
 refine .add fun v9 ap=>?_
 conv=>cbv
 exact .go [] (v8,v9) (hJ _ ⟨by omega,by omega,by rw[show v9.toNat=aa.toNat+1 by omega,Dl af,←ag,ae];simp only[];omega⟩ mlt)
 conv=>cbv
 have e:i3=Kk (⟨Ak,Al,An,Am,Aq,As⟩:Aa):=(by unfold Kk;rw[ab,ac,hx,List.take_of_length_le (by omega)])
 rw[hr]at e
 subst e
 exact hQ _ _ (.i rfl rfl)
theorem XgD(Ay:Ak.map B5=Bj)(Av:Al.map Ae=Be)(A3:An.map Ae=Bd)(A5:Am.map cS=Bf)(hd:okD ⟨Ak,Al,An,Am,Aq,As⟩)(hr:Kk (⟨Ak,Al,An,Am,Aq,As⟩:Aa)=o):Fn Tryz.prog 22 [.agg [.d (.row 3 Bj),.d (.row 2 Be),.d (.row 2 Bd),.d (.row 1 Bf),I Aq,I As]] [] ⟨I o,[],[]⟩:=by
 refine Fn.go Ko Tryz.func22 fun P hP Q hQ=>?_
 conv=>cbv
 generalize ad:C2 (⟨Ak,Al,An,Am,Aq,As⟩:Aa)=l1
 generalize ae:l1.map cI=aw
 refine .dd hP (Pq Ay Av A3 A5 hd ad ae) ?_
 conv=>cbv
 refine LoopW.lp (κ:=Int×Int) Ko hP [] [1,4] (fun(i3,i5)=>[(3,I i3),(5,I i5)]) (fun(i3,i5)=>[])
  (fun(i3,i5)=>0≤i5∧i5≤l1.length∧(-1000000000*i5≤i3∧i3≤1000000000*i5)∧i3=H0 (fun b=>if A2 (Au (⟨Ak,Al,An,Am,Aq,As⟩:Aa) b)=true then 0 else((Au (⟨Ak,Al,An,Am,Aq,As⟩:Aa) b).size:Int) - Ba (Au (⟨Ak,Al,An,Am,Aq,As⟩:Aa) b)) (l1.take i5.toNat))
  (fun(i3,i5)=>(l1.length - i5).toNat) (0,0) ⟨by omega,by omega,by omega,rfl⟩ ⟨rfl,rfl,trivial⟩ rfl ?_
 rintro⟨i3,i5⟩ J ⟨h0,h1,hb,hx⟩ hJ
 have au:=Fi ad
 conv=>cbv
 refine .go ae fun v2 ax=>?_
 conv=>cbv
 refine .lss (fun h3=>?_) fun h3=>?_
 conv=>cbv
 refine .go i5.toNat ae fun ac e4 al=>?_
 conv=>cbv
 generalize ab:Au (⟨Ak,Al,An,Am,Aq,As⟩:Aa) e4=r5
 refine .dd hP (Mm Ay Av A3 A5 hd ab) ?_
 conv=>cbv
 have z5:=Dg hd ab
 generalize af:A2 r5=r6
 refine .dd hP (Ro (by omega) af) ?_
 cases r6
 conv=>cbv
 refine .go fun v7 ap=>?_
 conv=>cbv
 refine .add fun v8 ay=>?_
 conv=>cbv
 generalize ag:Ba r5=r9
 refine .dd hP (Qb (by omega) ag) ?_
 conv=>cbv
 have ze:=Iv (b:=r5)
 have z9:r9=(Ac r5).end_:=ag.symm
 refine .sub fun ah am=>?_
 conv=>cbv
 refine .add fun aa an=>?_
 conv=>cbv
 exact .go [] (ah,aa) (hJ _ ⟨by omega,by omega,by omega,by rw[show aa.toNat=i5.toNat+1 by omega,Dl ac,←hx,←al,ab,af,ag];simp;omega⟩ mlt)
 conv=>cbv
 refine .add fun v7 ap=>?_
 conv=>cbv
 exact .go [] (i3,v7) (hJ _ ⟨by omega,by omega,by omega,by rw[show v7.toNat=i5.toNat+1 by omega,Dl ac,←hx,←al,ab,af];simp⟩ mlt)
 conv=>cbv
 have hW:Cp (⟨Ak,Al,An,Am,Aq,As⟩:Aa)=i3:=by rw[Vg,ad,hx,List.take_of_length_le (by omega)]
 have az:=XfQ hd hW
 generalize ai:Es (⟨Ak,Al,An,Am,Aq,As⟩:Aa)=l4
 generalize aj:l4.map cS=a1
 refine .dd hP (Xbq Ay Av A3 A5 hd ai aj) ?_
 conv=>cbv
 refine LoopW.lp (κ:=Int×Int) Ko hP [] [1,7] (fun(i3,i8)=>[(3,I i3),(8,I i8)]) (fun(i3,i8)=>[])
  (fun(i3,i8)=>0≤i8∧i8≤l4.length∧i3=Cp (⟨Ak,Al,An,Am,Aq,As⟩:Aa)+H0 (fun n=>((C5 (⟨Ak,Al,An,Am,Aq,As⟩:Aa) n).1.size:Int)) (l4.take i8.toNat))
  (fun(i3,i8)=>(l4.length - i8).toNat) (i3,0) ⟨by omega,by omega,by rw[hW];show i3=i3+0;omega⟩ ⟨rfl,rfl,trivial⟩ rfl ?_
 rintro⟨i3,i8⟩ J1 ⟨h0,h1,hy⟩ aq
 have a2:=Xhr hd ai
 have hs:=Ue (f:=(fun n=>((C5 (⟨Ak,Al,An,Am,Aq,As⟩:Aa) n).1.size:Int))) (l:=l4) (m:=1000000000) (fun x _=>⟨Int.natCast_nonneg _,by have:=Uk hd x;omega⟩) i8.toNat (by omega)
 conv=>cbv
 refine .go aj fun v5 a6=>?_
 conv=>cbv
 refine .lss (fun h6=>?_) fun h6=>?_
 conv=>cbv
 refine .go i8.toNat aj fun ao e7 ar=>?_
 conv=>cbv
 rcases ak:C5 (⟨Ak,Al,An,Am,Aq,As⟩:Aa) e7 with⟨a7,a8⟩
 refine .dd hP (Wy Ay Av A3 A5 hd ak) ?_
 conv=>cbv
 have z8:=Mj hd ak
 refine .go fun v9 ba=>?_
 conv=>cbv
 refine .add fun ah am=>?_
 conv=>cbv
 refine .add fun aa an=>?_
 conv=>cbv
 exact .go [] (ah,aa) (aq _ ⟨by omega,by omega,by rw[show aa.toNat=i8.toNat+1 by omega,Dl ao,←ar,ak];simp only[];omega⟩ mlt)
 conv=>cbv
 have e:i3=Kk (⟨Ak,Al,An,Am,Aq,As⟩:Aa):=(by unfold Kk;rw[ai,hy,List.take_of_length_le (by omega)])
 rw[hr]at e
 subst e
 exact hQ _ _ (.i rfl rfl)
end
end Go.Proofs.YtjbmpmmffjgedaaGreatDoor.Ab
