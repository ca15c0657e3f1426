/- What functions of the program come to, for all arguments in the given bounds. -/
import Derived.Test.YtjbmpmmffjgedaaGreatDoorToch06h
import Derived.Test.YtjbmpmmffjgedaaGreatDoorToZ10
import Derived.Test.YtjbmpmmffjgedaaGreatDoorTochE2
import Derived.KernelRfl
set_option linter.unusedVariables false
set_option linter.unusedSimpArgs false
namespace Go.Proofs.YtjbmpmmffjgedaaGreatDoor.Ab
section
open Go Go.Proofs
set_option maxRecDepth 20000
set_option maxHeartbeats 4000000
def Xba:List (Nat×TyRow):=[ty3,ty9,Xfz,We,Z1,Xal,XaA,Wn]
theorem Xb9:Bl Tryz.prog Xba:=Bl.of (by kernel_rfl)
theorem Ki:Setup Tryz.prog Xba:=⟨Xb9,mixed⟩
def Me(d:Aa)(name:ByteArray):ByteArray:=name++Hx [((Dn d name).1.text_.size:Int),(Dn d name).1.sure_]
def Gp(d:Aa):List ByteArray:=d.entries_.map fun e=>Me d e.name_
def Tb(d:Aa):Prop:=∀n∈d.nodes_,K9 n.sure_
theorem Xea{d:Aa}{name:ByteArray}{n:Cj}{b:Bool}(hd:okD d)(hw:Tb d)(e:Dn d name=(n,b)):n.text_.size≤1000000000∧K9 n.sure_:=by
 have e1:(Dn d name).1=n:=congrArg Prod.fst e
 rw[←e1]
 unfold Dn
 split
 ·exact⟨by simp[A3],by show K9 0;unfold K9;omega⟩
 ·rename_i h
  have h2:=Ib (rfl:Ck d name=_)
  have h3:(Ck d name).toNat<d.nodes_.length:=by omega
  rw[←gD h3]
  exact⟨hd.2.1 _ (List.getElem_mem h3),hw _ (List.getElem_mem h3)⟩
variable {Ak:List Cj} {Bk Bg Bf Bi xo xrow:List (List D)} {Aj Am:List Ac} {Al o row:List ByteArray} {Ao An:Int}
theorem Xcy(A1:Ak.map B3=Bk)(Ax:Aj.map Ad=Bg)(A6:Am.map Ad=Bf)(A5:Al.map cS=Bi)(hd:okD ⟨Ak,Aj,Am,Al,Ao,An⟩)(hw_:Tb ⟨Ak,Aj,Am,Al,Ao,An⟩)(hr:Gp (⟨Ak,Aj,Am,Al,Ao,An⟩:Aa)=o)(ho:o.map cS=xo):Fn Tryz.prog 31 [.agg [.d (.row 3 Bk),.d (.row 2 Bg),.d (.row 2 Bf),.d (.row 1 Bi),I Ao,I An]] [] ⟨.d (.row 1 xo),[],[]⟩:=by
 refine Fn.go Ki Tryz.func31 fun P hP Q hQ=>?_
 conv=>cbv
 have aq:Aj.length≤1000000000:=hd.2.2.1
 have ar:∀e∈Aj,e.name_.size≤1000000000:=hd.2.2.2.1
 generalize ak:Ho (⟨Ak,Aj,Am,Al,Ao,An⟩:Aa)=l1
 generalize ag:l1.map cS=bb
 refine .dd hP (Xdy A1 Ax A6 A5 aq ak ag) ?_
 conv=>cbv
 have ae:l1=Aj.map (fun e=>e.name_):=ak.symm
 have a6:l1.length=Aj.length:=by rw[ae,List.length_map]
 have hall:∀x∈l1,x.size≤1000000000:=by rw[ae];intro x hx;obtain⟨y,hy,rfl⟩:=List.mem_map.1 hx;exact ar y hy
 refine .go ag fun v2 bc=>?_
 conv=>cbv
 refine LoopW.lp (κ:=Int×(List (List D))×Nat) Ki hP [2] [1,10,11] (fun(aa,ac,ad)=>[(3,.ref 3 0 ad),(12,I aa)]) (fun(aa,ac,ad)=>[(3,.row 1 false ac)])
  (fun(aa,ac,ad)=>∃(w3:List ByteArray),w3.map cS=ac∧ad=w3.length∧0≤aa∧aa≤l1.length∧w3=(l1.take aa.toNat).map (Me (⟨Ak,Aj,Am,Al,Ao,An⟩:Aa))∧w3.length=aa.toNat)
  (fun(aa,ac,ad)=>l1.length - aa.toNat) (0,[],0) ⟨[],rfl,rfl,by omega,by omega,rfl,rfl⟩ ⟨rfl,rfl,trivial⟩ rfl ?_
 rintro⟨aa,ac,ad⟩ J ⟨w3,ah,a7,h0,hle,hw,hwl⟩ hJ
 conv=>cbv
 refine .lss (fun h3=>?_) fun h3=>?_
 conv=>cbv
 refine .go aa.toNat ag fun af e4 al=>?_
 conv=>cbv
 rcases ai:Dn (⟨Ak,Aj,Am,Al,Ao,An⟩:Aa) e4 with⟨⟨au,ap,ab⟩,bd⟩
 refine .dd hP (Y3 A1 Ax A6 A5 hd ai) ?_
 conv=>cbv
 obtain⟨aw,am⟩:=Xea hd hw_ ai
 simp only[]at aw am
 have be:e4.size≤1000000000:=by rw[al];exact hall _ (List.getElem_mem af)
 refine .go fun v6 ax=>?_
 conv=>cbv
 have hf:(∀n∈[v6,ab],K9 n)∧[v6,ab].length≤100:=⟨by intro n hn;simp only[List.mem_cons,List.not_mem_nil,or_false]at hn;rcases hn with rfl|rfl;(unfold K9;omega);exact am,by simp⟩
 generalize aj:Hx [v6,ab]=r7
 refine .lnt hP (XbU rfl hf aj) (.ref rfl rfl .nil) ?_
 conv=>cbv
 have ay:=N2 aj hf.1
 simp only[List.length_cons,List.length_nil]at ay
 refine .go fun s8 az bf=>?_
 conv=>cbv
 have an:s8=Me (⟨Ak,Aj,Am,Al,Ao,An⟩:Aa) e4:=by rw[az,←aj,ax];unfold Me;rw[ai]
 refine .one s8 ah rfl fun a1 z9 a8 a2=>?_
 conv=>cbv
 refine .add fun ao ba=>?_
 conv=>cbv
 exact .go [7] (ao,z9,a1) (hJ _ ⟨_,a2,Cv,by omega,by omega,by rw[hw,show ao.toNat=aa.toNat+1 by omega,List.take_succ_eq_append_getElem af,List.map_append,←al,an];rfl,by rw[List.length_append,hwl];simp;omega⟩ mlt)
 conv=>cbv
 have e:w3=Gp (⟨Ak,Aj,Am,Al,Ao,An⟩:Aa):=(by unfold Gp;rw[hw,List.take_of_length_le (by omega),ae,List.map_map];rfl)
 rw[hr]at e
 subst e
 exact hQ _ _ (.r rfl rfl (Ag ah) (by rw[←ah,←ho]))
theorem XdI(A1:Ak.map B3=Bk)(Ax:Aj.map Ad=Bg)(A6:Am.map Ad=Bf)(A5:Al.map cS=Bi)(hd:okD ⟨Ak,Aj,Am,Al,Ao,An⟩)(hw_:Tb ⟨Ak,Aj,Am,Al,Ao,An⟩)(hr:Gp (⟨Ak,Aj,Am,Al,Ao,An⟩:Aa)=o)(ho:o.map cS=xo):Fn Tryz.prog 38 [.agg [.d (.row 3 Bk),.d (.row 2 Bg),.d (.row 2 Bf),.d (.row 1 Bi),I Ao,I An]] [] ⟨.d (.row 1 xo),[],[]⟩:=by
 refine Fn.go Ki Tryz.func38 fun P hP Q hQ=>?_
 conv=>cbv
 have bm:Aj.length≤1000000000:=hd.2.2.1
 have az:∀e∈Aj,e.name_.size≤1000000000:=hd.2.2.2.1
 refine LoopW.lp (κ:=Int×(List (List D))×Nat) Ki hP [2] [1] (fun(i4,ab,ac)=>[(3,.ref 3 0 ac),(4,I i4)]) (fun(i4,ab,ac)=>[(3,.row 1 false ab)])
  (fun(i4,ab,ac)=>∃(w3:List ByteArray),w3.map cS=ab∧ac=w3.length∧0≤i4∧i4≤Aj.length∧w3=(Aj.take i4.toNat).map (fun e=>Me (⟨Ak,Aj,Am,Al,Ao,An⟩:Aa) e.name_)∧w3.length=i4.toNat)
  (fun(i4,ab,ac)=>Aj.length - i4.toNat) (0,[],0) ⟨[],rfl,rfl,by omega,by omega,rfl,rfl⟩ ⟨rfl,rfl,trivial⟩ rfl ?_
 rintro⟨i4,ab,ac⟩ J ⟨w3,ah,be,h0,hle,hw,hwl⟩ hJ
 conv=>cbv
 refine .go Ax fun v1 bn=>?_
 conv=>cbv
 refine .lss (fun h2=>?_) fun h2=>?_
 conv=>cbv
 refine .go i4.toNat Ax fun ag ⟨aa,bf⟩ a1=>?_
 conv=>cbv
 rcases ai:Dn (⟨Ak,Aj,Am,Al,Ao,An⟩:Aa) aa with⟨⟨a2,ay,af⟩,bo⟩
 refine .dd hP (Yl A1 Ax A6 A5 hd ai) ?_
 conv=>cbv
 refine .go i4.toNat Ax fun bg ⟨ad,bh⟩ a6=>?_
 conv=>cbv
 obtain⟨a7,aj⟩:=Xea hd hw_ ai
 simp only[]at a7 aj
 have ak:aa=Aj[i4.toNat].name_:=by rw[←a1]
 have an:ad=aa:=by rw[ak,←a6]
 have bp:ad.size≤1000000000:=by rw[an,ak];exact az _ (List.getElem_mem ag)
 refine .litR 1 fun s6 a8 bq=>?_
 conv=>cbv
 refine .go fun v7 ba=>?_
 conv=>cbv
 have ao:K9 v7:=by unfold K9;omega
 generalize al:By v7=r8
 refine .dd hP (Nd ao al) ?_
 conv=>cbv
 have bt:=Jt al ao
 refine .go fun s9 bb bu=>?_
 conv=>cbv
 refine .litR 1 fun bv ap bi=>?_
 conv=>cbv
 generalize ae:By af=bw
 refine .dd hP (Nd aj ae) ?_
 conv=>cbv
 have bj:=Jt ae aj
 refine .go fun aq ar bk=>?_
 conv=>cbv
 have am:aq=Me (⟨Ak,Aj,Am,Al,Ao,An⟩:Aa) aa:=by unfold Me;rw[ai,ar,ap,bb,a8,←al,←ae,ba,an,Zh aa];simp only[];unfold By Hx;simp only[XjY,Cw];simp
 refine .one aq ah rfl fun au bc bd aw=>?_
 conv=>cbv
 refine .add fun ax bl=>?_
 conv=>cbv
 exact .go [6] (ax,bc,au) (hJ _ ⟨_,aw,Cv,by omega,by omega,by rw[hw,show ax.toNat=i4.toNat+1 by omega,List.take_succ_eq_append_getElem ag,List.map_append,am,ak];rfl,by rw[List.length_append,hwl];simp;omega⟩ mlt)
 conv=>cbv
 have e:w3=Gp (⟨Ak,Aj,Am,Al,Ao,An⟩:Aa):=(by unfold Gp;rw[hw,List.take_of_length_le (by omega)])
 rw[hr]at e
 subst e
 exact hQ _ _ (.r rfl rfl (Ag ah) (by rw[←ah,←ho]))
def Ht(row:List ByteArray):List ByteArray:=row.map Fd
theorem Xag{t a:ByteArray}{b:Bool}(h:XdF t=(a,b)):Fd t=if a=tx []then tx [45]else a:=by unfold Fd;rw[h]
theorem XfW(hrow:row.map cS=xrow)(hn:row.length≤100000000000)(hr:Ht row=o)(ho:o.map cS=xo):Fn Tryz.prog 41 [.d (.row 1 xrow)] [] ⟨.d (.row 1 xo),[],[]⟩:=by
 refine Fn.go Ki Tryz.func41 fun P hP Q hQ=>?_
 conv=>cbv
 refine .go hrow fun v1 ak=>?_
 conv=>cbv
 refine LoopW.lp (κ:=Int×(List (List D))×Nat) Ki hP [1] [7,8] (fun(i9,aa,ab)=>[(3,.ref 2 0 ab),(9,I i9)]) (fun(i9,aa,ab)=>[(2,.row 1 false aa)])
  (fun(i9,aa,ab)=>∃(w2:List ByteArray),w2.map cS=aa∧ab=w2.length∧0≤i9∧i9≤row.length∧w2.length=i9.toNat∧w2=(row.take i9.toNat).map Fd)
  (fun(i9,aa,ab)=>(row.length - i9).toNat) (0,[],0) ⟨[],rfl,rfl,by omega,by omega,rfl,rfl⟩ ⟨rfl,rfl,trivial⟩ rfl ?_
 rintro⟨i9,aa,ab⟩ J ⟨w2,ac,ai,h0,h1,hwl,hw⟩ hJ
 conv=>cbv
 refine .lss (fun h2=>?_) fun h2=>?_
 conv=>cbv
 refine .go i9.toNat hrow fun ad e3 af=>?_
 conv=>cbv
 generalize ae:Fd e3=r4
 refine .dd hP (Xcv ae) ?_
 conv=>cbv
 refine .one r4 ac rfl fun ag z5 aj ah=>?_
 conv=>cbv
 refine .add fun v6 al=>?_
 conv=>cbv
 exact .go [4] (v6,z5,ag) (hJ _ ⟨_,ah,Cv,by omega,by omega,by rw[List.length_append,hwl];simp;omega,by rw[hw,show v6.toNat=i9.toNat+1 by omega,List.take_succ_eq_append_getElem ad,List.map_append,←af];rw[←ae];rfl⟩ mlt)
 conv=>cbv
 have e:w2=Ht row:=(by unfold Ht;rw[hw,List.take_of_length_le (by omega)])
 rw[hr]at e
 subst e
 exact hQ _ _ (.r rfl rfl (Ag ac) (by rw[←ac,←ho]))
theorem Xga(hrow:row.map cS=xrow)(hn:row.length≤100000000000)(hr:Ht row=o)(ho:o.map cS=xo):Fn Tryz.prog 42 [.d (.row 1 xrow)] [] ⟨.d (.row 1 xo),[],[]⟩:=by
 refine Fn.go Ki Tryz.func42 fun P hP Q hQ=>?_
 conv=>cbv
 refine LoopW.lp (κ:=Int×(List (List D))×Nat) Ki hP [1] [0] (fun(i4,aa,ab)=>[(3,.ref 2 0 ab),(4,I i4)]) (fun(i4,aa,ab)=>[(2,.row 1 false aa)])
  (fun(i4,aa,ab)=>∃(w2:List ByteArray),w2.map cS=aa∧ab=w2.length∧0≤i4∧i4≤row.length∧w2.length=i4.toNat∧w2=(row.take i4.toNat).map Fd)
  (fun(i4,aa,ab)=>(row.length - i4).toNat) (0,[],0) ⟨[],rfl,rfl,by omega,by omega,rfl,rfl⟩ ⟨rfl,rfl,trivial⟩ rfl ?_
 rintro⟨i4,aa,ab⟩ J ⟨w2,ae,al,h0,h1,hwl,hw⟩ hJ
 conv=>cbv
 refine .go hrow fun v1 am=>?_
 conv=>cbv
 refine .lss (fun h2=>?_) fun h2=>?_
 conv=>cbv
 refine .go i4.toNat hrow fun af e3 ai=>?_
 conv=>cbv
 rcases ac:XdF e3 with⟨ad,an⟩
 refine .dd hP (FsHex ac) ?_
 conv=>cbv
 refine .eql (fun h5=>?_) fun h5=>?_
 conv=>cbv
 refine .one (tx [45]) ae rfl fun ag z6 aj ah=>?_
 conv=>cbv
 refine .add fun v7 ak=>?_
 conv=>cbv
 exact .go [4] (v7,z6,ag) (hJ _ ⟨_,ah,Cv,by omega,by omega,by rw[List.length_append,hwl];simp;omega,by rw[hw,show v7.toNat=i4.toNat+1 by omega,List.take_succ_eq_append_getElem af,List.map_append,←ai];first|(rw[List.map_singleton,Xag ac,if_pos (show ad=tx []from h5)];done)|(rw[List.map_singleton,Xag ac,if_neg (show¬ad=tx []from h5)];done)⟩ mlt)
 conv=>cbv
 refine .one ad ae rfl fun ag z6 aj ah=>?_
 conv=>cbv
 refine .add fun v7 ak=>?_
 conv=>cbv
 exact .go [4] (v7,z6,ag) (hJ _ ⟨_,ah,Cv,by omega,by omega,by rw[List.length_append,hwl];simp;omega,by rw[hw,show v7.toNat=i4.toNat+1 by omega,List.take_succ_eq_append_getElem af,List.map_append,←ai];first|(rw[List.map_singleton,Xag ac,if_pos (show ad=tx []from h5)];done)|(rw[List.map_singleton,Xag ac,if_neg (show¬ad=tx []from h5)];done)⟩ mlt)
 conv=>cbv
 have e:w2=Ht row:=(by unfold Ht;rw[hw,List.take_of_length_le (by omega)])
 rw[hr]at e
 subst e
 exact hQ _ _ (.r rfl rfl (Ag ae) (by rw[←ae,←ho]))
end
section
open Go Go.Proofs
set_option maxRecDepth 20000
set_option maxHeartbeats 4000000
def XbR:List (Nat×TyRow):=[ty3,ty9,We,ty44,XlS]
theorem Xav:Bl Tryz.prog XbR:=Bl.of (by kernel_rfl)
theorem N4:Setup Tryz.prog XbR:=⟨Xav,mixed⟩
def findWords:List ByteArray:=[(tx []),(tx [116,101,109,112]),(tx [108,111,111,115,101]),(tx [111,112,101,110]),(tx [98,114,111,107,101,110])]
def Qg(k:Int):ByteArray:=findWords.getD k.toNat (tx [])
theorem XfG{k:Int}{o:ByteArray}(e:o=Qg k):o.size≤6:=by
 subst e
 unfold Qg
 by_cases h:k.toNat<5
 ·have:∀i:Fin 5,(findWords.getD i.val (tx [])).size≤6:=by decide
  exact this ⟨k.toNat,h⟩
 ·rw[List.getD,List.getElem?_eq_none (by show 5≤_;omega)]
  decide
def Cc(c:Int):ByteArray:=if 1≤c∧c≤4 then Qg c else tx [63]
def Dc(l:List Fm):List ByteArray:=l.map fun f=>f.name_++tx [32]++Cc f.code_
theorem Oy{c:Int}{o:ByteArray}(e:Cc c=o):o.size≤6:=by
 rw[←e]
 unfold Cc
 split
 ·exact XfG rfl
 ·decide
variable {code:Int} {o:ByteArray} {list:List Fm} {xlist xo:List (List D)}
theorem Ys(hr:Cc code=o):Fn Tryz.prog 102 [I code] [] ⟨S o,[],[]⟩:=by
 refine Fn.go N4 Tryz.func102 fun P hP Q hQ=>?_
 conv=>cbv
 generalize aa:Ch code 1 4=r1
 refine .dd hP (Iu aa) ?_
 cases r1
 simp only[Ch,decide_eq_true_eq,decide_eq_false_iff_not]at aa
 conv=>cbv
 have e:(tx [63])=Cc code:=(by unfold Cc;rw[if_neg (by exact aa)])
 rw[hr]at e
 subst e
 exact hQ _ _ (.s rfl rfl)
 simp only[Ch,decide_eq_true_eq,decide_eq_false_iff_not]at aa
 conv=>cbv
 refine .sub fun v2 ae=>?_
 conv=>cbv
 refine .go v2.toNat fun p3 af ad=>?_
 conv=>cbv
 refine .go (l:=[(tx [116,101,109,112]),(tx [108,111,111,115,101]),(tx [111,112,101,110]),(tx [98,114,111,107,101,110])]) (c:=cS) rfl fun ab e4 ac=>?_
 conv=>cbv
 have e:e4=Cc code:=(by have hw:=Yp (d:=tx []) ab ac rfl;unfold Cc;rw[if_pos (by exact aa)];unfold Qg;rw[show code.toNat=p3+1 by omega];exact hw)
 rw[hr]at e
 subst e
 exact hQ _ _ (.s rfl rfl)
theorem Zn(hr:Cc code=o):Fn Tryz.prog 103 [I code] [] ⟨S o,[],[]⟩:=by
 refine Fn.go N4 Tryz.func103 fun P hP Q hQ=>?_
 conv=>cbv
 generalize aa:Av code 1 4=r1
 refine .dd hP (Cz aa) ?_
 cases r1
 simp only[Av,decide_eq_true_eq,decide_eq_false_iff_not]at aa
 conv=>cbv
 have e:(tx [63])=Cc code:=(by unfold Cc;rw[if_neg (by exact aa)])
 rw[hr]at e
 subst e
 exact hQ _ _ (.s rfl rfl)
 simp only[Av,decide_eq_true_eq,decide_eq_false_iff_not]at aa
 conv=>cbv
 refine .go code.toNat fun p2 ae ad=>?_
 conv=>cbv
 refine .go (l:=[(tx []),(tx [116,101,109,112]),(tx [108,111,111,115,101]),(tx [111,112,101,110]),(tx [98,114,111,107,101,110])]) (c:=cS) rfl fun ab e3 ac=>?_
 conv=>cbv
 have e:e3=Cc code:=(by have hw:e3=Qg code:=Yp ab ac (by omega);unfold Cc;rw[if_pos (by exact aa)];exact hw)
 rw[hr]at e
 subst e
 exact hQ _ _ (.s rfl rfl)
theorem Ow{o:List ByteArray}(hlist:list.map Mj=xlist)(hn:list.length≤1000000000)(hs:∀x∈list,x.name_.size≤1000000000)(hr:Dc list=o)(ho:o.map cS=xo):Fn Tryz.prog 39 [.d (.row 2 xlist)] [] ⟨.d (.row 1 xo),[],[]⟩:=by
 refine Fn.go N4 Tryz.func39 fun P hP Q hQ=>?_
 conv=>cbv
 refine .go hlist fun v1 ao=>?_
 conv=>cbv
 refine LoopW.lp (κ:=Int×(List (List D))×Nat) N4 hP [1] [7,8] (fun(i9,aa,ab)=>[(3,.ref 2 0 ab),(9,I i9)]) (fun(i9,aa,ab)=>[(2,.row 1 false aa)])
  (fun(i9,aa,ab)=>∃(w2:List ByteArray),w2.map cS=aa∧ab=w2.length∧0≤i9∧i9≤list.length∧w2.length=i9.toNat∧w2=(list.take i9.toNat).map fun f=>f.name_++tx [32]++Cc f.code_)
  (fun(i9,aa,ab)=>(list.length - i9).toNat) (0,[],0) ⟨[],rfl,rfl,by omega,by omega,rfl,rfl⟩ ⟨rfl,rfl,trivial⟩ rfl ?_
 rintro⟨i9,aa,ab⟩ J ⟨w2,ae,am,h0,h1,hwl,hw⟩ hJ
 conv=>cbv
 refine .lss (fun h2=>?_) fun h2=>?_
 conv=>cbv
 refine .go i9.toNat hlist fun ag ⟨ac,ad⟩ ah=>?_
 conv=>cbv
 have ap:ac.size≤1000000000:=hs ⟨ac,ad⟩ (by rw[ah];exact List.getElem_mem _)
 refine .litR 1 fun s4 ai aq=>?_
 conv=>cbv
 generalize af:Cc ad=r5
 refine .dd hP (Ys af) ?_
 conv=>cbv
 have hzr:=Oy af
 refine .go fun s6 aj ar=>?_
 conv=>cbv
 refine .one s6 ae rfl fun ak z7 an al=>?_
 conv=>cbv
 refine .add fun v8 au=>?_
 conv=>cbv
 exact .go [5] (v8,z7,ak) (hJ _ ⟨_,al,Cv,by omega,by omega,by rw[List.length_append,hwl];simp;omega,by rw[hw,show v8.toNat=i9.toNat+1 by omega,List.take_succ_eq_append_getElem ag,List.map_append,←ah,aj,ai,←af];rfl⟩ mlt)
 conv=>cbv
 have e:w2=Dc list:=(by unfold Dc;rw[hw,List.take_of_length_le (by omega)])
 rw[hr]at e
 subst e
 exact hQ _ _ (.r rfl rfl (Ag ae) (by rw[←ae,←ho]))
theorem Wh{o:List ByteArray}(hlist:list.map Mj=xlist)(hn:list.length≤1000000000)(hs:∀x∈list,x.name_.size≤1000000000)(hr:Dc list=o)(ho:o.map cS=xo):Fn Tryz.prog 40 [.d (.row 2 xlist)] [] ⟨.d (.row 1 xo),[],[]⟩:=by
 refine Fn.go N4 Tryz.func40 fun P hP Q hQ=>?_
 conv=>cbv
 refine LoopW.lp (κ:=Int×(List (List D))×Nat) N4 hP [1] [0] (fun(i4,aa,ab)=>[(3,.ref 2 0 ab),(4,I i4)]) (fun(i4,aa,ab)=>[(2,.row 1 false aa)])
  (fun(i4,aa,ab)=>∃(w2:List ByteArray),w2.map cS=aa∧ab=w2.length∧0≤i4∧i4≤list.length∧w2.length=i4.toNat∧w2=(list.take i4.toNat).map fun f=>f.name_++tx [32]++Cc f.code_)
  (fun(i4,aa,ab)=>(list.length - i4).toNat) (0,[],0) ⟨[],rfl,rfl,by omega,by omega,rfl,rfl⟩ ⟨rfl,rfl,trivial⟩ rfl ?_
 rintro⟨i4,aa,ab⟩ J ⟨w2,af,ap,h0,h1,hwl,hw⟩ hJ
 conv=>cbv
 refine .go hlist fun v1 au=>?_
 conv=>cbv
 refine .lss (fun h2=>?_) fun h2=>?_
 conv=>cbv
 refine .go i4.toNat hlist fun ai ⟨ac,ad⟩ ag=>?_
 conv=>cbv
 have aw:ac.size≤1000000000:=hs ⟨ac,ad⟩ (by rw[ag];exact List.getElem_mem _)
 refine .litR 1 fun s4 aj ax=>?_
 conv=>cbv
 refine .go i4.toNat hlist fun aq ⟨ak,ae⟩ al=>?_
 conv=>cbv
 generalize ah:Cc ae=r6
 refine .dd hP (Zn ah) ?_
 conv=>cbv
 have hzr:=Oy ah
 have q6:ae=ad:=congrArg (·.code_) (al.trans ag.symm)
 refine .go fun s7 am ay=>?_
 conv=>cbv
 refine .one s7 af rfl fun an z8 ar ao=>?_
 conv=>cbv
 refine .add fun v9 az=>?_
 conv=>cbv
 exact .go [4] (v9,z8,an) (hJ _ ⟨_,ao,Cv,by omega,by omega,by rw[List.length_append,hwl];simp;omega,by rw[hw,show v9.toNat=i4.toNat+1 by omega,List.take_succ_eq_append_getElem ai,List.map_append,←ag,am,aj,←ah,q6];rfl⟩ mlt)
 conv=>cbv
 have e:w2=Dc list:=(by unfold Dc;rw[hw,List.take_of_length_le (by omega)])
 rw[hr]at e
 subst e
 exact hQ _ _ (.r rfl rfl (Ag af) (by rw[←af,←ho]))
end
section
open Go Go.Proofs
set_option maxRecDepth 20000
set_option maxHeartbeats 4000000
def XgR:List (Nat×TyRow):=[ty3,ty9,Xgo,We,Z1,Xal,ty44,XlF,Xlm]
theorem Xf6:Bl Tryz.prog XgR:=Bl.of (by kernel_rfl)
theorem O2:Setup Tryz.prog XgR:=⟨Xf6,mixed⟩
def Ir(b:List UInt8)(i h:Int):ByteArray×Int×Int:=E5 b i h [tx [97],tx [98],tx [115,48,48,48,48,48,48,48,48,46,115,101,103],tx [115,48,48,48,48,48,48,48,51,46,115,101,103],tx [115,48,48,48,48,48,48,48,48,46,115,101,103,46,116,109,112],tx [99],tx [120],tx [],tx [65]]
def Td(b:List UInt8)(i h:Int):TOp×Int×Int:=match Ae b i h 8 with
 |(k,i,h)=>match Ir b i h with|(n,i,h)=>match Ir b i h with|(t,i,h)=>match Ae b i h 5 with|(y,i,h)=>match Dp b i h y with|(x,i,h)=>(⟨k,n,t,x⟩,i,h)
theorem Ny{b:List UInt8}{i h oi oh:Int}{o:ByteArray}(e:Ir b i h=(o,oi,oh))(hc:0≤i∧i≤b.length∧b.length≤1000000000000):o.size≤100∧0≤oi∧oi≤b.length:=Hh e hc (by decide)
theorem Xe4{b:List UInt8}{i h oi oh:Int}{o:TOp}(e:Td b i h=(o,oi,oh))(hc:0≤i∧i≤b.length∧b.length≤1000000000000):(o.name_.size≤100∧o.to_.size≤100∧o.text_.size≤5000)∧0≤oi∧oi≤b.length:=by
 unfold Td at e
 rcases h1:Ae b i h 8 with⟨k,i1,h1'⟩
 have z1:=Ah h1 hc
 rcases h2:Ir b i1 h1' with⟨n,i2,h2'⟩
 have z2:=Ny h2 (by omega)
 rcases h3:Ir b i2 h2' with⟨t,i3,h3'⟩
 have z3:=Ny h3 (by omega)
 rcases h4:Ae b i3 h3' 5 with⟨y,i4,h4'⟩
 have z4:=Ah h4 (by omega)
 rcases h5:Dp b i4 h4' y with⟨x,i5,h5'⟩
 have z5:=F0 h5 (by omega)
 simp only[h1,h2,h3,h4,h5,Prod.mk.injEq]at e
 rw[←e.1,←e.2.1]
 exact⟨⟨z2.1,z3.1,z5.1.1⟩,z5.2⟩
def G1(b:List UInt8):Aa:=(C3 b 0 (Eu b)).1
def Fc(b:List UInt8):List Fm:=Ps (Xc2 b)
def Gl(b:List UInt8):List ByteArray:=(Dh b 0 (Eu b) 6).1
def If(b:List UInt8):TOp:=(Td b 0 (Eu b)).1
def Qj(b:List UInt8):Aa×Int:=match H4 b 0 (Eu b)with|(d,i,h)=>(d,(Bn b i h [0,2,1,3,-1]).1)
def Io(b:List UInt8):Aa×Int:=Qj b
def Ff(a b:List ByteArray):Bool:=decide (a=b)
variable {cb code:List UInt8} {xcb xcode xo Di De Df Dd:List (List D)} {ci ch oi oh okin Pw Pt ob:Int} {onam oto otex:ByteArray} {Kf:List Cj} {Kh Ke:List Ac} {Kg:List ByteArray} {noanod noaent noaold noaste:Nat}
theorem Xa7{o:ByteArray}(hcb:cb.map cB=xcb)(hc:0≤ci∧ci≤cb.length∧cb.length≤1000000000000)(hr:Ir cb ci ch=(o,oi,oh)):Fn Tryz.prog 180 [.ptr 0 0 0] [.box 140 [.d (.row 1 xcb),I ci,I ch]] ⟨S o,[],[(0,.box 140 [.d (.row 1 xcb),I oi,I oh])]⟩:=by
 refine Fn.goR O2 Tryz.func180 fun P hP Q hQ=>?_
 conv=>cbv
 rcases aa:E5 cb ci ch [(tx [97]),(tx [98]),(tx [115,48,48,48,48,48,48,48,48,46,115,101,103]),(tx [115,48,48,48,48,48,48,48,51,46,115,101,103]),(tx [115,48,48,48,48,48,48,48,48,46,115,101,103,46,116,109,112]),(tx [99]),(tx [120]),(tx []),(tx [65])]with⟨d2,ri2,rh2⟩
 have zr2:=Hh (n:=100) aa (by omega) (by decide)
 refine .bxL [0] [1] (.same (.ref rfl rfl .nil)) hP (P4 hcb rfl (by omega) (by decide) aa) rfl rfl rfl rfl ?_
 conv=>cbv
 have e:(d2,ri2,rh2)=Ir cb ci ch:=(by unfold Ir;exact aa.symm)
 rw[hr]at e
 simp only[Prod.mk.injEq]at e
 obtain⟨rfl,rfl,rfl⟩:=e
 exact hQ _ _ (.of [] (.inl rfl) rfl rfl rfl rfl)
theorem Xkq(hcb:cb.map cB=xcb)(hc:0≤ci∧ci≤cb.length∧cb.length≤1000000000000)(hr:Td cb ci ch=(⟨okin,onam,oto,otex⟩,oi,oh)):Fn Tryz.prog 97 [.ptr 0 0 0] [.box 140 [.d (.row 1 xcb),I ci,I ch]] ⟨.agg [I okin,S onam,S oto,S otex],[],[(0,.box 140 [.d (.row 1 xcb),I oi,I oh])]⟩:=by
 refine Fn.goR O2 Tryz.func97 fun P hP Q hQ=>?_
 conv=>cbv
 rcases ab:Ae cb ci ch 8 with⟨d2,ri2,rh2⟩
 have zr2:=Ah ab (by omega)
 refine .bx [0] [] hP (Bq hcb (by omega) ab) rfl rfl rfl rfl ?_
 conv=>cbv
 rcases ac:Ir cb ri2 rh2 with⟨d4,ri4,rh4⟩
 have zr4:=Ny ac (by omega)
 refine .bx [0] [] hP (Xa7 hcb (by omega) ac) rfl rfl rfl rfl ?_
 conv=>cbv
 rcases ad:Ir cb ri4 rh4 with⟨d6,ri6,rh6⟩
 have zr6:=Ny ad (by omega)
 refine .bx [0] [] hP (Xa7 hcb (by omega) ad) rfl rfl rfl rfl ?_
 conv=>cbv
 rcases ae:Ae cb ri6 rh6 5 with⟨d8,ri8,rh8⟩
 have zr8:=Ah ae (by omega)
 refine .bx [0] [] hP (Bq hcb (by omega) ae) rfl rfl rfl rfl ?_
 conv=>cbv
 rcases aa:Dp cb ri8 rh8 d8 with⟨d10,ri10,rh10⟩
 have zr10:=F0 aa (by omega)
 refine .bx [0] [] hP (M5 hcb (by omega) aa) rfl rfl rfl rfl ?_
 conv=>cbv
 have e:((⟨d2,d4,d6,d10⟩:TOp),ri10,rh10)=Td cb ci ch:=(by unfold Td;simp only[ab,ac,ad,ae,aa])
 rw[hr]at e
 simp only[Prod.mk.injEq,TOp.mk.injEq]at e
 obtain⟨⟨rfl,rfl,rfl,rfl⟩,rfl,rfl⟩:=e
 exact hQ _ _ (.of [] (.inl rfl) rfl rfl rfl rfl)
theorem Tm{onod:List Cj}{Ej:List (List D)}{oent:List Ac}{Ee:List (List D)}{oold:List Ac}{Eg:List (List D)}{oste:List ByteArray}{Ek:List (List D)}{oroo:Int}{onex:Int}{nonod:Nat}{noent:Nat}{noold:Nat}{noste:Nat}(hcode:code.map cB=xcode)(hb:code.length≤1000000000000)(hr:G1 code=⟨onod,oent,oold,oste,oroo,onex⟩)(Ga:onod.map B3=Ej)(Gd:oent.map Ad=Ee)(Gg:oold.map Ad=Eg)(F5:oste.map cS=Ek)(hnonod:nonod=onod.length)(hnoent:noent=oent.length)(hnoold:noold=oold.length)(hnoste:noste=oste.length):Fn Tryz.prog 30 [.d (.row 1 xcode)] [] ⟨.agg [.ref 0 0 nonod,.ref 1 0 noent,.ref 2 0 noold,.ref 3 0 noste,I oroo,I onex],[.row 3 false Ej,.row 2 false Ee,.row 2 false Eg,.row 1 false Ek],[]⟩:=by
 refine Fn.goR O2 Tryz.func30 fun P hP Q hQ=>?_
 conv=>cbv
 generalize af:Eu code=rh2
 refine .ddN hP (Qh hcode (by omega) af) rfl ?_
 conv=>cbv
 rcases ae:C3 code 0 rh2 with⟨⟨d4nod,d4ent,d4old,d4ste,d4roo,d4nex⟩,ri4,rh4⟩
 generalize aa:d4nod.map B3=xd4nod
 generalize ab:d4ent.map Ad=xd4ent
 generalize ac:d4old.map Ad=xd4old
 generalize ad:d4ste.map cS=xd4ste
 obtain⟨nd4nod,hnd4nod⟩:∃m,m=d4nod.length:=⟨_,rfl⟩
 obtain⟨nd4ent,hnd4ent⟩:∃m,m=d4ent.length:=⟨_,rfl⟩
 obtain⟨nd4old,hnd4old⟩:∃m,m=d4old.length:=⟨_,rfl⟩
 obtain⟨nd4ste,hnd4ste⟩:∃m,m=d4ste.length:=⟨_,rfl⟩
 have zr4:=P7 ae (by omega)
 refine .bx [5] [] hP (XeM hcode (by omega) aa ab ac ad ae hnd4nod hnd4ent hnd4old hnd4ste) rfl rfl rfl rfl ?_
 conv=>cbv
 have e:(⟨d4nod,d4ent,d4old,d4ste,d4roo,d4nex⟩:Aa)=G1 code:=(by unfold G1;rw[af,ae])
 rw[hr]at e
 simp only[Aa.mk.injEq]at e
 obtain⟨rfl,rfl,rfl,rfl,rfl,rfl⟩:=e
 obtain rfl:xd4nod=Ej:=by rw[←aa,←Ga]
 obtain rfl:nd4nod=nonod:=by first|omega|(rw[hnonod];simp;done)|(rw[hnonod];simp;omega)
 obtain rfl:xd4ent=Ee:=by rw[←ab,←Gd]
 obtain rfl:nd4ent=noent:=by first|omega|(rw[hnoent];simp;done)|(rw[hnoent];simp;omega)
 obtain rfl:xd4old=Eg:=by rw[←ac,←Gg]
 obtain rfl:nd4old=noold:=by first|omega|(rw[hnoold];simp;done)|(rw[hnoold];simp;omega)
 obtain rfl:xd4ste=Ek:=by rw[←ad,←F5]
 obtain rfl:nd4ste=noste:=by first|omega|(rw[hnoste];simp;done)|(rw[hnoste];simp;omega)
 exact hQ _ _ (.of [6,7,8,9] (.inl rfl) rfl rfl rfl rfl)
theorem Qe{o:List Fm}(hcode:code.map cB=xcode)(hb:code.length≤1000000000000)(hr:Fc code=o)(ho:o.map Mj=xo):Fn Tryz.prog 32 [.d (.row 1 xcode)] [] ⟨.d (.row 2 xo),[],[]⟩:=by
 refine Fn.go O2 Tryz.func32 fun P hP Q hQ=>?_
 conv=>cbv
 generalize af:Eu code=rh2
 refine .ddN hP (Qh hcode (by omega) af) rfl ?_
 conv=>cbv
 rcases ae:H4 code 0 rh2 with⟨⟨d4nod,d4ent,d4old,d4ste,d4roo,d4nex⟩,ri4,rh4⟩
 generalize aa:d4nod.map B3=xd4nod
 generalize ab:d4ent.map Ad=xd4ent
 generalize ac:d4old.map Ad=xd4old
 generalize ad:d4ste.map cS=xd4ste
 obtain⟨nd4nod,hnd4nod⟩:∃m,m=d4nod.length:=⟨_,rfl⟩
 obtain⟨nd4ent,hnd4ent⟩:∃m,m=d4ent.length:=⟨_,rfl⟩
 obtain⟨nd4old,hnd4old⟩:∃m,m=d4old.length:=⟨_,rfl⟩
 obtain⟨nd4ste,hnd4ste⟩:∃m,m=d4ste.length:=⟨_,rfl⟩
 have zr4:=P2 ae (by omega)
 refine .bx [1] [] hP (Xe1 hcode (by omega) aa ab ac ad ae hnd4nod hnd4ent hnd4old hnd4ste) rfl rfl rfl rfl ?_
 conv=>cbv
 generalize ag:Ps (⟨d4nod,d4ent,d4old,d4ste,d4roo,d4nex⟩:Aa)=l5
 generalize ah:l5.map Mj=ai
 refine .lntD hP (XiV aa ab ac ad zr4.1.1 ag ah) (.agg (.ref rfl (Ag aa) (.ref rfl (Ag ab) (.ref rfl (Ag ac) (.ref rfl (Ag ad) (.d rfl (.d rfl .nil)))))) .nil) ?_
 conv=>cbv
 have e:l5=Fc code:=(by unfold Fc Xc2;rw[af,ae];exact ag.symm)
 rw[hr]at e
 subst e
 exact hQ _ _ (.d rfl (by rw[←ah,←ho]))
theorem Vz{o:List ByteArray}{no:Nat}(hcode:code.map cB=xcode)(hb:code.length≤1000000000000)(hr:Gl code=o)(ho:o.map cS=xo)(hno:no=o.length):Fn Tryz.prog 33 [.d (.row 1 xcode)] [] ⟨.ref 0 0 no,[.row 1 false xo],[]⟩:=by
 refine Fn.goR O2 Tryz.func33 fun P hP Q hQ=>?_
 conv=>cbv
 generalize ab:Eu code=rh2
 refine .ddN hP (Qh hcode (by omega) ab) rfl ?_
 conv=>cbv
 rcases aa:Dh code 0 rh2 6 with⟨d4,ri4,rh4⟩
 generalize ac:d4.map cS=xd4
 obtain⟨nd4,hnd4⟩:∃m,m=d4.length:=⟨_,rfl⟩
 have zr4:=Gh aa (by omega) (by omega)
 refine .bx [1] [] hP (Nn hcode (by omega) (by omega) ac aa hnd4) rfl rfl rfl rfl ?_
 conv=>cbv
 have e:d4=Gl code:=(by unfold Gl;rw[ab,aa])
 rw[hr]at e
 obtain rfl:=e
 obtain rfl:xd4=xo:=by rw[←ac,←ho]
 obtain rfl:nd4=no:=by first|omega|(rw[hno];simp;done)|(rw[hno];simp;omega)
 exact hQ _ _ (.of [2] (.inl rfl) rfl rfl rfl rfl)
theorem Xbm(hcode:code.map cB=xcode)(hb:code.length≤1000000000000)(hr:If code=⟨okin,onam,oto,otex⟩):Fn Tryz.prog 34 [.d (.row 1 xcode)] [] ⟨.agg [I okin,S onam,S oto,S otex],[],[]⟩:=by
 refine Fn.go O2 Tryz.func34 fun P hP Q hQ=>?_
 conv=>cbv
 generalize ab:Eu code=rh2
 refine .ddN hP (Qh hcode (by omega) ab) rfl ?_
 conv=>cbv
 rcases aa:Td code 0 rh2 with⟨⟨d4kin,d4nam,d4to,d4tex⟩,ri4,rh4⟩
 have zr4:=Xe4 aa (by omega)
 refine .bx [1] [] hP (Xkq hcode (by omega) aa) rfl rfl rfl rfl ?_
 conv=>cbv
 have e:(⟨d4kin,d4nam,d4to,d4tex⟩:TOp)=If code:=(by unfold If;rw[ab,aa])
 rw[hr]at e
 simp only[TOp.mk.injEq]at e
 obtain⟨rfl,rfl,rfl,rfl⟩:=e
 exact hQ _ _ (.one (.inl rfl) rfl (.agg (.d rfl rfl (.d rfl rfl (.d rfl rfl (.d rfl rfl (.nil))))) .nil))
theorem Xfq(hcode:code.map cB=xcode)(hb:code.length≤1000000000000)(hr:Qj code=(⟨Kf,Kh,Ke,Kg,Pw,Pt⟩,ob))(En:Kf.map B3=Di)(Et:Kh.map Ad=De)(Er:Ke.map Ad=Df)(Es:Kg.map cS=Dd)(hnoanod:noanod=Kf.length)(hnoaent:noaent=Kh.length)(hnoaold:noaold=Ke.length)(hnoaste:noaste=Kg.length):Fn Tryz.prog 98 [.d (.row 1 xcode)] [] ⟨.tup [.agg [.ref 0 0 noanod,.ref 1 0 noaent,.ref 2 0 noaold,.ref 3 0 noaste,I Pw,I Pt],I ob],[.row 3 false Di,.row 2 false De,.row 2 false Df,.row 1 false Dd],[]⟩:=by
 refine Fn.goR O2 Tryz.func98 fun P hP Q hQ=>?_
 conv=>cbv
 generalize ag:Eu code=rh2
 refine .ddN hP (Qh hcode (by omega) ag) rfl ?_
 conv=>cbv
 rcases ae:H4 code 0 rh2 with⟨⟨d4nod,d4ent,d4old,d4ste,d4roo,d4nex⟩,ri4,rh4⟩
 generalize aa:d4nod.map B3=xd4nod
 generalize ab:d4ent.map Ad=xd4ent
 generalize ac:d4old.map Ad=xd4old
 generalize ad:d4ste.map cS=xd4ste
 obtain⟨nd4nod,hnd4nod⟩:∃m,m=d4nod.length:=⟨_,rfl⟩
 obtain⟨nd4ent,hnd4ent⟩:∃m,m=d4ent.length:=⟨_,rfl⟩
 obtain⟨nd4old,hnd4old⟩:∃m,m=d4old.length:=⟨_,rfl⟩
 obtain⟨nd4ste,hnd4ste⟩:∃m,m=d4ste.length:=⟨_,rfl⟩
 have zr4:=P2 ae (by omega)
 refine .bx [5] [] hP (Xe1 hcode (by omega) aa ab ac ad ae hnd4nod hnd4ent hnd4old hnd4ste) rfl rfl rfl rfl ?_
 conv=>cbv
 rcases af:Bn code ri4 rh4 [0,2,1,3,(-1)]with⟨d6,ri6,rh6⟩
 have zr6:=C5 af (by omega)
 refine .bxL [5] [15] (.same (.ref rfl rfl .nil)) hP (Hn hcode rfl (by omega) (by decide) af) rfl rfl rfl rfl ?_
 conv=>cbv
 have e:((⟨d4nod,d4ent,d4old,d4ste,d4roo,d4nex⟩:Aa),d6)=Qj code:=(by unfold Qj;simp only[ag,ae,af])
 rw[hr]at e
 simp only[Prod.mk.injEq,Aa.mk.injEq]at e
 obtain⟨⟨rfl,rfl,rfl,rfl,rfl,rfl⟩,rfl⟩:=e
 obtain rfl:xd4nod=Di:=by rw[←aa,←En]
 obtain rfl:nd4nod=noanod:=by first|omega|(rw[hnoanod];simp;done)|(rw[hnoanod];simp;omega)
 obtain rfl:xd4ent=De:=by rw[←ab,←Et]
 obtain rfl:nd4ent=noaent:=by first|omega|(rw[hnoaent];simp;done)|(rw[hnoaent];simp;omega)
 obtain rfl:xd4old=Df:=by rw[←ac,←Er]
 obtain rfl:nd4old=noaold:=by first|omega|(rw[hnoaold];simp;done)|(rw[hnoaold];simp;omega)
 obtain rfl:xd4ste=Dd:=by rw[←ad,←Es]
 obtain rfl:nd4ste=noaste:=by first|omega|(rw[hnoaste];simp;done)|(rw[hnoaste];simp;omega)
 exact hQ _ _ (.of [6,7,8,9] (.inl rfl) rfl rfl rfl rfl)
theorem Tl(hcode:code.map cB=xcode)(hb:code.length≤1000000000000)(hr:Io code=(⟨Kf,Kh,Ke,Kg,Pw,Pt⟩,ob))(En:Kf.map B3=Di)(Et:Kh.map Ad=De)(Er:Ke.map Ad=Df)(Es:Kg.map cS=Dd)(hnoanod:noanod=Kf.length)(hnoaent:noaent=Kh.length)(hnoaold:noaold=Ke.length)(hnoaste:noaste=Kg.length):Fn Tryz.prog 35 [.d (.row 1 xcode)] [] ⟨.tup [.agg [.ref 0 0 noanod,.ref 1 0 noaent,.ref 2 0 noaold,.ref 3 0 noaste,I Pw,I Pt],I ob],[.row 3 false Di,.row 2 false De,.row 2 false Df,.row 1 false Dd],[]⟩:=by
 refine Fn.goR O2 Tryz.func35 fun P hP Q hQ=>?_
 conv=>cbv
 rcases ao:Qj code with⟨⟨aa,ab,ac,ad,am,an⟩,ap⟩
 generalize ae:aa.map B3=ai
 generalize af:ab.map Ad=aj
 generalize ag:ac.map Ad=ak
 generalize ah:ad.map cS=al
 obtain⟨nr1anod,hnr1anod⟩:∃m,m=aa.length:=⟨_,rfl⟩
 obtain⟨nr1aent,hnr1aent⟩:∃m,m=ab.length:=⟨_,rfl⟩
 obtain⟨nr1aold,hnr1aold⟩:∃m,m=ac.length:=⟨_,rfl⟩
 obtain⟨nr1aste,hnr1aste⟩:∃m,m=ad.length:=⟨_,rfl⟩
 refine .ddN hP (Xfq hcode hb ao ae af ag ah hnr1anod hnr1aent hnr1aold hnr1aste) rfl ?_
 conv=>cbv
 have e:((⟨aa,ab,ac,ad,am,an⟩:Aa),ap)=Io code:=(by exact ao.symm)
 rw[hr]at e
 simp only[Prod.mk.injEq,Aa.mk.injEq]at e
 obtain⟨⟨rfl,rfl,rfl,rfl,rfl,rfl⟩,rfl⟩:=e
 obtain rfl:ai=Di:=by rw[←ae,←En]
 obtain rfl:nr1anod=noanod:=by first|omega|(rw[hnoanod];simp;done)|(rw[hnoanod];simp;omega)
 obtain rfl:aj=De:=by rw[←af,←Et]
 obtain rfl:nr1aent=noaent:=by first|omega|(rw[hnoaent];simp;done)|(rw[hnoaent];simp;omega)
 obtain rfl:ak=Df:=by rw[←ag,←Er]
 obtain rfl:nr1aold=noaold:=by first|omega|(rw[hnoaold];simp;done)|(rw[hnoaold];simp;omega)
 obtain rfl:al=Dd:=by rw[←ah,←Es]
 obtain rfl:nr1aste=noaste:=by first|omega|(rw[hnoaste];simp;done)|(rw[hnoaste];simp;omega)
 exact hQ _ _ (.of [5,6,7,8] (.inl rfl) rfl rfl rfl rfl)
theorem L7{a:List ByteArray}{xa:List (List D)}{b:List ByteArray}{xb:List (List D)}{o:Bool}(ha:a.map cS=xa)(hb:b.map cS=xb)(hl:a.length≤100000000000)(hr:Ff a b=o):Fn Tryz.prog 37 [.d (.row 1 xa),.d (.row 1 xb)] [] ⟨B o,[],[]⟩:=by
 refine Fn.go O2 Tryz.func37 fun P hP Q hQ=>?_
 conv=>cbv
 refine .go ha fun v1 ac=>?_
 conv=>cbv
 refine .go hb fun v2 af=>?_
 conv=>cbv
 refine .neq (fun h3=>?_) fun h3=>?_
 conv=>cbv
 have e:false=Ff a b:=(by unfold Ff;symm;rw[decide_eq_false_iff_not];intro e;rw[e]at ac;omega)
 rw[hr]at e
 subst e
 exact hQ _ _ (.b rfl rfl)
 conv=>cbv
 refine LoopW.lp (κ:=Int) O2 hP [] [0,1] (fun i5=>[(5,I i5)]) (fun i5=>[])
  (fun i5=>0≤i5∧i5≤a.length∧∀(j:Nat) (hj:j<a.length) (hk:j<b.length),j<i5.toNat→a[j]=b[j])
  (fun i5=>(a.length - i5).toNat) (0) ⟨by omega,by omega,fun j _ _ h=>by simp at h⟩ ⟨rfl,trivial⟩ rfl ?_
 rintro i5 J ⟨h0,h1,hx⟩ hJ
 conv=>cbv
 refine .go ha fun v4 ag=>?_
 conv=>cbv
 refine .lss (fun h5=>?_) fun h5=>?_
 conv=>cbv
 refine .go i5.toNat ha fun ad e6 aa=>?_
 conv=>cbv
 refine .go i5.toNat hb fun ae e7 ab=>?_
 conv=>cbv
 refine .neq (fun h8=>?_) fun h8=>?_
 conv=>cbv
 have e:false=Ff a b:=(by unfold Ff;symm;rw[decide_eq_false_iff_not];intro e;subst e;exact h8 (by rw[aa,ab]))
 rw[hr]at e
 subst e
 exact hQ _ _ (.b rfl rfl)
 conv=>cbv
 refine .add fun v9 ah=>?_
 conv=>cbv
 exact .go [] (v9) (hJ _ ⟨by omega,by omega,fun j hj hk h=>if e:j=i5.toNat then by subst e;rw[←aa,←ab];first|exact Decidable.not_not.1 h8|exact h8 else hx j hj hk (by omega)⟩ mlt)
 conv=>cbv
 have e:true=Ff a b:=(by unfold Ff;symm;rw[decide_eq_true_eq];exact List.ext_getElem (by omega) fun j p q=>hx j p q (by omega))
 rw[hr]at e
 subst e
 exact hQ _ _ (.b rfl rfl)
theorem XcW{d:Aa}{s:ByteArray}(h:Tb d):Tb (Lo d s):=fun n hn=>h n (List.mem_filter.1 hn).1
theorem Xaq{d:Aa}{n:ByteArray}(h:Tb d):Tb (Aw d n).1:=by
 unfold Aw
 repeat' split
 all_goals first|exact h|skip
 refine XcW fun x hx=>?_
 rcases List.mem_append.1 hx with hx|hx
 ·exact h x hx
 ·rw[List.mem_singleton.1 hx];show K9 0;unfold K9;omega
theorem XhM{d:Aa}{n:ByteArray}(h:Tb d):Tb (B5 d n).1:=by
 unfold B5
 split
 ·exact h
 ·exact XcW h
theorem XhX{d:Aa}{a b:ByteArray}(h:Tb d):Tb (Cg d a b).1:=by
 unfold Cg
 repeat' split
 all_goals first|exact h|exact XcW h
theorem Xjm{d:Aa}(h:Tb d):Tb (C9 d):=by
 unfold C9
 split
 ·exact h
 ·exact fun n hn=>h n (List.mem_filter.1 hn).1
theorem Xka{l:List Cj}{i:Nat}{x:Cj}(h:∀n∈l,K9 n.sure_)(hx:i<l.length→K9 x.sure_):∀n∈l.set i x,K9 n.sure_:=by
 intro n hn
 rcases Nat.lt_or_ge i l.length with hi|hi
 ·rcases List.mem_or_eq_of_mem_set hn with hn|rfl
  ·exact h n hn
  ·exact hx hi
 ·rw[List.set_eq_of_length_le hi]at hn
  exact h n hn
theorem Xgs{d:Aa}{n t:ByteArray}(h:Tb d):Tb (Be d n t).1:=by
 unfold Be
 split
 ·exact h
 ·refine Xka h fun hi=>?_
  unfold gN
  show K9 (d.nodes_.getD _ _).sure_
  rw[←gD hi]
  exact h _ (List.getElem_mem hi)
theorem XkQ{d:Aa}{n:ByteArray}(hd:Pc d)(h:Tb d):Tb (C8 d n).1:=by
 unfold C8
 split
 ·exact h
 ·refine Xka h fun hi=>?_
  show K9 ((d.nodes_.getD _ _).text_.size:Int)
  rw[←gD hi]
  have:=hd.1.2.1 _ (List.getElem_mem hi)
  unfold K9
  omega
theorem XgY{b:List UInt8}{i h oi oh:Int}{d o:Aa}(e:Gr b i h d=(o,oi,oh))(hd:Pc d)(hs:Tb d):Tb o:=by
 have key:o=(Gr b i h d).1:=by rw[e]
 rw[key]
 unfold Gr
 rcases E5 b i h nmA with⟨n,i1,h1'⟩
 dsimp only
 rcases Ae b i1 h1' 8 with⟨x,i2,h2'⟩
 dsimp only
 split
 ·exact XhM hs
 split
 ·exact Xjm hs
 split
 ·exact XkQ hd hs
 split
 ·exact XhX hs
 split
 ·exact Xaq hs
 exact Xgs (Xaq hs)
theorem Xhi{b:List UInt8}:∀{f:Nat} {k i h oi oh:Int} {d o:Aa} {m:Nat},Xan b f k i h d=(o,oi,oh)→(0≤i∧i≤b.length∧b.length≤1000000000000)→okE m d→m+2*f≤1000→Tb d→Tb o
 |0,k,i,h,oi,oh,d,o,m,e,hc,hd,hm,hs=>by
  simp only[Xan,Prod.mk.injEq]at e
  rw[←e.1];exact hs
 |f+1,k,i,h,oi,oh,d,o,m,e,hc,hd,hm,hs=>by
  rcases h1:Ae b i h 9 with⟨x,i1,h1'⟩
  have z1:=Ah h1 hc
  simp only[Xan,h1]at e
  split at e
  ·rcases h2:Gr b i1 h1' d with⟨d2,i2,h2'⟩
   have z2:=XdX h2 (by omega) hd (by omega)
   simp only[h2]at e
   exact Xhi e (by omega) z2.1 (by omega) (XgY h2 hd.1 hs)
  ·simp only[Prod.mk.injEq]at e
   rw[←e.1];exact hs
theorem Xdi{b:List UInt8}{i h oi oh:Int}{o:Aa}(e:G3 b i h=(o,oi,oh))(hc:0≤i∧i≤b.length∧b.length≤1000000000000):Tb o:=by
 unfold G3 at e
 rcases h1:Bn b i h [4000,4000,4000,300,100]with⟨r,i1,h1'⟩
 have z1:=C5 h1 hc
 simp only[h1]at e
 exact Xhi e (by omega) (Us r) (by omega) (fun n hn=>by cases hn)
theorem Xk5{b:List UInt8}{i h:Int}:K9 (Bn b i h [-1,0,99]).1:=by
 unfold Bn
 rcases Ae b i h _ with⟨x,i1,h1'⟩
 show K9 (([-1,0,99]:List Int).getD x.toNat 0)
 rcases Nat.lt_or_ge x.toNat 3 with hx|hx
 ·have:∀k:Fin 3,K9 (([-1,0,99]:List Int).getD k.val 0):=by unfold K9;decide
  exact this ⟨_,hx⟩
 ·rw[List.getD_eq_getElem?_getD,List.getElem?_eq_none (by exact hx)];unfold K9;decide
theorem XfN{b:List UInt8}{i h oi oh:Int}{o:Aa}(e:C3 b i h=(o,oi,oh))(hc:0≤i∧i≤b.length∧b.length≤1000000000000):Tb o:=by
 have key:o=(C3 b i h).1:=by rw[e]
 rw[key]
 unfold C3
 rcases h1:G3 b i h with⟨d,i1,h1'⟩
 have hs:=Xdi h1 hc
 dsimp only
 rcases Ae b i1 h1' 16 with⟨x,i2,h2'⟩
 dsimp only
 split
 ·exact hs
 split
 ·exact hs
 split
 ·exact hs
 split
 ·exact hs
 split
 ·exact hs
 split
 ·split
  ·exact hs
  ·rename_i n l hl
   intro q hq
   unfold Tb at hs
   rw[hl]at hs
   rcases List.mem_cons.1 hq with rfl|hq
   ·exact Xk5
   ·exact hs q (by simp[hq])
 split
 ·split
  ·rename_i n m l hl
   intro q hq
   unfold Tb at hs
   rw[hl]at hs
   rcases List.mem_cons.1 hq with rfl|hq
   ·exact hs q (by simp)
   ·rcases List.mem_cons.1 hq with rfl|hq
    ·exact hs m (by simp)
    ·exact hs q (by simp[hq])
  ·exact hs
 ·exact hs
theorem XcC{b:List UInt8}{d:Aa}(e:G1 b=d)(hb:b.length≤1000000000000):Pc d∧Tb d:=by
 rw[←e]
 exact⟨(P7 (rfl:C3 b 0 (Eu b)=(_,_,_)) (by omega)).1,XfN (rfl:C3 b 0 (Eu b)=(_,_,_)) (by omega)⟩
theorem XcS{b:List UInt8}{l:List Fm}(e:Fc b=l)(hb:b.length≤1000000000000):l.length≤1000000000∧∀x∈l,x.name_.size≤1000000000:=XjE (Xit rfl hb).1 e
theorem Xfu{b:List UInt8}{l:List ByteArray}(e:Gl b=l)(hb:b.length≤1000000000000):l.length≤6:=by
 unfold Gl at e
 rcases h:Dh b 0 (Eu b) 6 with⟨x,i,h'⟩
 have:=(Gh h (by omega) (by omega)).1.1
 rw[h]at e
 rw[←e]
 dsimp only
 omega
theorem Xh8{b:List UInt8}{k:Int}{n t x:ByteArray}(e:If b=⟨k,n,t,x⟩)(hb:b.length≤1000000000000):n.size≤1000000000∧t.size≤1000000000∧x.size≤1000000000:=by
 unfold If at e
 rcases h:Td b 0 (Eu b)with⟨o,i,h'⟩
 have:=(Xe4 h (by omega)).1
 rw[h]at e
 dsimp only at e
 rw[e]at this
 dsimp only at this
 omega
theorem Xdk{b:List UInt8}{d:Aa}{v:Int}(e:Io b=(d,v))(hb:b.length≤1000000000000):Pc d:=by
 have:d=(H4 b 0 (Eu b)).1:=(congrArg Prod.fst e).symm
 rw[this]
 exact(P2 (rfl:H4 b 0 (Eu b)=(_,_,_)) (by omega)).1
end
section
open Go Go.Proofs
set_option maxRecDepth 20000
set_option maxHeartbeats 4000000
def Pf:List (Nat×TyRow):=[ty3,ty9,Xgo,Xfz,We,Z1,ty44,XlF]
theorem Wg:Bl Tryz.prog Pf:=Bl.of (by kernel_rfl)
theorem Xfi:Setup Tryz.prog Pf:=⟨Wg,mixed⟩
theorem XiY:Cy ⟨6,tx [],tx [],tx []⟩=tx [110,97,109,101,115]:=by kernel_rfl
def Fv(code:List UInt8):Bool:=true
theorem Ws:Setup Tryz.prog ((3000010,Em Tryz.prog 3000010)::Pf):=(Setup.mark 3000010 Xfi)
theorem XfA{code:List UInt8}{xcode:List (List D)}{o:Bool}(hcode:code.map cB=xcode)(hr:Fv code=o):Fn Tryz.prog 5 [.d (.row 1 xcode)] [] ⟨B o,[],[]⟩:=by
 refine Fn.go Ws Tryz.func5 fun P hP Q hQ=>?_
 conv=>cbv
 generalize b8:Xli code=r1
 refine .dd hP (Flbig hcode b8) ?_
 cases r1
 conv=>cbv
 have hb:code.length≤1000000000000:=by have:=of_decide_eq_false b8;omega
 rcases b9:G1 code with⟨an,am,ao,ap,au,aw⟩
 generalize ae:an.map B3=cu
 generalize af:am.map Ad=cv
 generalize ag:ao.map Ad=cw
 generalize ah:ap.map cS=cx
 obtain⟨nr2nod,hnr2nod⟩:∃m,m=an.length:=⟨_,rfl⟩
 obtain⟨nr2ent,hnr2ent⟩:∃m,m=am.length:=⟨_,rfl⟩
 obtain⟨nr2old,hnr2old⟩:∃m,m=ao.length:=⟨_,rfl⟩
 obtain⟨nr2ste,hnr2ste⟩:∃m,m=ap.length:=⟨_,rfl⟩
 obtain⟨b0,hsu⟩:=XcC b9 hb
 refine .ddN hP (Tm hcode hb b9 ae af ag ah hnr2nod hnr2ent hnr2old hnr2ste) rfl ?_
 conv=>cbv
 generalize b2:Gp (⟨an,am,ao,ap,au,aw⟩:Aa)=l3
 generalize b3:l3.map cS=de
 refine .lntD hP (Xcy ae af ag ah b0.1 hsu b2 b3) (.agg (.ref rfl (Ag ae) (.ref rfl (Ag af) (.ref rfl (Ag ag) (.ref rfl (Ag ah) (.d rfl (.d rfl .nil)))))) .nil) ?_
 conv=>cbv
 generalize ca:Fc code=l4
 generalize ax:l4.map Mj=df
 refine .dd hP (Qe hcode hb ca ax) ?_
 conv=>cbv
 have hlb:=XcS ca hb
 generalize cc:Gl code=l5
 generalize ay:l5.map cS=dg
 obtain⟨nl5,hnl5⟩:∃m,m=l5.length:=⟨_,rfl⟩
 refine .ddN hP (Vz hcode hb cc ay hnl5) rfl ?_
 conv=>cbv
 have hrl:=Xfu cc hb
 rcases cd:If code with⟨az,a1,bb,a2⟩
 refine .dd hP (Xbm hcode hb cd) ?_
 conv=>cbv
 have hop:=Xh8 cd hb
 rcases ce:Io code with⟨⟨ai,aj,ak,al,aq,ar⟩,b4⟩
 generalize aa:ai.map B3=cf
 generalize ab:aj.map Ad=cg
 generalize ac:ak.map Ad=cj
 generalize ad:al.map cS=ck
 obtain⟨nr7anod,hnr7anod⟩:∃m,m=ai.length:=⟨_,rfl⟩
 obtain⟨nr7aent,hnr7aent⟩:∃m,m=aj.length:=⟨_,rfl⟩
 obtain⟨nr7aold,hnr7aold⟩:∃m,m=ak.length:=⟨_,rfl⟩
 obtain⟨nr7aste,hnr7aste⟩:∃m,m=al.length:=⟨_,rfl⟩
 have a8:=Xdk ce hb
 refine .ddN hP (Tl hcode hb ce aa ab ac ad hnr7anod hnr7aent hnr7aold hnr7aste) rfl ?_
 conv=>cbv
 generalize ba:F1 (⟨ai,aj,ak,al,aq,ar⟩:Aa) b4=l8
 generalize b5:l8.map cS=dh
 refine .lntD hP (XcP aa ab ac ad a8.1 ba b5) (.agg (.ref rfl (Ag aa) (.ref rfl (Ag ab) (.ref rfl (Ag ac) (.ref rfl (Ag ad) (.d rfl (.d rfl .nil)))))) (.d rfl .nil)) ?_
 conv=>cbv
 have di:l3.length=am.length:=by rw[←b2];unfold Gp;rw[List.length_map]
 have dj:am.length≤1000000000:=b0.1.2.2.1
 have dk:l8.length≤4294967296:=by rw[←ba];unfold F1;rw[List.length_map];exact Y1 a8.1 rfl
 refine .go b3 fun v9 dl=>?_
 conv=>cbv
 refine .go fun dm c3=>?_
 conv=>cbv
 refine .eql (fun h11=>?_) fun h11=>?_
 conv=>cbv
 generalize bc:Gp (⟨an,am,ao,ap,au,aw⟩:Aa)=cm
 generalize bd:cm.map cS=c4
 refine .lntD hP (XdI ae af ag ah b0.1 hsu bc bd) (.agg (.fz rfl (Ag ae) (.fz rfl (Ag af) (.fz rfl (Ag ag) (.fz rfl (Ag ah) (.d rfl (.d rfl .nil)))))) .nil) ?_
 conv=>cbv
 generalize be:Ff l3 cm=cy
 refine .dd hP (L7 b3 bd (by omega) be) ?_
 cases cy
 conv=>cbv
 refine .go2 (by kernel_rfl) ?_
 conv=>cbv
 have e:false=Fv code:=(by exact absurd (b2.symm.trans bc) (of_decide_eq_false be))
 rw[hr]at e
 subst e
 exact hQ _ _ (.b rfl rfl)
 conv=>cbv
 generalize a6:Dc l4=b6
 generalize bf:b6.map cS=c5
 refine .dd hP (Ow ax hlb.1 hlb.2 a6 bf) ?_
 conv=>cbv
 generalize bg:Dc l4=cn
 generalize bh:cn.map cS=c6
 refine .dd hP (Wh ax hlb.1 hlb.2 bg bh) ?_
 conv=>cbv
 have c7:b6.length=l4.length:=by rw[←a6];unfold Dc;rw[List.length_map]
 generalize bi:Ff b6 cn=cz
 refine .dd hP (L7 bf bh (by omega) bi) ?_
 cases cz
 conv=>cbv
 refine .go2 (by kernel_rfl) ?_
 conv=>cbv
 have e:false=Fv code:=(by exact absurd (a6.symm.trans bg) (of_decide_eq_false bi))
 rw[hr]at e
 subst e
 exact hQ _ _ (.b rfl rfl)
 conv=>cbv
 generalize bj:Dc l4=c0
 generalize bk:c0.map cS=c8
 refine .dd hP (Ow ax hlb.1 hlb.2 bj bk) ?_
 conv=>cbv
 refine .go bk fun dn co=>?_
 conv=>cbv
 refine .go ax fun dp cp=>?_
 conv=>cbv
 refine .eql (fun h20=>?_) fun h20=>?_
 conv=>cbv
 generalize a7:Ht l5=b7
 generalize bl:b7.map cS=c9
 refine .lntD hP (XfW ay (by omega) a7 bl) (.ref rfl (Ag ay) .nil) ?_
 conv=>cbv
 generalize bm:Ht l5=cq
 generalize bn:cq.map cS=da
 refine .lntD hP (Xga ay (by omega) bm bn) (.fz rfl (Ag ay) .nil) ?_
 conv=>cbv
 have db:b7.length=l5.length:=by rw[←a7];unfold Ht;rw[List.length_map]
 generalize bo:Ff b7 cq=c1
 refine .dd hP (L7 bl bn (by omega) bo) ?_
 cases c1
 conv=>cbv
 refine .go2 (by kernel_rfl) ?_
 conv=>cbv
 have e:false=Fv code:=(by exact absurd (a7.symm.trans bm) (of_decide_eq_false bo))
 rw[hr]at e
 subst e
 exact hQ _ _ (.b rfl rfl)
 conv=>cbv
 generalize bp:Cy (⟨az,a1,bb,a2⟩:TOp)=dq
 refine .dd hP (Zj (by first|exact hop|decide) bp) ?_
 conv=>cbv
 generalize bq:Cy (⟨az,a1,bb,a2⟩:TOp)=dr
 refine .dd hP (XeN (by first|exact hop|decide) bq) ?_
 conv=>cbv
 refine .eql (fun h26=>?_) fun h26=>?_
 conv=>cbv
 generalize bt:F1 (⟨ai,aj,ak,al,aq,ar⟩:Aa) b4=cr
 generalize bu:cr.map cS=dc
 refine .lntD hP (Xdf aa ab ac ad a8.1 bt bu) (.agg (.fz rfl (Ag aa) (.fz rfl (Ag ab) (.fz rfl (Ag ac) (.fz rfl (Ag ad) (.d rfl (.d rfl .nil)))))) (.d rfl .nil)) ?_
 conv=>cbv
 generalize bv:Ff l8 cr=c2
 refine .dd hP (L7 b5 bu (by omega) bv) ?_
 cases c2
 conv=>cbv
 refine .go2 (by kernel_rfl) ?_
 conv=>cbv
 have e:false=Fv code:=(by exact absurd (ba.symm.trans bt) (of_decide_eq_false bv))
 rw[hr]at e
 subst e
 exact hQ _ _ (.b rfl rfl)
 conv=>cbv
 refine .go b5 fun ds ct=>?_
 conv=>cbv
 generalize bw:Rb (⟨ai,aj,ak,al,aq,ar⟩:Aa) b4=dt
 refine .lnt hP (XhK aa ab ac ad a8 bw) (.agg (.ref rfl (Ag aa) (.ref rfl (Ag ab) (.ref rfl (Ag ac) (.ref rfl (Ag ad) (.d rfl (.d rfl .nil)))))) (.d rfl .nil)) ?_
 conv=>cbv
 refine .eql (fun h31=>?_) fun h31=>?_
 conv=>cbv
 generalize bz:Cy (⟨6,tx [],tx [],tx []⟩:TOp)=du
 refine .dd hP (Zj (by first|exact hop|decide) bz) ?_
 conv=>cbv
 refine .eql (fun h33=>?_) fun h33=>?_
 conv=>cbv
 refine .go2 (by kernel_rfl) ?_
 conv=>cbv
 have e:true=Fv code:=(by rfl)
 rw[hr]at e
 subst e
 exact hQ _ _ (.b rfl rfl)
 conv=>cbv
 refine .go2 (by kernel_rfl) ?_
 conv=>cbv
 have e:false=Fv code:=(by exact absurd (bz.symm.trans XiY) h33)
 rw[hr]at e
 subst e
 exact hQ _ _ (.b rfl rfl)
 conv=>cbv
 refine .go2 (by kernel_rfl) ?_
 conv=>cbv
 have e:false=Fv code:=(by exfalso;apply h31;rw[ct,←ba,←bw];unfold F1 Rb;rw[List.length_map])
 rw[hr]at e
 subst e
 exact hQ _ _ (.b rfl rfl)
 conv=>cbv
 refine .go2 (by kernel_rfl) ?_
 conv=>cbv
 have e:false=Fv code:=(by exact absurd (bp.symm.trans bq) h26)
 rw[hr]at e
 subst e
 exact hQ _ _ (.b rfl rfl)
 conv=>cbv
 refine .go2 (by kernel_rfl) ?_
 conv=>cbv
 have e:false=Fv code:=(by exfalso;apply h20;rw[co,cp,←bj];unfold Dc;rw[List.length_map])
 rw[hr]at e
 subst e
 exact hQ _ _ (.b rfl rfl)
 conv=>cbv
 refine .go2 (by kernel_rfl) ?_
 conv=>cbv
 have e:false=Fv code:=(by exfalso;omega)
 rw[hr]at e
 subst e
 exact hQ _ _ (.b rfl rfl)
 conv=>cbv
 have e:true=Fv code:=(by rfl)
 rw[hr]at e
 subst e
 exact hQ _ _ (.b rfl rfl)
theorem T5{code:List UInt8}{xcode:List (List D)}(hcode:code.map cB=xcode)(ok_code:code.length<2^47):CallOk Tryz.prog 5 [.d (.row 1 xcode)] [] ⟨.d (.sc (.bool true)),[],[]⟩:=(XfA (code:=code) hcode rfl).ok
end
end Go.Proofs.YtjbmpmmffjgedaaGreatDoor.Ab
