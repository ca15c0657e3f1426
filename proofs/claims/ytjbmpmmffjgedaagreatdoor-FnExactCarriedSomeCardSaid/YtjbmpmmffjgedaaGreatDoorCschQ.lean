/- What functions come to. -/
import Derived.Test.YtjbmpmmffjgedaaGreatDoorCsch06j
import Derived.Test.YtjbmpmmffjgedaaGreatDoorCsHsz
import Derived.Test.YtjbmpmmffjgedaaGreatDoorCschR3
import Derived.KernelRfl
set_option linter.unusedVariables false
set_option linter.unusedSimpArgs false
set_option maxHeartbeats 4000000
set_option maxRecDepth 20000
namespace Go.Proofs.YtjbmpmmffjgedaaGreatDoor.Ab
section
open Go Go.Proofs
def Xib:List (Nat×TyRow):=[ty3,ty9,Xgt,XdN,Xcu,Xal,W0,Zp]
theorem Xgf:B8 Tryz.prog Xib:=B8.of (by kernel_rfl)
theorem N9:Setup Tryz.prog Xib:=⟨Xgf,mixed⟩
instance decNode:DecidableEq Bg:=fun a b=>match a,b with
 |⟨a1,a2,a3⟩,⟨b1,b2,b3⟩=>if h:a1=b1∧a2=b2∧a3=b3 then .isTrue (by rw[h.1,h.2.1,h.2.2])else .isFalse fun e=>h (by simpa only[Bg.mk.injEq]using e)
instance decDisk:DecidableEq Aa:=fun a b=>match a,b with
 |⟨a1,a2,a3,a4,a5,a6⟩,⟨b1,b2,b3,b4,b5,b6⟩=>if h:a1=b1∧a2=b2∧a3=b3∧a4=b4∧a5=b5∧a6=b6 then .isTrue (by rw[h.1,h.2.1,h.2.2.1,h.2.2.2.1,h.2.2.2.2.1,h.2.2.2.2.2])else .isFalse fun e=>h (by simpa only[Aa.mk.injEq]using e)
def Kn(a b:Bg):Bool:=decide (a.id_=b.id_∧a.text_=b.text_∧a.sure_=b.sure_)
def Jl(a b:Ad):Bool:=decide (a.name_=b.name_∧a.id_=b.id_)
def Kx(a b:List Bg):Bool:=decide (a=b)
def Ib(a b:List Ad):Bool:=decide (a=b)
def Hl(a b:List ByteArray):Bool:=decide (a=b)
def G0(a b:Aa):Bool:=decide (a=b)
theorem XiZ{a b:Bg}(h:a.id_=b.id_∧a.text_=b.text_∧a.sure_=b.sure_):a=b:=by cases a;cases b;simp only[Bg.mk.injEq];exact h
theorem Xhc{a b:Ad}(h:a.name_=b.name_∧a.id_=b.id_):a=b:=by cases a;cases b;simp only[Ad.mk.injEq];exact h
theorem Ky(a:Aa):G0 a a=true:=decide_eq_true rfl
variable {aid bid aroo anex k k1 k2 k3 k4:Int} {o:Bool} {xa xb xanod xaent xaold xaste:List (List D)} {anod:List Bg} {aent aold:List Ad} {aste:List ByteArray}
theorem XjI{atex:ByteArray}{asur:Int}{btex:ByteArray}{bsur:Int}(hr:Kn (⟨aid,atex,asur⟩:Bg) (⟨bid,btex,bsur⟩:Bg)=o):Fn Tryz.prog 208 [.agg [I aid,S atex,I asur],.agg [I bid,S btex,I bsur]] [] ⟨B o,[],[]⟩:=by
 refine Fn.go N9 Tryz.func208 fun P hP Q hQ=>?_
 conv=>cbv
 refine .neq (fun h1=>?_) fun h1=>?_
 conv=>cbv
 have e:false=Kn (⟨aid,atex,asur⟩:Bg) (⟨bid,btex,bsur⟩:Bg):=(by unfold Kn;symm;rw[decide_eq_false_iff_not];intro e;dsimp only at e;first|(exact absurd e.1 h1)|omega)
 rw[hr]at e
 subst e
 exact hQ _ _ (.b rfl rfl)
 conv=>cbv
 refine .neq (fun h2=>?_) fun h2=>?_
 conv=>cbv
 have e:false=Kn (⟨aid,atex,asur⟩:Bg) (⟨bid,btex,bsur⟩:Bg):=(by unfold Kn;symm;rw[decide_eq_false_iff_not];intro e;dsimp only at e;first|exact absurd e.2.1 h2|exact h2 e.2.1)
 rw[hr]at e
 subst e
 exact hQ _ _ (.b rfl rfl)
 conv=>cbv
 refine .neq (fun h3=>?_) fun h3=>?_
 conv=>cbv
 have e:false=Kn (⟨aid,atex,asur⟩:Bg) (⟨bid,btex,bsur⟩:Bg):=(by unfold Kn;symm;rw[decide_eq_false_iff_not];intro e;dsimp only at e;first|(exact absurd e.2.2 h3)|omega)
 rw[hr]at e
 subst e
 exact hQ _ _ (.b rfl rfl)
 conv=>cbv
 have e:true=Kn (⟨aid,atex,asur⟩:Bg) (⟨bid,btex,bsur⟩:Bg):=(by unfold Kn;symm;rw[decide_eq_true_eq];dsimp only;refine⟨?_,?_,?_⟩<;>first|omega|assumption|(apply Classical.byContradiction;assumption))
 rw[hr]at e
 subst e
 exact hQ _ _ (.b rfl rfl)
theorem XgV{anam:ByteArray}{bnam:ByteArray}(hr:Jl (⟨anam,aid⟩:Ad) (⟨bnam,bid⟩:Ad)=o):Fn Tryz.prog 209 [.agg [S anam,I aid],.agg [S bnam,I bid]] [] ⟨B o,[],[]⟩:=by
 refine Fn.go N9 Tryz.func209 fun P hP Q hQ=>?_
 conv=>cbv
 refine .neq (fun h1=>?_) fun h1=>?_
 conv=>cbv
 have e:false=Jl (⟨anam,aid⟩:Ad) (⟨bnam,bid⟩:Ad):=(by unfold Jl;symm;rw[decide_eq_false_iff_not];intro e;dsimp only at e;first|exact absurd e.1 h1|exact h1 e.1)
 rw[hr]at e
 subst e
 exact hQ _ _ (.b rfl rfl)
 conv=>cbv
 refine .neq (fun h2=>?_) fun h2=>?_
 conv=>cbv
 have e:false=Jl (⟨anam,aid⟩:Ad) (⟨bnam,bid⟩:Ad):=(by unfold Jl;symm;rw[decide_eq_false_iff_not];intro e;dsimp only at e;first|(exact absurd e.2 h2)|omega)
 rw[hr]at e
 subst e
 exact hQ _ _ (.b rfl rfl)
 conv=>cbv
 have e:true=Jl (⟨anam,aid⟩:Ad) (⟨bnam,bid⟩:Ad):=(by unfold Jl;symm;rw[decide_eq_true_eq];dsimp only;refine⟨?_,?_⟩<;>first|omega|assumption|(apply Classical.byContradiction;assumption))
 rw[hr]at e
 subst e
 exact hQ _ _ (.b rfl rfl)
theorem Xh5{a:List Bg}{b:List Bg}(ha:a.map Bi=xa)(hb:b.map Bi=xb)(hl:a.length≤2000000000)(hr:Kx a b=o):Fn Tryz.prog 127 [.d (.row 3 xa),.d (.row 3 xb)] [] ⟨B o,[],[]⟩:=by
 refine Fn.go N9 Tryz.func127 fun P hP Q hQ=>?_
 conv=>cbv
 refine .go ha fun v1 aj=>?_
 conv=>cbv
 refine .go hb fun v2 am=>?_
 conv=>cbv
 refine .neq (fun h3=>?_) fun h3=>?_
 conv=>cbv
 have e:false=Kx a b:=(by unfold Kx;symm;rw[decide_eq_false_iff_not];intro e;rw[e]at aj;omega)
 rw[hr]at e
 subst e
 exact hQ _ _ (.b rfl rfl)
 conv=>cbv
 refine LoopW.lp (κ:=Int) N9 hP [] [0,1] (fun i5=>[(5,I i5)]) (fun i5=>[])
  (fun i5=>0≤i5∧i5≤a.length∧∀(j:Nat) (hj:j<a.length) (hk:j<b.length),j<i5.toNat→a[j]=b[j])
  (fun i5=>(a.length - i5).toNat) (0) ⟨by omega,by omega,fun j _ _ h=>by simp at h⟩ ⟨rfl,trivial⟩ rfl ?_
 rintro i5 J ⟨h0,h1,hx⟩ hJ
 conv=>cbv
 refine .go ha fun v4 an=>?_
 conv=>cbv
 refine .lss (fun h5=>?_) fun h5=>?_
 conv=>cbv
 refine .go i5.toNat ha fun ak ⟨af,ab,ac⟩ ag=>?_
 conv=>cbv
 refine .go i5.toNat hb fun al ⟨ah,ad,ae⟩ ai=>?_
 conv=>cbv
 generalize aa:Kn (⟨af,ab,ac⟩:Bg) (⟨ah,ad,ae⟩:Bg)=r8
 refine .dd hP (XjI aa) ?_
 cases r8
 conv=>cbv
 have e:false=Kx a b:=(by unfold Kx;symm;rw[decide_eq_false_iff_not];intro e;subst e;have q:=ag.trans ai.symm;rw[q]at aa;exact absurd aa (by unfold Kn;simp))
 rw[hr]at e
 subst e
 exact hQ _ _ (.b rfl rfl)
 conv=>cbv
 refine .add fun v9 ao=>?_
 conv=>cbv
 exact .go [] (v9) (hJ _ ⟨by omega,by omega,fun j hj hk h=>if e:j=i5.toNat then by subst e;rw[←ag,←ai];exact XiZ (of_decide_eq_true aa)else hx j hj hk (by omega)⟩ mlt)
 conv=>cbv
 have e:true=Kx a b:=(by unfold Kx;symm;rw[decide_eq_true_eq];exact List.ext_getElem (by omega) fun j p q=>hx j p q (by omega))
 rw[hr]at e
 subst e
 exact hQ _ _ (.b rfl rfl)
theorem Xh{a:List Ad}{b:List Ad}(ha:a.map Ac=xa)(hb:b.map Ac=xb)(hl:a.length≤2000000000)(hr:Ib a b=o):Fn Tryz.prog 128 [.d (.row 2 xa),.d (.row 2 xb)] [] ⟨B o,[],[]⟩:=by
 refine Fn.go N9 Tryz.func128 fun P hP Q hQ=>?_
 conv=>cbv
 refine .go ha fun v1 ah=>?_
 conv=>cbv
 refine .go hb fun v2 ak=>?_
 conv=>cbv
 refine .neq (fun h3=>?_) fun h3=>?_
 conv=>cbv
 have e:false=Ib a b:=(by unfold Ib;symm;rw[decide_eq_false_iff_not];intro e;rw[e]at ah;omega)
 rw[hr]at e
 subst e
 exact hQ _ _ (.b rfl rfl)
 conv=>cbv
 refine LoopW.lp (κ:=Int) N9 hP [] [0,1] (fun i5=>[(5,I i5)]) (fun i5=>[])
  (fun i5=>0≤i5∧i5≤a.length∧∀(j:Nat) (hj:j<a.length) (hk:j<b.length),j<i5.toNat→a[j]=b[j])
  (fun i5=>(a.length - i5).toNat) (0) ⟨by omega,by omega,fun j _ _ h=>by simp at h⟩ ⟨rfl,trivial⟩ rfl ?_
 rintro i5 J ⟨h0,h1,hx⟩ hJ
 conv=>cbv
 refine .go ha fun v4 al=>?_
 conv=>cbv
 refine .lss (fun h5=>?_) fun h5=>?_
 conv=>cbv
 refine .go i5.toNat ha fun ai ⟨ab,ad⟩ ae=>?_
 conv=>cbv
 refine .go i5.toNat hb fun aj ⟨ac,af⟩ ag=>?_
 conv=>cbv
 generalize aa:Jl (⟨ab,ad⟩:Ad) (⟨ac,af⟩:Ad)=r8
 refine .dd hP (XgV aa) ?_
 cases r8
 conv=>cbv
 have e:false=Ib a b:=(by unfold Ib;symm;rw[decide_eq_false_iff_not];intro e;subst e;have q:=ae.trans ag.symm;rw[q]at aa;exact absurd aa (by unfold Jl;simp))
 rw[hr]at e
 subst e
 exact hQ _ _ (.b rfl rfl)
 conv=>cbv
 refine .add fun v9 am=>?_
 conv=>cbv
 exact .go [] (v9) (hJ _ ⟨by omega,by omega,fun j hj hk h=>if e:j=i5.toNat then by subst e;rw[←ae,←ag];exact Xhc (of_decide_eq_true aa)else hx j hj hk (by omega)⟩ mlt)
 conv=>cbv
 have e:true=Ib a b:=(by unfold Ib;symm;rw[decide_eq_true_eq];exact List.ext_getElem (by omega) fun j p q=>hx j p q (by omega))
 rw[hr]at e
 subst e
 exact hQ _ _ (.b rfl rfl)
theorem Xc3{a:List ByteArray}{b:List ByteArray}(ha:a.map cS=xa)(hb:b.map cS=xb)(hl:a.length≤2000000000)(hr:Hl a b=o):Fn Tryz.prog 129 [.d (.row 1 xa),.d (.row 1 xb)] [] ⟨B o,[],[]⟩:=by
 refine Fn.go N9 Tryz.func129 fun P hP Q hQ=>?_
 conv=>cbv
 refine .go ha fun v1 ac=>?_
 conv=>cbv
 refine .go hb fun v2 af=>?_
 conv=>cbv
 refine .neq (fun h3=>?_) fun h3=>?_
 conv=>cbv
 have e:false=Hl a b:=(by unfold Hl;symm;rw[decide_eq_false_iff_not];intro e;rw[e]at ac;omega)
 rw[hr]at e
 subst e
 exact hQ _ _ (.b rfl rfl)
 conv=>cbv
 refine LoopW.lp (κ:=Int) N9 hP [] [0,1] (fun i5=>[(5,I i5)]) (fun i5=>[])
  (fun i5=>0≤i5∧i5≤a.length∧∀(j:Nat) (hj:j<a.length) (hk:j<b.length),j<i5.toNat→a[j]=b[j])
  (fun i5=>(a.length - i5).toNat) (0) ⟨by omega,by omega,fun j _ _ h=>by simp at h⟩ ⟨rfl,trivial⟩ rfl ?_
 rintro i5 J ⟨h0,h1,hx⟩ hJ
 conv=>cbv
 refine .go ha fun v4 ag=>?_
 conv=>cbv
 refine .lss (fun h5=>?_) fun h5=>?_
 conv=>cbv
 refine .go i5.toNat ha fun ad e6 aa=>?_
 conv=>cbv
 refine .go i5.toNat hb fun ae e7 ab=>?_
 conv=>cbv
 refine .neq (fun h8=>?_) fun h8=>?_
 conv=>cbv
 have e:false=Hl a b:=(by unfold Hl;symm;rw[decide_eq_false_iff_not];intro e;subst e;exact h8 (by rw[aa,ab]))
 rw[hr]at e
 subst e
 exact hQ _ _ (.b rfl rfl)
 conv=>cbv
 refine .add fun v9 ah=>?_
 conv=>cbv
 exact .go [] (v9) (hJ _ ⟨by omega,by omega,fun j hj hk h=>if e:j=i5.toNat then by subst e;rw[←aa,←ab];first|exact Decidable.not_not.1 h8|exact h8 else hx j hj hk (by omega)⟩ mlt)
 conv=>cbv
 have e:true=Hl a b:=(by unfold Hl;symm;rw[decide_eq_true_eq];exact List.ext_getElem (by omega) fun j p q=>hx j p q (by omega))
 rw[hr]at e
 subst e
 exact hQ _ _ (.b rfl rfl)
theorem Uc{bnod:List Bg}{xbnod:List (List D)}{bent:List Ad}{xbent:List (List D)}{bold:List Ad}{xbold:List (List D)}{bste:List ByteArray}{xbste:List (List D)}{broo:Int}{bnex:Int}(hanod:anod.map Bi=xanod)(haent:aent.map Ac=xaent)(haold:aold.map Ac=xaold)(haste:aste.map cS=xaste)(hbnod:bnod.map Bi=xbnod)(hbent:bent.map Ac=xbent)(hbold:bold.map Ac=xbold)(hbste:bste.map cS=xbste)(h1_:anod.length≤2000000000)(h2_:aent.length≤2000000000)(h3_:aold.length≤2000000000)(h4_:aste.length≤2000000000)(hr:G0 (⟨anod,aent,aold,aste,aroo,anex⟩:Aa) (⟨bnod,bent,bold,bste,broo,bnex⟩:Aa)=o):Fn Tryz.prog 51 [.agg [.d (.row 3 xanod),.d (.row 2 xaent),.d (.row 2 xaold),.d (.row 1 xaste),I aroo,I anex],.agg [.d (.row 3 xbnod),.d (.row 2 xbent),.d (.row 2 xbold),.d (.row 1 xbste),I broo,I bnex]] [] ⟨B o,[],[]⟩:=by
 refine Fn.go N9 Tryz.func51 fun P hP Q hQ=>?_
 conv=>cbv
 generalize aa:Kx anod bnod=r1
 refine .dd hP (Xh5 hanod hbnod h1_ aa) ?_
 cases r1
 conv=>cbv
 have e:false=G0 (⟨anod,aent,aold,aste,aroo,anex⟩:Aa) (⟨bnod,bent,bold,bste,broo,bnex⟩:Aa):=(by unfold G0;symm;rw[decide_eq_false_iff_not,Aa.mk.injEq];intro e;exact of_decide_eq_false aa e.1)
 rw[hr]at e
 subst e
 exact hQ _ _ (.b rfl rfl)
 conv=>cbv
 generalize ab:Ib aent bent=r2
 refine .dd hP (Xh haent hbent (by assumption) ab) ?_
 cases r2
 conv=>cbv
 have e:false=G0 (⟨anod,aent,aold,aste,aroo,anex⟩:Aa) (⟨bnod,bent,bold,bste,broo,bnex⟩:Aa):=(by unfold G0;symm;rw[decide_eq_false_iff_not,Aa.mk.injEq];intro e;exact of_decide_eq_false ab e.2.1)
 rw[hr]at e
 subst e
 exact hQ _ _ (.b rfl rfl)
 conv=>cbv
 generalize ac:Ib aold bold=r3
 refine .dd hP (Xh haold hbold (by assumption) ac) ?_
 cases r3
 conv=>cbv
 have e:false=G0 (⟨anod,aent,aold,aste,aroo,anex⟩:Aa) (⟨bnod,bent,bold,bste,broo,bnex⟩:Aa):=(by unfold G0;symm;rw[decide_eq_false_iff_not,Aa.mk.injEq];intro e;exact of_decide_eq_false ac e.2.2.1)
 rw[hr]at e
 subst e
 exact hQ _ _ (.b rfl rfl)
 conv=>cbv
 generalize ad:Hl aste bste=r4
 refine .dd hP (Xc3 haste hbste h4_ ad) ?_
 cases r4
 conv=>cbv
 have e:false=G0 (⟨anod,aent,aold,aste,aroo,anex⟩:Aa) (⟨bnod,bent,bold,bste,broo,bnex⟩:Aa):=(by unfold G0;symm;rw[decide_eq_false_iff_not,Aa.mk.injEq];intro e;exact of_decide_eq_false ad e.2.2.2.1)
 rw[hr]at e
 subst e
 exact hQ _ _ (.b rfl rfl)
 conv=>cbv
 refine .neq (fun h5=>?_) fun h5=>?_
 conv=>cbv
 have e:false=G0 (⟨anod,aent,aold,aste,aroo,anex⟩:Aa) (⟨bnod,bent,bold,bste,broo,bnex⟩:Aa):=(by unfold G0;symm;rw[decide_eq_false_iff_not,Aa.mk.injEq];intro e;omega)
 rw[hr]at e
 subst e
 exact hQ _ _ (.b rfl rfl)
 conv=>cbv
 refine .neq (fun h6=>?_) fun h6=>?_
 conv=>cbv
 have e:false=G0 (⟨anod,aent,aold,aste,aroo,anex⟩:Aa) (⟨bnod,bent,bold,bste,broo,bnex⟩:Aa):=(by unfold G0;symm;rw[decide_eq_false_iff_not,Aa.mk.injEq];intro e;omega)
 rw[hr]at e
 subst e
 exact hQ _ _ (.b rfl rfl)
 conv=>cbv
 have e:true=G0 (⟨anod,aent,aold,aste,aroo,anex⟩:Aa) (⟨bnod,bent,bold,bste,broo,bnex⟩:Aa):=(by unfold G0;symm;rw[decide_eq_true_eq,Aa.mk.injEq];exact⟨of_decide_eq_true aa,of_decide_eq_true ab,of_decide_eq_true ac,of_decide_eq_true ad,by omega,by omega⟩)
 rw[hr]at e
 subst e
 exact hQ _ _ (.b rfl rfl)
theorem Ya{nanod:Nat}{naent:Nat}{naold:Nat}{naste:Nat}{y0 y1 y2 y3:List (List D)}(hanod:anod.map Bi=xanod)(haent:aent.map Ac=xaent)(haold:aold.map Ac=xaold)(haste:aste.map cS=xaste)(hnanod:nanod=anod.length)(hnaent:naent=aent.length)(hnaold:naold=aold.length)(hnaste:naste=aste.length)(h1_:anod.length≤2000000000)(h2_:aent.length≤2000000000)(h3_:aold.length≤2000000000)(h4_:aste.length≤2000000000)(hk:0≤k∧k≤1000000000000)(aa:k+3*(nanod:Int)=k1)(ab:k1+2*(naent:Int)=k2)(ac:k2+2*(naold:Int)=k3)(ad:k3+1*(naste:Int)=k4)(ae:(Fe k nanod).map Bi=y0)(af:(Dn k1 naent).map Ac=y1)(ag:(Dn k2 naold).map Ac=y2)(ah:(D7 k3 naste).map cS=y3):Fn Tryz.prog 52 [.agg [.ref 0 0 nanod,.ref 1 0 naent,.ref 2 0 naold,.ref 3 0 naste,I aroo,I anex],I k] [.row 3 false xanod,.row 2 false xaent,.row 2 false xaold,.row 1 false xaste] ⟨I k4,[],[(0,.row 3 false y0),(1,.row 2 false y1),(2,.row 2 false y2),(3,.row 1 false y3)]⟩:=by
 refine Fn.goR N9 Tryz.func52 fun P hP Q hQ=>?_
 conv=>cbv
 have hh0:Fn Tryz.prog 130 [.ref 0 0 nanod,I k] [.row 3 false xanod] ⟨I k1,[],[(0,.row 3 false y0)]⟩:=by have h:=T130 hanod hnanod (by omega) k (by omega) (by omega);rw[aa,ae]at h;exact⟨Xlu,h⟩
 refine .bx [0] [] hP hh0 rfl rfl rfl rfl ?_
 conv=>cbv
 have hh1:Fn Tryz.prog 131 [.ref 0 0 naent,I k1] [.row 2 false xaent] ⟨I k2,[],[(0,.row 2 false y1)]⟩:=by have h:=T131 haent hnaent (by omega) k1 (by omega) (by omega);rw[ab,af]at h;exact⟨XjY,h⟩
 refine .bx [1] [] hP hh1 rfl rfl rfl rfl ?_
 conv=>cbv
 have hh2:Fn Tryz.prog 131 [.ref 0 0 naold,I k2] [.row 2 false xaold] ⟨I k3,[],[(0,.row 2 false y2)]⟩:=by have h:=T131 haold hnaold (by omega) k2 (by omega) (by omega);rw[ac,ag]at h;exact⟨XjY,h⟩
 refine .bx [2] [] hP hh2 rfl rfl rfl rfl ?_
 conv=>cbv
 have hh3:Fn Tryz.prog 132 [.ref 0 0 naste,I k3] [.row 1 false xaste] ⟨I k4,[],[(0,.row 1 false y3)]⟩:=by have h:=T132 haste hnaste (by omega) k3 (by omega) (by omega);rw[ad,ah]at h;exact⟨XlT,h⟩
 refine .bx [3] [] hP hh3 rfl rfl rfl rfl ?_
 conv=>cbv
 exact hQ _ _ (.o [] rfl)
theorem X4{n0 n1 n2 n3:Nat}(hanod:anod.map Bi=xanod)(haent:aent.map Ac=xaent)(haold:aold.map Ac=xaold)(haste:aste.map cS=xaste)(hk:0≤k∧k≤1000000000000)(hn_:n0≤2000000000∧n1≤2000000000∧n2≤2000000000∧n3≤2000000000)(aa:k+3*(n0:Int)=k1)(ab:k1+2*(n1:Int)=k2)(ac:k2+2*(n2:Int)=k3)(ad:k3+1*(n3:Int)=k4)(e0:anod=Fe k n0)(e1:aent=Dn k1 n1)(e2:aold=Dn k2 n2)(e3:aste=D7 k3 n3):Fn Tryz.prog 53 [.agg [.d (.row 3 xanod),.d (.row 2 xaent),.d (.row 2 xaold),.d (.row 1 xaste),I aroo,I anex],I k] [] ⟨I k4,[],[]⟩:=by
 refine Fn.go N9 Tryz.func53 fun P hP Q hQ=>?_
 conv=>cbv
 have hh0:Fn Tryz.prog 133 [.d (.row 3 xanod),I k] [] ⟨I k1,[],[]⟩:=by have h:=T133 (n:=n0) (k:=k) (show(Fe k n0).map Bi=xanod from e0▸hanod) (by omega) (by omega) (by omega);rw[aa]at h;exact⟨Xmb,h⟩
 refine .dd hP hh0 ?_
 conv=>cbv
 refine .lss (fun h2=>?_) fun h2=>?_
 conv=>cbv
 exfalso;omega
 conv=>cbv
 have hh1:Fn Tryz.prog 134 [.d (.row 2 xaent),I k1] [] ⟨I k2,[],[]⟩:=by have h:=T134 (n:=n1) (k:=k1) (show(Dn k1 n1).map Ac=xaent from e1▸haent) (by omega) (by omega) (by omega);rw[ab]at h;exact⟨XjW,h⟩
 refine .dd hP hh1 ?_
 conv=>cbv
 refine .lss (fun h4=>?_) fun h4=>?_
 conv=>cbv
 exfalso;omega
 conv=>cbv
 have hh2:Fn Tryz.prog 134 [.d (.row 2 xaold),I k2] [] ⟨I k3,[],[]⟩:=by have h:=T134 (n:=n2) (k:=k2) (show(Dn k2 n2).map Ac=xaold from e2▸haold) (by omega) (by omega) (by omega);rw[ac]at h;exact⟨XjW,h⟩
 refine .dd hP hh2 ?_
 conv=>cbv
 refine .lss (fun h6=>?_) fun h6=>?_
 conv=>cbv
 exfalso;omega
 conv=>cbv
 have hh3:Fn Tryz.prog 135 [.d (.row 1 xaste),I k3] [] ⟨I k4,[],[]⟩:=by have h:=T135 (n:=n3) (k:=k3) (show(D7 k3 n3).map cS=xaste from e3▸haste) (by omega) (by omega) (by omega);rw[ad]at h;exact⟨Xmd,h⟩
 refine .dd hP hh3 ?_
 conv=>cbv
 refine .lss (fun h8=>?_) fun h8=>?_
 conv=>cbv
 exfalso;omega
 conv=>cbv
 exact hQ _ _ (.i rfl rfl)
end
section
open Go Go.Proofs
def M7:List (Nat×TyRow):=[ty3,Xal,ty60]
theorem P2:B8 Tryz.prog M7:=B8.of (by kernel_rfl)
theorem Ux:Setup Tryz.prog M7:=⟨P2,mixed⟩
theorem Xma{d:Aa}(hb:Lk d≤1000000000):okD d:=by
 have n1:=Ki d.nodes_
 have n2:=Ez d.entries_
 have n3:=Ez d.old_
 have n4:=Hy d.steps_
 have l1:=XaW d.nodes_
 have l2:=Mg d.entries_
 have l3:=Mg d.old_
 have l4:=Pb d.steps_
 unfold Lk at hb
 refine⟨by omega,?_,by omega,?_,by omega,by omega⟩
 ·intro n hn
  have:=Hj (fun x=>El x) Yo hn
  have h2:El n=(n.text_.size:Int):=rfl
  have h3:Ef d.nodes_=d.nodes_.length+Kc (fun x=>El x) d.nodes_:=rfl
  omega
 ·intro n hn
  have:=Hj (fun x=>Dj x) Pp hn
  have h2:Dj n=(n.name_.size:Int):=rfl
  have h3:Cv d.entries_=d.entries_.length+Kc (fun x=>Dj x) d.entries_:=rfl
  omega
theorem XkV{d:Aa}(hb:Lk d≤1048576):Jw d∧d.entries_.length≤100000000∧d.steps_.length≤100000000:=by
 have n1:=Ki d.nodes_
 have n2:=Ez d.entries_
 have n3:=Ez d.old_
 have n4:=Hy d.steps_
 have l2:=Mg d.entries_
 have l4:=Pb d.steps_
 have hd:=Xma (d:=d) (by omega)
 unfold Lk at hb
 refine⟨⟨hd,?_,?_⟩,by omega,by omega⟩
 ·intro n hn
  have:=Hj (fun x=>Dj x) Pp hn
  have h2:Dj n=(n.name_.size:Int):=rfl
  have h3:Cv d.old_=d.old_.length+Kc (fun x=>Dj x) d.old_:=rfl
  omega
 ·intro n hn
  have:=Hj (fun x:ByteArray=>(x.size:Int)) (fun x=>by omega) hn
  have h3:De d.steps_=d.steps_.length+Kc (fun x:ByteArray=>(x.size:Int)) d.steps_:=rfl
  omega
theorem Xg:∀{l:List F6} {d:Aa},Jw d→d.steps_.length+5*l.length≤900000000→Jw (No d l).1
 |[],_,h,_=>h
 |x::l,d,h,hl=>by
  rw[List.length_cons]at hl
  have h1:=Pq (d:=d) (b:=x.base_) (t:=x.text_) h (by omega)
  unfold No
  split
  ·exact Xg (l:=l) h1.1 (by have:=h1.2;omega)
  ·exact h1.1
theorem Xf6{d:Aa}{m:Int}(h:Jw d)(hs:d.steps_.length≤100000000):Jw (Dw d m).1:=by
 have hl:=Ta (d:=d) (l:=C0 (Ek d)) rfl
 refine Xg h ?_
 rw[List.length_take]
 omega
def Cp(d:Aa)(m:Int):Bool:=true
theorem O6{aDnod:List Bg}{xaDnod:List (List D)}{aDent:List Ad}{xaDent:List (List D)}{aDold:List Ad}{xaDold:List (List D)}{aDste:List ByteArray}{xaDste:List (List D)}{aDroo:Int}{aDnex:Int}{aMany:Int}{o:Bool}(haDnod:aDnod.map Bi=xaDnod)(haDent:aDent.map Ac=xaDent)(haDold:aDold.map Ac=xaDold)(haDste:aDste.map cS=xaDste)(ok_aD:Xej (⟨aDnod,aDent,aDold,aDste,aDroo,aDnex⟩:Aa))(wf_aMany:wfI aMany)(hr:Cp (⟨aDnod,aDent,aDold,aDste,aDroo,aDnex⟩:Aa) aMany=o):Fn Tryz.prog 6 [.agg [.d (.row 3 xaDnod),.d (.row 2 xaDent),.d (.row 2 xaDold),.d (.row 1 xaDste),I aDroo,I aDnex],I aMany] [] ⟨B o,[],[]⟩:=by
 refine Fn.go Ux Tryz.func6 fun P hP Q hQ=>?_
 conv=>cbv
 obtain⟨left1,hsz⟩:∃m,Ie (Lk (⟨aDnod,aDent,aDold,aDste,aDroo,aDnex⟩:Aa)) 1048576=m:=⟨_,rfl⟩
 have hfs:Fn Tryz.prog 47 [.agg [.d (.row 3 xaDnod),.d (.row 2 xaDent),.d (.row 2 xaDold),.d (.row 1 xaDste),I aDroo,I aDnex],I 1048576] [] ⟨I left1,[],[]⟩:=by rw[←hsz];exact⟨ent47,T47 haDnod haDent haDold haDste (by omega) (by omega) ok_aD⟩
 refine .dd hP hfs ?_
 conv=>cbv
 refine .lss (fun h2=>?_) fun h2=>?_
 conv=>cbv
 have e:true=Cp (⟨aDnod,aDent,aDold,aDste,aDroo,aDnex⟩:Aa) aMany:=(by rfl)
 rw[hr]at e
 subst e
 exact hQ _ _ (.b rfl rfl)
 conv=>cbv
 obtain⟨hbd,-⟩:=P5 (t:=Lk (⟨aDnod,aDent,aDold,aDste,aDroo,aDnex⟩:Aa)) (left:=1048576) (by rw[hsz];omega)
 have aa:=XkV hbd
 have hla0:aDnod.length≤1000000000:=aa.1.1.1
 have hla1:aDent.length≤1000000000:=aa.1.1.2.2.1
 have hla2:aDold.length≤1000000000:=aa.1.1.2.2.2.2.1
 have hla3:aDste.length≤1000000000:=aa.1.1.2.2.2.2.2
 refine .dd hP (show Fn Tryz.prog 49 [.agg [.d (.row 3 xaDnod),.d (.row 2 xaDent),.d (.row 2 xaDold),.d (.row 1 xaDste),I aDroo,I aDnex]] [] ⟨.agg [.d (.row 3 xaDnod),.d (.row 2 xaDent),.d (.row 2 xaDold),.d (.row 1 xaDste),I aDroo,I aDnex],[],[]⟩from⟨Xi9,T49 haDnod haDent haDold haDste hbd⟩) ?_
 conv=>cbv
 rcases hw:Dw (⟨aDnod,aDent,aDold,aDste,aDroo,aDnex⟩:Aa) aMany with⟨⟨wnod,went,wold,wste,wroo,wnex⟩,wcod⟩
 generalize hxwnod:wnod.map Bi=xwnod
 generalize hxwent:went.map Ac=xwent
 generalize hxwold:wold.map Ac=xwold
 generalize hxwste:wste.map cS=xwste
 have hwb:=Xf6 (d:=(⟨aDnod,aDent,aDold,aDste,aDroo,aDnex⟩:Aa)) (m:=aMany) aa.1 aa.2.2
 rw[hw]at hwb
 try simp only[]at hwb
 have ab:wnod.length≤1000000000:=hwb.1.1
 have ac:went.length≤1000000000:=hwb.1.2.2.1
 have ad:wold.length≤1000000000:=hwb.1.2.2.2.2.1
 have ae:wste.length≤1000000000:=hwb.1.2.2.2.2.2
 refine .dd hP (Y3 haDnod haDent haDold haDste aa.1 aa.2.2 (by have:=wf_aMany;unfold wfI at this;omega) hw hxwnod hxwent hxwold hxwste) ?_
 conv=>cbv
 obtain⟨nnod,hnnod⟩:∃m,m=aDnod.length:=⟨_,rfl⟩
 obtain⟨nent,hnent⟩:∃m,m=aDent.length:=⟨_,rfl⟩
 obtain⟨nold,hnold⟩:∃m,m=aDold.length:=⟨_,rfl⟩
 obtain⟨nste,hnste⟩:∃m,m=aDste.length:=⟨_,rfl⟩
 refine .ddN hP (show Fn Tryz.prog 49 [.agg [.d (.row 3 xaDnod),.d (.row 2 xaDent),.d (.row 2 xaDold),.d (.row 1 xaDste),I aDroo,I aDnex]] [] ⟨.agg [.ref 0 0 nnod,.ref 1 0 nent,.ref 2 0 nold,.ref 3 0 nste,I aDroo,I aDnex],[.row 3 false xaDnod,.row 2 false xaDent,.row 2 false xaDold,.row 1 false xaDste],[]⟩from⟨Xi9,T49R haDnod haDent haDold haDste hnnod hnent hnold hnste hbd⟩) rfl ?_
 conv=>cbv
 obtain⟨mwnod,hmwnod⟩:∃m,m=wnod.length:=⟨_,rfl⟩
 obtain⟨mwent,hmwent⟩:∃m,m=went.length:=⟨_,rfl⟩
 obtain⟨mwold,hmwold⟩:∃m,m=wold.length:=⟨_,rfl⟩
 obtain⟨mwste,hmwste⟩:∃m,m=wste.length:=⟨_,rfl⟩
 refine .lntN hP (Pg haDnod haDent haDold haDste aa.1 aa.2.2 hw hxwnod hxwent hxwold hxwste hmwnod hmwent hmwold hmwste) (.agg (.ref rfl (Af haDnod) (.ref rfl (Af haDent) (.ref rfl (Af haDold) (.ref rfl (Af haDste) (.d rfl (.d rfl .nil)))))) (.d rfl .nil)) rfl rfl rfl (by simp only[List.all_cons,List.all_nil,Bool.and_self,F4 (fun _=>rfl) hxwnod,F4 (fun _=>rfl) hxwent,F4 (fun _=>rfl) hxwold,F4 (fun _=>rfl) hxwste]) ?_
 conv=>cbv
 refine .lnt hP (Uc hxwnod hxwent hxwold hxwste hxwnod hxwent hxwold hxwste (by omega) (by omega) (by omega) (by omega) (Ky _)) (.agg (.ref rfl (Af hxwnod) (.ref rfl (Af hxwent) (.ref rfl (Af hxwold) (.ref rfl (Af hxwste) (.d rfl (.d rfl .nil)))))) (.agg (.d rfl (.d rfl (.d rfl (.d rfl (.d rfl (.d rfl .nil)))))) .nil)) ?_
 conv=>cbv
 refine .neq (fun h8=>?_) fun h8=>?_
 conv=>cbv
 have e:false=Cp (⟨aDnod,aDent,aDold,aDste,aDroo,aDnex⟩:Aa) aMany:=(by exact absurd rfl h8)
 rw[hr]at e
 subst e
 exact hQ _ _ (.b rfl rfl)
 conv=>cbv
 refine .dd hP (show Fn Tryz.prog 49 [.agg [.d (.row 3 xaDnod),.d (.row 2 xaDent),.d (.row 2 xaDold),.d (.row 1 xaDste),I aDroo,I aDnex]] [] ⟨.agg [.d (.row 3 xaDnod),.d (.row 2 xaDent),.d (.row 2 xaDold),.d (.row 1 xaDste),I aDroo,I aDnex],[],[]⟩from⟨Xi9,T49 haDnod haDent haDold haDste hbd⟩) ?_
 conv=>cbv
 refine .lnt hP (Uc haDnod haDent haDold haDste haDnod haDent haDold haDste (by omega) (by omega) (by omega) (by omega) (Ky _)) (.agg (.ref rfl (Af haDnod) (.ref rfl (Af haDent) (.ref rfl (Af haDold) (.ref rfl (Af haDste) (.d rfl (.d rfl .nil)))))) (.agg (.d rfl (.d rfl (.d rfl (.d rfl (.d rfl (.d rfl .nil)))))) .nil)) ?_
 conv=>cbv
 obtain⟨kp1,hkp1⟩:∃m,(1:Int)+3*(nnod:Int)=m:=⟨_,rfl⟩
 obtain⟨yp0,hyp0⟩:∃y,(Fe 1 nnod).map Bi=y:=⟨_,rfl⟩
 obtain⟨kp2,hkp2⟩:∃m,kp1+2*(nent:Int)=m:=⟨_,rfl⟩
 obtain⟨yp1,hyp1⟩:∃y,(Dn kp1 nent).map Ac=y:=⟨_,rfl⟩
 obtain⟨kp3,hkp3⟩:∃m,kp2+2*(nold:Int)=m:=⟨_,rfl⟩
 obtain⟨yp2,hyp2⟩:∃y,(Dn kp2 nold).map Ac=y:=⟨_,rfl⟩
 obtain⟨kp4,hkp4⟩:∃m,kp3+1*(nste:Int)=m:=⟨_,rfl⟩
 obtain⟨yp3,hyp3⟩:∃y,(D7 kp3 nste).map cS=y:=⟨_,rfl⟩
 refine .bx [6,7,8,9] [] hP (Ya haDnod haDent haDold haDste hnnod hnent hnold hnste (by omega) (by omega) (by omega) (by omega) (by omega) hkp1 hkp2 hkp3 hkp4 hyp0 hyp1 hyp2 hyp3) rfl rfl rfl rfl ?_
 conv=>cbv
 refine .lss (fun h12=>?_) fun h12=>?_
 conv=>cbv
 have e:false=Cp (⟨aDnod,aDent,aDold,aDste,aDroo,aDnex⟩:Aa) aMany:=(by exfalso;omega)
 rw[hr]at e
 subst e
 exact hQ _ _ (.b rfl rfl)
 conv=>cbv
 refine .lnt hP (Uc hxwnod hxwent hxwold hxwste hxwnod hxwent hxwold hxwste (by omega) (by omega) (by omega) (by omega) (Ky _)) (.agg (.ref rfl (Af hxwnod) (.ref rfl (Af hxwent) (.ref rfl (Af hxwold) (.ref rfl (Af hxwste) (.d rfl (.d rfl .nil)))))) (.agg (.d rfl (.d rfl (.d rfl (.d rfl (.d rfl (.d rfl .nil)))))) .nil)) ?_
 conv=>cbv
 refine .neq (fun h14=>?_) fun h14=>?_
 conv=>cbv
 have e:false=Cp (⟨aDnod,aDent,aDold,aDste,aDroo,aDnex⟩:Aa) aMany:=(by exact absurd rfl h14)
 rw[hr]at e
 subst e
 exact hQ _ _ (.b rfl rfl)
 conv=>cbv
 obtain⟨kq1,hkq1⟩:∃m,(1:Int)+3*(mwnod:Int)=m:=⟨_,rfl⟩
 obtain⟨yq0,hyq0⟩:∃y,(Fe 1 mwnod).map Bi=y:=⟨_,rfl⟩
 obtain⟨kq2,hkq2⟩:∃m,kq1+2*(mwent:Int)=m:=⟨_,rfl⟩
 obtain⟨yq1,hyq1⟩:∃y,(Dn kq1 mwent).map Ac=y:=⟨_,rfl⟩
 obtain⟨kq3,hkq3⟩:∃m,kq2+2*(mwold:Int)=m:=⟨_,rfl⟩
 obtain⟨yq2,hyq2⟩:∃y,(Dn kq2 mwold).map Ac=y:=⟨_,rfl⟩
 obtain⟨kq4,hkq4⟩:∃m,kq3+1*(mwste:Int)=m:=⟨_,rfl⟩
 obtain⟨yq3,hyq3⟩:∃y,(D7 kq3 mwste).map cS=y:=⟨_,rfl⟩
 refine .bx [15,16,17,18] [] hP (Ya hxwnod hxwent hxwold hxwste hmwnod hmwent hmwold hmwste (by omega) (by omega) (by omega) (by omega) (by omega) hkq1 hkq2 hkq3 hkq4 hyq0 hyq1 hyq2 hyq3) rfl rfl rfl rfl ?_
 conv=>cbv
 refine .lnt hP (X4 hyq0 hyq1 hyq2 hyq3 (by omega) ⟨by omega,by omega,by omega,by omega⟩ hkq1 hkq2 hkq3 hkq4 rfl rfl rfl rfl) (.agg (.ref rfl (by rw[←hyq0,List.length_map];first|rw[Dc]|rw[C7]|rw[Cy]) (.ref rfl (by rw[←hyq1,List.length_map];first|rw[Dc]|rw[C7]|rw[Cy]) (.ref rfl (by rw[←hyq2,List.length_map];first|rw[Dc]|rw[C7]|rw[Cy]) (.ref rfl (by rw[←hyq3,List.length_map];first|rw[Dc]|rw[C7]|rw[Cy]) (.d rfl (.d rfl .nil)))))) (.d rfl .nil)) ?_
 conv=>cbv
 refine .lss (fun h17=>?_) fun h17=>?_
 conv=>cbv
 have e:false=Cp (⟨aDnod,aDent,aDold,aDste,aDroo,aDnex⟩:Aa) aMany:=(by exfalso;omega)
 rw[hr]at e
 subst e
 exact hQ _ _ (.b rfl rfl)
 conv=>cbv
 refine .neq (fun h18=>?_) fun h18=>?_
 conv=>cbv
 have e:false=Cp (⟨aDnod,aDent,aDold,aDste,aDroo,aDnex⟩:Aa) aMany:=(by exact absurd rfl h18)
 rw[hr]at e
 subst e
 exact hQ _ _ (.b rfl rfl)
 conv=>cbv
 refine .dd hP (show Fn Tryz.prog 49 [.agg [.d (.row 3 xaDnod),.d (.row 2 xaDent),.d (.row 2 xaDold),.d (.row 1 xaDste),I aDroo,I aDnex]] [] ⟨.agg [.d (.row 3 xaDnod),.d (.row 2 xaDent),.d (.row 2 xaDold),.d (.row 1 xaDste),I aDroo,I aDnex],[],[]⟩from⟨Xi9,T49 haDnod haDent haDold haDste hbd⟩) ?_
 conv=>cbv
 obtain⟨mwnod2,hmwnod2⟩:∃m,m=wnod.length:=⟨_,rfl⟩
 obtain⟨mwent2,hmwent2⟩:∃m,m=went.length:=⟨_,rfl⟩
 obtain⟨mwold2,hmwold2⟩:∃m,m=wold.length:=⟨_,rfl⟩
 obtain⟨mwste2,hmwste2⟩:∃m,m=wste.length:=⟨_,rfl⟩
 refine .ddN hP (Pg haDnod haDent haDold haDste aa.1 aa.2.2 hw hxwnod hxwent hxwold hxwste hmwnod2 hmwent2 hmwold2 hmwste2) rfl ?_
 conv=>cbv
 refine .lnt hP (Uc hxwnod hxwent hxwold hxwste hxwnod hxwent hxwold hxwste (by omega) (by omega) (by omega) (by omega) (Ky _)) (.agg (.ref rfl (Af hxwnod) (.ref rfl (Af hxwent) (.ref rfl (Af hxwold) (.ref rfl (Af hxwste) (.d rfl (.d rfl .nil)))))) (.agg (.d rfl (.d rfl (.d rfl (.d rfl (.d rfl (.d rfl .nil)))))) .nil)) ?_
 conv=>cbv
 refine .neq (fun h22=>?_) fun h22=>?_
 conv=>cbv
 have e:false=Cp (⟨aDnod,aDent,aDold,aDste,aDroo,aDnex⟩:Aa) aMany:=(by exact absurd rfl h22)
 rw[hr]at e
 subst e
 exact hQ _ _ (.b rfl rfl)
 conv=>cbv
 refine .lnt hP (X4 hyq0 hyq1 hyq2 hyq3 (by omega) ⟨by omega,by omega,by omega,by omega⟩ hkq1 hkq2 hkq3 hkq4 rfl rfl rfl rfl) (.agg (.ref rfl (by rw[←hyq0,List.length_map];first|rw[Dc]|rw[C7]|rw[Cy]) (.ref rfl (by rw[←hyq1,List.length_map];first|rw[Dc]|rw[C7]|rw[Cy]) (.ref rfl (by rw[←hyq2,List.length_map];first|rw[Dc]|rw[C7]|rw[Cy]) (.ref rfl (by rw[←hyq3,List.length_map];first|rw[Dc]|rw[C7]|rw[Cy]) (.d rfl (.d rfl .nil)))))) (.d rfl .nil)) ?_
 conv=>cbv
 refine .lss (fun h24=>?_) fun h24=>?_
 conv=>cbv
 have e:false=Cp (⟨aDnod,aDent,aDold,aDste,aDroo,aDnex⟩:Aa) aMany:=(by exfalso;omega)
 rw[hr]at e
 subst e
 exact hQ _ _ (.b rfl rfl)
 conv=>cbv
 refine .neq (fun h25=>?_) fun h25=>?_
 conv=>cbv
 have e:false=Cp (⟨aDnod,aDent,aDold,aDste,aDroo,aDnex⟩:Aa) aMany:=(by exact absurd rfl h25)
 rw[hr]at e
 subst e
 exact hQ _ _ (.b rfl rfl)
 conv=>cbv
 have e:true=Cp (⟨aDnod,aDent,aDold,aDste,aDroo,aDnex⟩:Aa) aMany:=(by rfl)
 rw[hr]at e
 subst e
 exact hQ _ _ (.b rfl rfl)
theorem T6{aD_nodes:List Bg}{xaD_nodes:List (List D)}(haD_nodes:aD_nodes.map Bi=xaD_nodes){aD_entries:List Ad}{xaD_entries:List (List D)}(haD_entries:aD_entries.map Ac=xaD_entries){aD_old:List Ad}{xaD_old:List (List D)}(haD_old:aD_old.map Ac=xaD_old){aD_steps:List ByteArray}{xaD_steps:List (List D)}(haD_steps:aD_steps.map cS=xaD_steps){aD_room:Int}{aD_next:Int}{aMany:Int}(ok_aD:Xej ⟨aD_nodes,aD_entries,aD_old,aD_steps,aD_room,aD_next⟩)(wf_aD:XjZ ⟨aD_nodes,aD_entries,aD_old,aD_steps,aD_room,aD_next⟩)(wf_aMany:wfI aMany):CallOk Tryz.prog 6 [.agg [.d (.row 3 xaD_nodes),.d (.row 2 xaD_entries),.d (.row 2 xaD_old),.d (.row 1 xaD_steps),.d (.sc (.int .i64 aD_room)),.d (.sc (.int .i64 aD_next))],.d (.sc (.int .i64 aMany))] [] ⟨.d (.sc (.bool true)),[],[]⟩:=(O6 haD_nodes haD_entries haD_old haD_steps ok_aD wf_aMany rfl).ok
end
end Go.Proofs.YtjbmpmmffjgedaaGreatDoor.Ab
