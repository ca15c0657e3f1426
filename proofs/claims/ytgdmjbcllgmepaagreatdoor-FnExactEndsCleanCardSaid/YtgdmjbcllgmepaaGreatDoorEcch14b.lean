/- What functions of the program come to, for all arguments in the given bounds. -/
import Derived.Test.YtgdmjbcllgmepaaGreatDoorEcch05
import Derived.Test.YtgdmjbcllgmepaaGreatDoorEcZ9
import Derived.Lib.ItoaNum
import Derived.Lib.AppendIntMem
import Derived.Below
import Derived.ProofKit
set_option linter.unusedVariables false
set_option linter.unusedSimpArgs false
namespace Go.Proofs.YtgdmjbcllgmepaaGreatDoor.Ab
section
open Go Go.Proofs
set_option maxRecDepth 20000
set_option maxHeartbeats 4000000
def XbI:List (Nat×TyRow):=[ty3,ty9,X1,Xf0,W8,ty43,Xab,XjE,XgN,XjR]
theorem Xde:Cb Tryz.prog XbI:=Cb.of (by kernel_rfl)
theorem Jm:Setup Tryz.prog XbI:=⟨Xde,mixed⟩
def XlI{α:Type}(f:α→Int)(l:List α):Int:=(l.map f).foldl (·+·) 0
theorem XcD{α:Type}{f:α→Int}{l:List α}{k:Nat}(h:k<l.length):XlI f (l.take (k+1))=XlI f (l.take k)+f l[k]:=by unfold XlI;rw[Q2 h,List.foldl_append];rfl
theorem Xfl{d:Aa}{l:List ByteArray}(hd:okD d)(e:Ll d=l):l.length≤16000000000∧∀x∈l,x.size≤60:=by
 rw[←e,Vl]
 refine⟨?_,?_⟩
 ·have key:∀c:List Int,(c.flatMap fun b=>Dh (Cn d b)).length≤1000000000*c.length:=by
   intro c
   induction c with
   |nil=>simp
   |cons b c ih=>
    rw[List.flatMap_cons,List.length_append,List.length_cons]
    have h1:=Gi (b:=Cn d b)
    have h2:=Gk hd (rfl:Cn d b=_)
    have h3:(Dh (Cn d b)).length=(As (Cn d b)).records_.length:=rfl
    omega
  have h1:=key (Dm d)
  have h2:=Gh (rfl:Dm d=_)
  omega
 ·intro x hx
  obtain⟨b,_,hb⟩:=List.mem_flatMap.1 hx
  exact Y9 x hb
def Gf{α:Type}[DecidableEq α](a b:List α):Bool:=decide (a=b)
def Lu(a b:List ByteArray):Bool:=decide (a=b)
def Fg(a b:Aa):Bool:=decide (Ll a=Ll b)
def Io(a b:List ByteArray):Bool:=decide (a.length≤b.length∧b.take a.length=a)
theorem XjC{a b:List ByteArray}(h:a.length=b.length)(h2:∀(j:Nat) (h1:j<a.length) (h2:j<b.length),a[j]=b[j]):a=b:=List.ext_getElem h h2
theorem XjI{a b:List ByteArray}(h:a.length≤b.length)(h2:∀(j:Nat) (h1:j<a.length) (h2:j<b.length),a[j]=b[j]):b.take a.length=a:=by
 refine List.ext_getElem (by rw[List.length_take];omega) ?_
 intro j h3 h4
 rw[List.getElem_take]
 exact(h2 j h4 (by omega)).symm
theorem Xeh{a b:List ByteArray}(h:b.take a.length=a){j:Nat}(h1:j<a.length)(h2:j<b.length):a[j]=b[j]:=by
 have:(b.take a.length)[j]'(by rw[List.length_take];omega)=b[j]:=List.getElem_take ..
 rw[←this]
 congr 1
 exact h.symm
variable {Ae:List Be} {A3 A2 A1 A4 xo xa xb:List (List D)} {Ag Ah:List Ad} {Af a b:List ByteArray} {Aj Ai:Int} {o:Bool}
theorem XcY{o:List Int}(Ak:Ae.map A8=A3)(Al:Ag.map Ac=A2)(Ao:Ah.map Ac=A1)(An:Af.map cS=A4)(hd:okD ⟨Ae,Ag,Ah,Af,Aj,Ai⟩)(hr:Em (⟨Ae,Ag,Ah,Af,Aj,Ai⟩:Aa)=o)(ho:o.map cI=xo):Fn Tryz.prog 211 [.agg [.d (.row 3 A3),.d (.row 2 A2),.d (.row 2 A1),.d (.row 1 A4),I Aj,I Ai]] [] ⟨.d (.row 1 xo),[],[]⟩:=by
 refine Fn.go Jm Tryz.func211 fun P hP Q hQ=>?_
 conv=>cbv
 generalize am:J0 (⟨Ae,Ag,Ah,Af,Aj,Ai⟩:Aa)=l1
 generalize an:l1.map XgB=ba
 refine .dd hP (Xah Ak Al Ao An hd am an) ?_
 conv=>cbv
 refine .go an fun v2 bb=>?_
 conv=>cbv
 refine LoopW.lp (κ:=Int×(List (List D))×Nat) Jm hP [2] [8,9] (fun(ab,ah,ai)=>[(3,.ref 3 0 ai),(10,I ab)]) (fun(ab,ah,ai)=>[(3,.row 1 false ah)])
  (fun(ab,ah,ai)=>∃(w3:List Int),w3.map cI=ah∧ai=w3.length∧0≤ab∧ab≤l1.length∧w3=(l1.take ab.toNat).map fun x=>x.scan_.head_.version_)
  (fun(ab,ah,ai)=>(l1.length - ab).toNat) (0,[],0) ⟨[],rfl,rfl,by omega,by omega,by simp⟩ ⟨rfl,rfl,trivial⟩ rfl ?_
 rintro⟨ab,ah,ai⟩ J ⟨w3,ao,a6,h0,h1,hw⟩ hJ
 have a7:=Jb am
 have hwl:w3.length=ab.toNat:=by rw[hw,List.length_map,List.length_take];omega
 conv=>cbv
 refine .lss (fun h3=>?_) fun h3=>?_
 conv=>cbv
 refine .goX ab.toNat an fun ay ⟨ap,aq,⟨al,⟨aa,ae,af,ag⟩,ac,ad,aj,ak⟩⟩ fe4 az hfe4=>?_
 replace hfe4:[.sc (.int .i64 ap),.sc (.string aq),.sc (.bool al),.sc (.int .i64 aa),.sc (.int .i64 ae),.sc (.int .i64 af),.sc (.int .i64 ag),.row 1 (ac.map cS),.row 1 (ad.map cI),.sc (.int .i64 aj),.sc (.bool ak)]=fe4:=hfe4
 generalize ar:ac.map cS=au at hfe4
 generalize aw:ad.map cI=ax at hfe4
 subst hfe4
 conv=>cbv
 refine .one aa ao rfl fun a1 z5 a8 a2=>?_
 conv=>cbv
 refine .add fun v6 bc=>?_
 conv=>cbv
 exact .go [8] (v6,z5,a1) (hJ _ ⟨_,a2,Gw,by omega,by omega,by rw[hw,show v6.toNat=ab.toNat+1 by omega,Q2 ay,←az]⟩ mlt)
 conv=>cbv
 have e:w3=Em (⟨Ae,Ag,Ah,Af,Aj,Ai⟩:Aa):=(by unfold Em;rw[am,hw,List.take_of_length_le (by omega)])
 rw[hr]at e
 subst e
 exact hQ _ _ (.r rfl rfl (by rw[←ao,List.length_map];first|omega|(simp;omega)) (by rw[←ao,←ho]))
theorem XcV{o:List Int}(Ak:Ae.map A8=A3)(Al:Ag.map Ac=A2)(Ao:Ah.map Ac=A1)(An:Af.map cS=A4)(hd:okD ⟨Ae,Ag,Ah,Af,Aj,Ai⟩)(hr:Em (⟨Ae,Ag,Ah,Af,Aj,Ai⟩:Aa)=o)(ho:o.map cI=xo):Fn Tryz.prog 210 [.agg [.d (.row 3 A3),.d (.row 2 A2),.d (.row 2 A1),.d (.row 1 A4),I Aj,I Ai]] [] ⟨.d (.row 1 xo),[],[]⟩:=by
 refine Fn.go Jm Tryz.func210 fun P hP Q hQ=>?_
 conv=>cbv
 generalize ad:Dm (⟨Ae,Ag,Ah,Af,Aj,Ai⟩:Aa)=l1
 generalize ae:l1.map cI=au
 refine .dd hP (V8 Ak Al Ao An hd ad ae) ?_
 conv=>cbv
 refine LoopW.lp (κ:=Int×(List (List D))×Nat) Jm hP [2] [1,4] (fun(i5,aa,ab)=>[(3,.ref 3 0 ab),(5,I i5)]) (fun(i5,aa,ab)=>[(3,.row 1 false aa)])
  (fun(i5,aa,ab)=>∃(w3:List Int),w3.map cI=aa∧ab=w3.length∧0≤i5∧i5≤l1.length∧w3=(l1.take i5.toNat).map fun b=>(Ca (Cn (⟨Ae,Ag,Ah,Af,Aj,Ai⟩:Aa) b)).1.version_)
  (fun(i5,aa,ab)=>(l1.length - i5).toNat) (0,[],0) ⟨[],rfl,rfl,by omega,by omega,by simp⟩ ⟨rfl,rfl,trivial⟩ rfl ?_
 rintro⟨i5,aa,ab⟩ J ⟨w3,af,ap,h0,h1,hw⟩ hJ
 have aq:=Gh ad
 have hwl:w3.length=i5.toNat:=by rw[hw,List.length_map,List.length_take];omega
 conv=>cbv
 refine .go ae fun v2 aw=>?_
 conv=>cbv
 refine .lss (fun h3=>?_) fun h3=>?_
 conv=>cbv
 refine .go i5.toNat ae fun ah e4 am=>?_
 conv=>cbv
 generalize ag:Cn (⟨Ae,Ag,Ah,Af,Aj,Ai⟩:Aa) e4=r5
 refine .dd hP (Q7 Ak Al Ao An hd ag) ?_
 conv=>cbv
 have z5:=Gk hd ag
 rcases ai:Ca r5 with⟨⟨ac,aj,ak,al⟩,ax⟩
 refine .dd hP (Tb (by omega) ai) ?_
 conv=>cbv
 refine .one ac af rfl fun an z7 ar ao=>?_
 conv=>cbv
 refine .add fun v8 ay=>?_
 conv=>cbv
 exact .go [6] (v8,z7,an) (hJ _ ⟨_,ao,Gw,by omega,by omega,by rw[hw,show v8.toNat=i5.toNat+1 by omega,Q2 ah,←am,ag,ai]⟩ mlt)
 conv=>cbv
 have e:w3=Em (⟨Ae,Ag,Ah,Af,Aj,Ai⟩:Aa):=(by rw[Xa,ad,hw,List.take_of_length_le (by omega)])
 rw[hr]at e
 subst e
 exact hQ _ _ (.r rfl rfl (by rw[←af,List.length_map];first|omega|(simp;omega)) (by rw[←af,←ho]))
theorem Ki(ha:a.map cS=xa)(hb:b.map cS=xb)(af:a.length<2^40)(hr:Gf a b=o):Fn Tryz.prog 90 [.d (.row 1 xa),.d (.row 1 xb)] [] ⟨B o,[],[]⟩:=by
 refine Fn.go Jm Tryz.func90 fun P hP Q hQ=>?_
 conv=>cbv
 refine .go ha fun v1 ag=>?_
 conv=>cbv
 refine .go hb fun v2 ah=>?_
 conv=>cbv
 refine .neq (fun h3=>?_) fun h3=>?_
 conv=>cbv
 have e:false=Gf a b:=(by unfold Gf;symm;rw[decide_eq_false_iff_not];intro h;subst h;omega)
 rw[hr]at e
 subst e
 exact hQ _ _ (.b rfl rfl)
 conv=>cbv
 refine .go ha fun v4 ai=>?_
 conv=>cbv
 refine LoopW.lp (κ:=Int) Jm hP [] [0,1,12] (fun aa=>[(13,I aa)]) (fun aa=>[])
  (fun aa=>0≤aa∧aa≤a.length∧∀(j:Nat) (h1:j<a.length) (h2:j<b.length),j<aa.toNat→a[j]=b[j])
  (fun aa=>(a.length - aa).toNat) (0) ⟨by omega,by omega,fun j _ _ h=>by simp at h⟩ ⟨rfl,trivial⟩ rfl ?_
 rintro aa J ⟨h0,h1,hs⟩ hJ
 conv=>cbv
 refine .lss (fun h5=>?_) fun h5=>?_
 conv=>cbv
 refine .go aa.toNat ha fun ad e6 ab=>?_
 conv=>cbv
 refine .go aa.toNat hb fun ae e7 ac=>?_
 conv=>cbv
 refine .neq (fun h8=>?_) fun h8=>?_
 conv=>cbv
 have e:false=Gf a b:=(by unfold Gf;symm;rw[decide_eq_false_iff_not];intro h;subst h;exact h8 (ab.trans ac.symm))
 rw[hr]at e
 subst e
 exact hQ _ _ (.b rfl rfl)
 conv=>cbv
 refine .add fun v9 aj=>?_
 conv=>cbv
 exact .go [] (v9) (hJ _ ⟨by omega,by omega,fun j p q h=>if e:j=aa.toNat then by subst e;rw[←ab,←ac];exact h8 else hs j p q (by omega)⟩ mlt)
 conv=>cbv
 have e:true=Gf a b:=(by unfold Gf;symm;rw[decide_eq_true_eq];exact XjC (by omega) fun j p q=>hs j p q (by omega))
 rw[hr]at e
 subst e
 exact hQ _ _ (.b rfl rfl)
theorem Xge(ha:a.map cS=xa)(hb:b.map cS=xb)(ae:a.length<2^40)(hr:Io a b=o):Fn Tryz.prog 166 [.d (.row 1 xa),.d (.row 1 xb)] [] ⟨B o,[],[]⟩:=by
 refine Fn.go Jm Tryz.func166 fun P hP Q hQ=>?_
 conv=>cbv
 refine .go ha fun v1 af=>?_
 conv=>cbv
 refine .go hb fun v2 ag=>?_
 conv=>cbv
 refine .gtr (fun h3=>?_) fun h3=>?_
 conv=>cbv
 have e:false=Io a b:=(by unfold Io;symm;rw[decide_eq_false_iff_not];intro h;omega)
 rw[hr]at e
 subst e
 exact hQ _ _ (.b rfl rfl)
 conv=>cbv
 refine LoopW.lp (κ:=Int) Jm hP [] [0,1] (fun i5=>[(5,I i5)]) (fun i5=>[])
  (fun i5=>0≤i5∧i5≤a.length∧∀(j:Nat) (h1:j<a.length) (h2:j<b.length),j<i5.toNat→a[j]=b[j])
  (fun i5=>(a.length - i5).toNat) (0) ⟨by omega,by omega,fun j _ _ h=>by simp at h⟩ ⟨rfl,trivial⟩ rfl ?_
 rintro i5 J ⟨h0,h1,hs⟩ hJ
 conv=>cbv
 refine .go ha fun v4 ah=>?_
 conv=>cbv
 refine .lss (fun h5=>?_) fun h5=>?_
 conv=>cbv
 refine .go i5.toNat ha fun aa e6 ab=>?_
 conv=>cbv
 refine .go i5.toNat hb fun ac e7 ad=>?_
 conv=>cbv
 refine .neq (fun h8=>?_) fun h8=>?_
 conv=>cbv
 have e:false=Io a b:=(by unfold Io;symm;rw[decide_eq_false_iff_not];intro h;have:=Xeh h.2 aa ac;rw[←ab,←ad]at this;exact h8 this)
 rw[hr]at e
 subst e
 exact hQ _ _ (.b rfl rfl)
 conv=>cbv
 refine .add fun v9 ai=>?_
 conv=>cbv
 exact .go [] (v9) (hJ _ ⟨by omega,by omega,fun j p q h=>if e:j=i5.toNat then by subst e;rw[←ab,←ad];exact h8 else hs j p q (by omega)⟩ mlt)
 conv=>cbv
 have e:true=Io a b:=(by unfold Io;symm;rw[decide_eq_true_eq];exact⟨by omega,XjI (by omega) fun j p q=>hs j p q (by omega)⟩)
 rw[hr]at e
 subst e
 exact hQ _ _ (.b rfl rfl)
theorem Xiy(ha:a.map cS=xa)(hb:b.map cS=xb)(ab:a.length<2^40)(hr:Lu a b=o):Fn Tryz.prog 126 [.d (.row 1 xa),.d (.row 1 xb)] [] ⟨B o,[],[]⟩:=by
 refine Fn.go Jm Tryz.func126 fun P hP Q hQ=>?_
 conv=>cbv
 refine .go ha fun v1 ac=>?_
 conv=>cbv
 refine .go hb fun v2 ad=>?_
 conv=>cbv
 refine .eql (fun h3=>?_) fun h3=>?_
 conv=>cbv
 generalize aa:Io a b=r4
 refine .dd hP (Xge ha hb ab aa) ?_
 unfold Io at aa
 cases r4
 conv=>cbv
 have e:false=Lu a b:=(by unfold Lu;symm;rw[decide_eq_false_iff_not];rintro rfl;exact of_decide_eq_false aa ⟨Nat.le_refl _,List.take_length⟩)
 rw[hr]at e
 subst e
 exact hQ _ _ (.b rfl rfl)
 conv=>cbv
 have e:true=Lu a b:=(by unfold Lu;symm;rw[decide_eq_true_eq];have:=(of_decide_eq_true aa).2;rw[List.take_of_length_le (by omega)]at this;exact this.symm)
 rw[hr]at e
 subst e
 exact hQ _ _ (.b rfl rfl)
 conv=>cbv
 have e:false=Lu a b:=(by unfold Lu;symm;rw[decide_eq_false_iff_not];rintro rfl;omega)
 rw[hr]at e
 subst e
 exact hQ _ _ (.b rfl rfl)
theorem Xi7{anod:List Be}{xanod:List (List D)}{aent:List Ad}{xaent:List (List D)}{aold:List Ad}{xaold:List (List D)}{aste:List ByteArray}{xaste:List (List D)}{aroo:Int}{anex:Int}{bnod:List Be}{xbnod:List (List D)}{bent:List Ad}{xbent:List (List D)}{bold:List Ad}{xbold:List (List D)}{bste:List ByteArray}{xbste:List (List D)}{broo:Int}{bnex:Int}(hanod:anod.map A8=xanod)(haent:aent.map Ac=xaent)(haold:aold.map Ac=xaold)(haste:aste.map cS=xaste)(hbnod:bnod.map A8=xbnod)(hbent:bent.map Ac=xbent)(hbold:bold.map Ac=xbold)(hbste:bste.map cS=xbste)(hda:okD ⟨anod,aent,aold,aste,aroo,anex⟩)(hdb:okD ⟨bnod,bent,bold,bste,broo,bnex⟩)(hr:Fg (⟨anod,aent,aold,aste,aroo,anex⟩:Aa) (⟨bnod,bent,bold,bste,broo,bnex⟩:Aa)=o):Fn Tryz.prog 132 [.agg [.d (.row 3 xanod),.d (.row 2 xaent),.d (.row 2 xaold),.d (.row 1 xaste),I aroo,I anex],.agg [.d (.row 3 xbnod),.d (.row 2 xbent),.d (.row 2 xbold),.d (.row 1 xbste),I broo,I bnex]] [] ⟨B o,[],[]⟩:=by
 refine Fn.go Jm Tryz.func132 fun P hP Q hQ=>?_
 conv=>cbv
 generalize aa:Ll (⟨anod,aent,aold,aste,aroo,anex⟩:Aa)=l1
 generalize ad:l1.map cS=af
 refine .dd hP (Xhv hanod haent haold haste hda aa ad) ?_
 conv=>cbv
 generalize ab:Ll (⟨bnod,bent,bold,bste,broo,bnex⟩:Aa)=l2
 generalize ae:l2.map cS=ag
 refine .dd hP (Xhv hbnod hbent hbold hbste hdb ab ae) ?_
 conv=>cbv
 have ah:=Xfl hda aa
 generalize ac:Gf l1 l2=r3
 refine .dd hP (Ki ad ae (by omega) ac) ?_
 cases r3
 conv=>cbv
 have e:false=Fg (⟨anod,aent,aold,aste,aroo,anex⟩:Aa) (⟨bnod,bent,bold,bste,broo,bnex⟩:Aa):=(by unfold Fg;rw[aa,ab];exact ac.symm)
 rw[hr]at e
 subst e
 exact hQ _ _ (.b rfl rfl)
 conv=>cbv
 have e:true=Fg (⟨anod,aent,aold,aste,aroo,anex⟩:Aa) (⟨bnod,bent,bold,bste,broo,bnex⟩:Aa):=(by unfold Fg;rw[aa,ab];exact ac.symm)
 rw[hr]at e
 subst e
 exact hQ _ _ (.b rfl rfl)
end
section
open Go Go.Proofs
set_option maxRecDepth 20000
set_option maxHeartbeats 4000000
def XcQ:List (Nat×TyRow):=[ty3,ty9,X1,Xf0,XaK,W8,Xc]
theorem XbV:Cb Tryz.prog XcQ:=Cb.of (by kernel_rfl)
theorem Pr:Setup Tryz.prog XcQ:=⟨XbV,mixed⟩
def XfH(l:List Int)(x:Int):Int:=Vr (fun y=>decide (y=x)) l
def Ks(l:List Int)(x:Int):Bool:=decide (x∈l)
def Nz(chain:List Int)(name:ByteArray):Bool:=decide ((A5 name).1=2∨((A5 name).1=1∧(A5 name).2∉chain))
def Ci(d:Aa):List ByteArray:=(d.entries_.map fun e=>e.name_).filter (Nz (Dm d))
def B9(name:ByteArray)(chain:List Int):Bool:=!Nz chain name
theorem XhD(name:ByteArray):(A5 name).1=0∨(A5 name).1=1∨(A5 name).1=2:=by
 unfold A5
 split
 ·split
  ·exact .inr (.inl rfl)
  ·split
   ·exact .inr (.inr rfl)
   ·exact .inl rfl
 ·exact .inl rfl
variable {l:List Int} {xl:List (List D)} {x:Int} {o:Bool}
theorem N1{o:Int}(hl:l.map cI=xl)(hn:l.length<2^40)(hr:XfH l x=o):Fn Tryz.prog 283 [.d (.row 1 xl),I x] [] ⟨I o,[],[]⟩:=by
 refine Fn.go Pr Tryz.func283 fun P hP Q hQ=>?_
 conv=>cbv
 refine .go hl fun v1 ac=>?_
 conv=>cbv
 refine LoopW.lp (κ:=Int) Pr hP [] [0,1,7] (fun i8=>[(8,I i8)]) (fun i8=>[])
  (fun i8=>0≤i8∧i8≤l.length∧∀(j:Nat) (hj:j<l.length),j<i8.toNat→decide (l[j]=x)=false)
  (fun i8=>(l.length - i8).toNat) (0) ⟨by omega,by omega,fun j _ h=>by simp at h⟩ ⟨rfl,trivial⟩ rfl ?_
 rintro i8 J ⟨h0,h1,hb⟩ hJ
 conv=>cbv
 refine .lss (fun h2=>?_) fun h2=>?_
 conv=>cbv
 refine .go i8.toNat hl fun ab e3 aa=>?_
 conv=>cbv
 refine .eql (fun h4=>?_) fun h4=>?_
 conv=>cbv
 have e:i8=XfH l x:=(by exact Mw (p:=fun y=>decide (y=x)) h0 (by omega) (by rw[←aa];exact decide_eq_true h4.symm) hb)
 rw[hr]at e
 subst e
 exact hQ _ _ (.i rfl rfl)
 conv=>cbv
 refine .add fun v5 ad=>?_
 conv=>cbv
 exact .go [] (v5) (hJ _ ⟨by omega,by omega,fun j hj h=>if e:j=i8.toNat then by subst e;rw[←aa];exact decide_eq_false (Ne.symm h4)else hb j hj (by omega)⟩ mlt)
 conv=>cbv
 have e:(-1)=XfH l x:=(by exact Ik (p:=fun y=>decide (y=x)) fun j hj=>hb j hj (by omega))
 rw[hr]at e
 subst e
 exact hQ _ _ (.i rfl rfl)
theorem Hq(hl:l.map cI=xl)(hn:l.length<2^40)(hr:Ks l x=o):Fn Tryz.prog 220 [.d (.row 1 xl),I x] [] ⟨B o,[],[]⟩:=by
 refine Fn.go Pr Tryz.func220 fun P hP Q hQ=>?_
 conv=>cbv
 generalize aa:XfH l x=r1
 refine .dd hP (N1 hl (by omega) aa) ?_
 conv=>cbv
 refine .geq (fun h2=>?_) fun h2=>?_
 conv=>cbv
 have e:true=Ks l x:=(by unfold Ks;symm;rw[decide_eq_true_eq];obtain⟨hi,hp⟩:=Ue (p:=fun y=>decide (y=x)) aa h2;have hp:=of_decide_eq_true hp;rw[←hp];exact List.getElem_mem hi)
 rw[hr]at e
 subst e
 exact hQ _ _ (.b rfl rfl)
 conv=>cbv
 have e:false=Ks l x:=(by unfold Ks;symm;rw[decide_eq_false_iff_not];intro hm;have:=XdW (p:=fun y=>decide (y=x)) aa (by omega) x hm;simp at this)
 rw[hr]at e
 subst e
 exact hQ _ _ (.b rfl rfl)
theorem P7{name:ByteArray}{chain:List Int}{xchain:List (List D)}(hchain:chain.map cI=xchain)(hs:name.size≤1000000000)(hc:chain.length<2^40)(hr:B9 name chain=o):Fn Tryz.prog 321 [S name,.ptr 0 0 0] [.box 29 [.d (.row 1 xchain)]] ⟨B o,[],[]⟩:=by
 refine Fn.goR Pr Tryz.func321 fun P hP Q hQ=>?_
 conv=>cbv
 rcases aa:A5 name with⟨ad,ac⟩
 refine .dd hP (Tf (by omega) aa) ?_
 conv=>cbv
 refine .eql (fun h2=>?_) fun h2=>?_
 conv=>cbv
 have e:true=B9 name chain:=(by unfold B9 Nz;rw[aa];dsimp only;rw[decide_eq_false (by omega)];rfl)
 rw[hr]at e
 subst e
 exact hQ _ _ (.of [] (.inl rfl) rfl rfl rfl rfl)
 conv=>cbv
 refine .eql (fun h3=>?_) fun h3=>?_
 conv=>cbv
 generalize ab:Ks chain ac=r4
 refine .dd hP (Hq hchain (by omega) ab) ?_
 cases r4
 conv=>cbv
 have e:false=B9 name chain:=(by unfold B9 Nz;rw[aa];dsimp only;rw[decide_eq_true (.inr ⟨h3,of_decide_eq_false ab⟩)];rfl)
 rw[hr]at e
 subst e
 exact hQ _ _ (.of [] (.inl rfl) rfl rfl rfl rfl)
 conv=>cbv
 have e:true=B9 name chain:=(by unfold B9 Nz;rw[aa];dsimp only;rw[decide_eq_false (by rintro(h|⟨_,h⟩);omega;exact h (of_decide_eq_true ab))];rfl)
 rw[hr]at e
 subst e
 exact hQ _ _ (.of [] (.inl rfl) rfl rfl rfl rfl)
 conv=>cbv
 have e:false=B9 name chain:=(by have hk:=XhD name;rw[aa]at hk;dsimp only at hk;unfold B9 Nz;rw[aa];dsimp only;rw[decide_eq_true (.inl (by omega))];rfl)
 rw[hr]at e
 subst e
 exact hQ _ _ (.of [] (.inl rfl) rfl rfl rfl rfl)
theorem XbJ{Ae:List Be}{A3:List (List D)}{Ag:List Ad}{A2:List (List D)}{Ah:List Ad}{A1:List (List D)}{Af:List ByteArray}{A4:List (List D)}{Aj:Int}{Ai:Int}{o:List ByteArray}{xo:List (List D)}(Ak:Ae.map A8=A3)(Al:Ag.map Ac=A2)(Ao:Ah.map Ac=A1)(An:Af.map cS=A4)(hd:okD ⟨Ae,Ag,Ah,Af,Aj,Ai⟩)(hr:Ci (⟨Ae,Ag,Ah,Af,Aj,Ai⟩:Aa)=o)(ho:o.map cS=xo):Fn Tryz.prog 209 [.agg [.d (.row 3 A3),.d (.row 2 A2),.d (.row 2 A1),.d (.row 1 A4),I Aj,I Ai]] [] ⟨.d (.row 1 xo),[],[]⟩:=by
 refine Fn.go Pr Tryz.func209 fun P hP Q hQ=>?_
 conv=>cbv
 have bf:Ag.length≤1000000000:=hd.2.2.1
 have aw:∀e∈Ag,e.name_.size≤1000000000:=hd.2.2.2.1
 generalize ao:Dm (⟨Ae,Ag,Ah,Af,Aj,Ai⟩:Aa)=l1
 generalize ap:l1.map cI=bg
 refine .dd hP (V8 Ak Al Ao An hd ao ap) ?_
 conv=>cbv
 refine LoopW.lp (κ:=Int×(List (List D))×Nat) Pr hP [2] [1,4] (fun(i5,ag,ah)=>[(3,.ref 3 0 ah),(5,I i5)]) (fun(i5,ag,ah)=>[(3,.row 1 false ag)])
  (fun(i5,ag,ah)=>∃(w3:List ByteArray),w3.map cS=ag∧ah=w3.length∧0≤i5∧i5≤Ag.length∧w3=((Ag.take i5.toNat).map fun e=>e.name_).filter (Nz l1)∧w3.length≤i5.toNat)
  (fun(i5,ag,ah)=>Ag.length - i5.toNat) (0,[],0) ⟨[],rfl,rfl,by omega,by omega,rfl,by simp⟩ ⟨rfl,rfl,trivial⟩ rfl ?_
 rintro⟨i5,ag,ah⟩ J ⟨w3,aj,a6,h0,hle,hw,hwl⟩ hJ
 conv=>cbv
 refine .go Al fun v2 bh=>?_
 conv=>cbv
 refine .lss (fun h3=>?_) fun h3=>?_
 conv=>cbv
 refine .go i5.toNat Al fun ai ⟨aa,a7⟩ ac=>?_
 conv=>cbv
 have hsz4:aa.size≤1000000000:=by have:=aw _ (List.getElem_mem ai);rw[←ac]at this;exact this
 have hle1:=Gh ao
 rcases aq:A5 aa with⟨ab,ak⟩
 refine .dd hP (Pd (by omega) aq) ?_
 conv=>cbv
 have hl:Nz l1 aa=decide (ab=2∨(ab=1∧ak∉l1)):=by unfold Nz;rw[aq]
 refine .eql (fun h6=>?_) fun h6=>?_
 conv=>cbv
 refine .go i5.toNat Al fun a8 ⟨ae,ba⟩ am=>?_
 conv=>cbv
 refine .one ae aj rfl fun ax z8 bb ay=>?_
 conv=>cbv
 refine .add fun v9 az=>?_
 conv=>cbv
 exact .go [5] (v9,z8,ax) (hJ _ ⟨_,ay,Gw,by omega,by omega,by(first|rw[show v9.toNat=i5.toNat+1 by omega]|rw[show al.toNat=i5.toNat+1 by omega]|rw[show v8.toNat=i5.toNat+1 by omega]);rw[hw,List.take_succ_eq_append_getElem ai,List.map_append,List.filter_append,←ac];simp only[List.map_cons,List.map_nil,List.filter_cons,List.filter_nil,hl];first|(guard_hyp h6:ab=2;rw[decide_eq_true (.inl h6)];try rw[if_pos rfl,show ae=aa from congrArg Ad.name_ (am.trans ac.symm)])|(guard_hyp h7:ab=1;guard_hyp ad:K9 l1 ak=false;rw[decide_eq_true (.inr ⟨h7,of_decide_eq_false ad⟩),if_pos rfl,show af=aa from congrArg Ad.name_ (an.trans ac.symm)])|(guard_hyp h7:ab=1;rw[decide_eq_false (by rintro(h|⟨_,h⟩);exact h6 h;exact h (of_decide_eq_true ad))];simp)|(rw[decide_eq_false (by rintro(h|⟨h,_⟩);exact h6 h;exact h7 h)];simp),by first|omega|(rw[List.length_append,List.length_singleton];omega)⟩ mlt)
 conv=>cbv
 refine .eql (fun h7=>?_) fun h7=>?_
 conv=>cbv
 generalize ad:K9 l1 ak=r8
 refine .dd hP (Xfd ap (by omega) ad) ?_
 cases r8
 conv=>cbv
 refine .go i5.toNat Al fun bc ⟨af,bd⟩ an=>?_
 conv=>cbv
 refine .one af aj rfl fun ar a1 a2 au=>?_
 conv=>cbv
 refine .add fun al be=>?_
 conv=>cbv
 exact .go [5] (al,a1,ar) (hJ _ ⟨_,au,Gw,by omega,by omega,by(first|rw[show v9.toNat=i5.toNat+1 by omega]|rw[show al.toNat=i5.toNat+1 by omega]|rw[show v8.toNat=i5.toNat+1 by omega]);rw[hw,List.take_succ_eq_append_getElem ai,List.map_append,List.filter_append,←ac];simp only[List.map_cons,List.map_nil,List.filter_cons,List.filter_nil,hl];first|(guard_hyp h6:ab=2;rw[decide_eq_true (.inl h6)];try rw[if_pos rfl,show ae=aa from congrArg Ad.name_ (am.trans ac.symm)])|(guard_hyp h7:ab=1;guard_hyp ad:K9 l1 ak=false;rw[decide_eq_true (.inr ⟨h7,of_decide_eq_false ad⟩),if_pos rfl,show af=aa from congrArg Ad.name_ (an.trans ac.symm)])|(guard_hyp h7:ab=1;rw[decide_eq_false (by rintro(h|⟨_,h⟩);exact h6 h;exact h (of_decide_eq_true ad))];simp)|(rw[decide_eq_false (by rintro(h|⟨h,_⟩);exact h6 h;exact h7 h)];simp),by first|omega|(rw[List.length_append,List.length_singleton];omega)⟩ mlt)
 conv=>cbv
 refine .add fun v9 az=>?_
 conv=>cbv
 exact .go [3] (v9,ag,ah) (hJ _ ⟨_,aj,Gw,by omega,by omega,by(first|rw[show v9.toNat=i5.toNat+1 by omega]|rw[show al.toNat=i5.toNat+1 by omega]|rw[show v8.toNat=i5.toNat+1 by omega]);rw[hw,List.take_succ_eq_append_getElem ai,List.map_append,List.filter_append,←ac];simp only[List.map_cons,List.map_nil,List.filter_cons,List.filter_nil,hl];first|(guard_hyp h6:ab=2;rw[decide_eq_true (.inl h6)];try rw[if_pos rfl,show ae=aa from congrArg Ad.name_ (am.trans ac.symm)])|(guard_hyp h7:ab=1;guard_hyp ad:K9 l1 ak=false;rw[decide_eq_true (.inr ⟨h7,of_decide_eq_false ad⟩),if_pos rfl,show af=aa from congrArg Ad.name_ (an.trans ac.symm)])|(guard_hyp h7:ab=1;rw[decide_eq_false (by rintro(h|⟨_,h⟩);exact h6 h;exact h (of_decide_eq_true ad))];simp)|(rw[decide_eq_false (by rintro(h|⟨h,_⟩);exact h6 h;exact h7 h)];simp),by first|omega|(rw[List.length_append,List.length_singleton];omega)⟩ mlt)
 conv=>cbv
 refine .add fun v8 bi=>?_
 conv=>cbv
 exact .go [3] (v8,ag,ah) (hJ _ ⟨_,aj,Gw,by omega,by omega,by(first|rw[show v9.toNat=i5.toNat+1 by omega]|rw[show al.toNat=i5.toNat+1 by omega]|rw[show v8.toNat=i5.toNat+1 by omega]);rw[hw,List.take_succ_eq_append_getElem ai,List.map_append,List.filter_append,←ac];simp only[List.map_cons,List.map_nil,List.filter_cons,List.filter_nil,hl];first|(guard_hyp h6:ab=2;rw[decide_eq_true (.inl h6)];try rw[if_pos rfl,show ae=aa from congrArg Ad.name_ (am.trans ac.symm)])|(guard_hyp h7:ab=1;guard_hyp ad:K9 l1 ak=false;rw[decide_eq_true (.inr ⟨h7,of_decide_eq_false ad⟩),if_pos rfl,show af=aa from congrArg Ad.name_ (an.trans ac.symm)])|(guard_hyp h7:ab=1;rw[decide_eq_false (by rintro(h|⟨_,h⟩);exact h6 h;exact h (of_decide_eq_true ad))];simp)|(rw[decide_eq_false (by rintro(h|⟨h,_⟩);exact h6 h;exact h7 h)];simp),by first|omega|(rw[List.length_append,List.length_singleton];omega)⟩ mlt)
 conv=>cbv
 have e:w3=Ci (⟨Ae,Ag,Ah,Af,Aj,Ai⟩:Aa):=(by unfold Ci;rw[ao,hw,List.take_of_length_le (by omega)])
 rw[hr]at e
 subst e
 exact hQ _ _ (.r rfl rfl (by rw[←aj,List.length_map];first|omega|(simp;omega)) (by rw[←aj,←ho]))
end
section
open Go Go.Proofs
set_option maxRecDepth 20000
set_option maxHeartbeats 4000000
def XcG:List (Nat×TyRow):=[ty3,ty9,X1,Xf0,XaK,W8,XjE,XjR,Xc]
theorem XcF:Cb Tryz.prog XcG:=Cb.of (by kernel_rfl)
theorem Ip:Setup Tryz.prog XcG:=⟨XcF,mixed⟩
theorem XhC{α:Type}{p:α→Bool}{l:List α}{i:Int}(e:Vr p l=i)(h:i≠-1):0≤i∧i<l.length∧l.take i.toNat=(l.take (i+1).toNat).filter (fun x=>!p x):=by
 have hb:=XeR e
 have h0:0≤i:=by omega
 obtain⟨hi,hp⟩:=Ue e h0
 refine⟨h0,hb.2,?_⟩
 rw[show(i+1).toNat=i.toNat+1 by omega,List.take_succ_eq_append_getElem hi,List.filter_append]
 have h1:(l.take i.toNat).filter (fun x=>!p x)=l.take i.toNat:=by
  rw[List.filter_eq_self]
  intro x hx
  obtain⟨j,hj,rfl⟩:=List.getElem_of_mem hx
  have aa:j<i.toNat:=by have:=hj;rw[List.length_take]at this;omega
  rw[List.getElem_take]
  have e2:l.findIdx p=i.toNat:=by
   unfold Vr at e
   split at e<;>omega
  have:=List.not_of_lt_findIdx (p:=p) (xs:=l) (i:=j) (by omega)
  simpa using this
 rw[h1]
 simp[hp]
theorem Xiv{α:Type}{p:α→Bool}{l w:List α}{i j:Nat}(hj:j<l.length)(hij:i<j)(hl:w.length=l.length)(h1:w.take i=(l.take j).filter (fun x=>!p x))(h2:w.drop j=l.drop j)(hp:p l[j]=false):
  (w.set i l[j]).take (i+1)=(l.take (j+1)).filter (fun x=>!p x)∧(w.set i l[j]).drop (j+1)=l.drop (j+1):=by
 constructor
 ·rw[List.take_succ_eq_append_getElem (by rw[List.length_set];omega),List.take_set_of_le (Nat.le_refl i),h1,List.take_succ_eq_append_getElem hj,List.filter_append]
  simp[hp]
 ·rw[List.drop_set_of_lt (by omega),←List.drop_drop,←List.drop_drop,h2]
theorem Xir{α:Type}{p:α→Bool}{l w:List α}{i j:Nat}(hj:j<l.length)(h1:w.take i=(l.take j).filter (fun x=>!p x))(h2:w.drop j=l.drop j)(hp:p l[j]=true):
  w.take i=(l.take (j+1)).filter (fun x=>!p x)∧w.drop (j+1)=l.drop (j+1):=by
 constructor
 ·rw[List.take_succ_eq_append_getElem hj,List.filter_append,h1]
  simp[hp]
 ·rw[←List.drop_drop,←List.drop_drop,h2]
theorem Xl7{α:Type}{l w:List α}{j:Nat}(hj:j<w.length)(aa:j<l.length)(h2:w.drop j=l.drop j):w[j]=l[j]:=by
 have:=congrArg (·[0]?) h2
 simpa[hj,aa]using this
theorem XkW{α:Type}{c:α→List D}{w o:List α}{z:α}{i n:Nat}{x:List (List D)}(hn:n=w.length - i)(hi:i≤w.length)(ho:w.take i=o)(h:(w.take i++(List.replicate n z++w.drop (i+n))).map c=x):i=o.length∧(o++List.replicate (w.length - o.length) z).map c=x:=by
 have h1:i=o.length:=by rw[←ho,List.length_take];omega
 refine⟨h1,?_⟩
 rw[←h,ho,List.drop_of_length_le (by omega),List.append_nil,hn,h1]
def Es(l:List ByteArray)(chain:List Int):Int:=Vr (fun x=>B9 x chain) l
variable {l o Af:List ByteArray} {xl xchain A3 A2 A1 A4 xo:List (List D)} {nl no:Nat} {chain:List Int} {Ae:List Be} {Ag Ah:List Ad} {Aj Ai:Int}
theorem Ma{o:Int}(hl:l.map cS=xl)(hnl:nl=l.length)(hchain:chain.map cI=xchain)(hn:l.length<2^40)(hc:chain.length<2^40)(hel:∀x∈l,x.size≤1000000000)(hr:Es l chain=o):Fn Tryz.prog 318 [.ref 0 0 nl,.clo 321 [.ptr 1 0 0]] [.row 1 false xl,.box 29 [.d (.row 1 xchain)]] ⟨I o,[],[]⟩:=by
 refine Fn.goR Ip Tryz.func318 fun P hP Q hQ=>?_
 conv=>cbv
 refine .go fun v1 af=>?_
 conv=>cbv
 refine LoopW.lp (κ:=Int) Ip hP [] [0,1,7] (fun i8=>[(8,I i8)]) (fun i8=>[])
  (fun i8=>0≤i8∧i8≤l.length∧∀(j:Nat) (hj:j<l.length),j<i8.toNat→B9 l[j] chain=false)
  (fun i8=>(l.length - i8).toNat) (0) ⟨by omega,by omega,fun j _ h=>by simp at h⟩ ⟨rfl,trivial⟩ rfl ?_
 rintro i8 J ⟨h0,h1,hb⟩ hJ
 conv=>cbv
 refine .lss (fun h2=>?_) fun h2=>?_
 conv=>cbv
 refine .go i8.toNat fun p3 ac ad=>?_
 conv=>cbv
 refine .go hl fun ae e4 aa=>?_
 conv=>cbv
 subst ac
 generalize ab:B9 e4 chain=r5
 refine .bx [1] [] hP (P7 hchain (hel e4 (aa▸List.getElem_mem _)) hc ab) rfl rfl rfl rfl ?_
 cases r5
 conv=>cbv
 refine .add fun v6 ag=>?_
 conv=>cbv
 exact .go [] (v6) (hJ _ ⟨by omega,by omega,fun j hj h=>if e:j=i8.toNat then by subst e;rw[←aa];exact ab else hb j hj (by omega)⟩ mlt)
 conv=>cbv
 have e:i8=Es l chain:=(by exact Mw (p:=fun x=>B9 x chain) h0 (by omega) (by rw[←aa];exact ab) hb)
 rw[hr]at e
 subst e
 exact hQ _ _ (.of [] (.inl rfl) rfl rfl rfl rfl)
 conv=>cbv
 have e:(-1)=Es l chain:=(by exact Ik (p:=fun x=>B9 x chain) fun j hj=>hb j hj (by omega))
 rw[hr]at e
 subst e
 exact hQ _ _ (.of [] (.inl rfl) rfl rfl rfl rfl)
def Ej(l:List ByteArray)(chain:List Int):List ByteArray:=l.filter (fun x=>!B9 x chain)
theorem Lw{xf:List (List D)}(hl:l.map cS=xl)(hnl:nl=l.length)(hchain:chain.map cI=xchain)(hn:l.length<2^40)(hc:chain.length<2^40)(hel:∀x∈l,x.size≤1000000000)(hr:Ej l chain=o)(hf:(o++List.replicate (l.length - o.length) (tx [])).map cS=xf)(hno:no=o.length):Fn Tryz.prog 320 [.ref 0 0 nl,.clo 321 [.ptr 1 0 0]] [.row 1 false xl,.box 29 [.d (.row 1 xchain)]] ⟨.ref 0 0 no,[],[(0,.row 1 false xf)]⟩:=by
 refine Fn.goR Ip Tryz.func320 fun P hP Q hQ=>?_
 conv=>cbv
 generalize ad:Es l chain=r1
 refine .bx [0,1] [] hP (Ma hl (by first|rfl|omega|(simp;omega)) hchain hn hc hel ad) rfl rfl rfl rfl ?_
 conv=>cbv
 refine .eql (fun h2=>?_) fun h2=>?_
 conv=>cbv
 have e:l=o:=by rw[←hr];unfold Ej;symm;rw[List.filter_eq_self];intro x hx;rw[XdW (p:=fun x=>B9 x chain) ad (by omega) x hx];rfl
 subst e
 obtain rfl:xl=xf:=by rw[←hl,←hf];simp
 obtain rfl:nl=no:=by omega
 exact hQ _ _ (.of [] (.inl rfl) rfl rfl rfl rfl)
 conv=>cbv
 have hd:=XhC (p:=fun x=>B9 x chain) ad h2
 refine .add fun v3 aj=>?_
 conv=>cbv
 refine LoopW.lp (κ:=Int×Int×(List (List D))) Ip hP [] [0,1] (fun(i5,i6,aa)=>[(5,I i5),(6,I i6)]) (fun(i5,i6,aa)=>[(0,.row 1 false aa)])
  (fun(i5,i6,aa)=>∃(w0:List ByteArray),w0.map cS=aa∧(0≤i5∧i5<i6∧i6≤l.length)∧w0.length=l.length∧w0.take i5.toNat=(l.take i6.toNat).filter (fun x=>!B9 x chain)∧w0.drop i6.toNat=l.drop i6.toNat)
  (fun(i5,i6,aa)=>(l.length - i6).toNat) (r1,v3,xl) ⟨l,hl,by omega,rfl,by rw[hd.2.2,aj],rfl⟩ ⟨rfl,rfl,trivial⟩ rfl ?_
 rintro⟨i5,i6,aa⟩ J ⟨w0,ab,hb,hwl,hwt,hwd⟩ hJ
 conv=>cbv
 refine .go fun v4 aw=>?_
 conv=>cbv
 refine .lss (fun h5=>?_) fun h5=>?_
 conv=>cbv
 refine .go i6.toNat fun p6 ak ap=>?_
 conv=>cbv
 refine .go ab fun ag e7 al=>?_
 conv=>cbv
 subst ak
 have ac:e7=l[i6.toNat]:=al.trans (Xl7 ag (by omega) hwd)
 generalize ae:B9 e7 chain=r8
 refine .bx [1] [] hP (P7 hchain (hel e7 (by rw[ac];exact List.getElem_mem _)) hc ae) rfl rfl rfl rfl ?_
 cases r8
 conv=>cbv
 refine .go i5.toNat fun p9 am aq=>?_
 conv=>cbv
 refine .all (e7) ab rfl fun an ah=>?_
 conv=>cbv
 refine .add fun ai ar=>?_
 conv=>cbv
 refine .add fun af au=>?_
 conv=>cbv
 have hk:=Xiv (i:=i5.toNat) (p:=fun x=>B9 x chain) (show i6.toNat<l.length by omega) (by omega) hwl hwt hwd (by rw[←ac];exact ae)
 rw[←ac]at hk
 subst am
 exact .go [] (ai,af,an) (hJ _ ⟨_,ah,by omega,by rw[List.length_set];exact hwl,by rw[show ai.toNat=i5.toNat+1 by omega,show af.toNat=i6.toNat+1 by omega];exact hk.1,by rw[show af.toNat=i6.toNat+1 by omega];exact hk.2⟩ mlt)
 conv=>cbv
 refine .add fun v9 ax=>?_
 conv=>cbv
 have hk:=Xir (p:=fun x=>B9 x chain) (show i6.toNat<l.length by omega) hwt hwd (by rw[←ac];exact ae)
 exact .go [] (i5,v9,aa) (hJ _ ⟨_,ab,by omega,hwl,by rw[show v9.toNat=i6.toNat+1 by omega];exact hk.1,by rw[show v9.toNat=i6.toNat+1 by omega];exact hk.2⟩ mlt)
 conv=>cbv
 refine .lo fun on6 n6 hon6 ay=>?_
 conv=>cbv
 refine .go (tx []) hP ab Tryz.underlying26 (by kernel_rfl) rfl fun z7 ao=>?_
 conv=>cbv
 refine .hi fun on8 n8 hon8 az=>?_
 conv=>cbv
 have e:w0.take on6=o:=by rw[hon6,Nat.zero_add,hwt,List.take_of_length_le (by omega),←hr];rfl
 obtain⟨e1,e2⟩:=XkW (by omega) (by omega) e ao
 rw[hwl,hf]at e2
 subst e2
 obtain rfl:n8=no:=by omega
 subst hon8
 exact hQ _ _ (.of [] (.inl rfl) rfl rfl rfl rfl)
def H5(d:Aa):List ByteArray:=d.entries_.map fun e=>e.name_
theorem XhJ{o:List Int}(Ak:Ae.map A8=A3)(Al:Ag.map Ac=A2)(Ao:Ah.map Ac=A1)(An:Af.map cS=A4)(hd:okD ⟨Ae,Ag,Ah,Af,Aj,Ai⟩)(hr:Dm (⟨Ae,Ag,Ah,Af,Aj,Ai⟩:Aa)=o)(ho:o.map cI=xo):Fn Tryz.prog 150 [.agg [.d (.row 3 A3),.d (.row 2 A2),.d (.row 2 A1),.d (.row 1 A4),I Aj,I Ai]] [] ⟨.d (.row 1 xo),[],[]⟩:=by
 refine Fn.go Ip Tryz.func150 fun P hP Q hQ=>?_
 conv=>cbv
 generalize an:J0 (⟨Ae,Ag,Ah,Af,Aj,Ai⟩:Aa)=l1
 generalize ao:l1.map XgB=ba
 refine .dd hP (Xah Ak Al Ao An hd an ao) ?_
 conv=>cbv
 refine .go ao fun v2 bb=>?_
 conv=>cbv
 refine LoopW.lp (κ:=Int×(List (List D))×Nat) Ip hP [2] [8,9] (fun(aa,ah,ai)=>[(3,.ref 3 0 ai),(10,I aa)]) (fun(aa,ah,ai)=>[(3,.row 1 false ah)])
  (fun(aa,ah,ai)=>∃(w3:List Int),w3.map cI=ah∧ai=w3.length∧0≤aa∧aa≤l1.length∧w3=(l1.take aa.toNat).map fun x=>x.base_)
  (fun(aa,ah,ai)=>(l1.length - aa).toNat) (0,[],0) ⟨[],rfl,rfl,by omega,by omega,by simp⟩ ⟨rfl,rfl,trivial⟩ rfl ?_
 rintro⟨aa,ah,ai⟩ J ⟨w3,ap,a6,h0,h1,hw⟩ hJ
 have a7:=Jb an
 have hwl:w3.length=aa.toNat:=by rw[hw,List.length_map,List.length_take];omega
 conv=>cbv
 refine .lss (fun h3=>?_) fun h3=>?_
 conv=>cbv
 refine .goX aa.toNat ao fun ay ⟨al,aq,⟨am,⟨ad,ae,af,ag⟩,ab,ac,aj,ak⟩⟩ fe4 az hfe4=>?_
 replace hfe4:[.sc (.int .i64 al),.sc (.string aq),.sc (.bool am),.sc (.int .i64 ad),.sc (.int .i64 ae),.sc (.int .i64 af),.sc (.int .i64 ag),.row 1 (ab.map cS),.row 1 (ac.map cI),.sc (.int .i64 aj),.sc (.bool ak)]=fe4:=hfe4
 generalize ar:ab.map cS=au at hfe4
 generalize aw:ac.map cI=ax at hfe4
 subst hfe4
 conv=>cbv
 refine .one al ap rfl fun a1 z5 a8 a2=>?_
 conv=>cbv
 refine .add fun v6 bc=>?_
 conv=>cbv
 exact .go [8] (v6,z5,a1) (hJ _ ⟨_,a2,Gw,by omega,by omega,by rw[hw,show v6.toNat=aa.toNat+1 by omega,Q2 ay,←az]⟩ mlt)
 conv=>cbv
 have e:w3=Dm (⟨Ae,Ag,Ah,Af,Aj,Ai⟩:Aa):=(by unfold Dm;rw[an,hw,List.take_of_length_le (by omega)])
 rw[hr]at e
 subst e
 exact hQ _ _ (.r rfl rfl (by rw[←ap,List.length_map];first|omega|(simp;omega)) (by rw[←ap,←ho]))
theorem XdH(Ak:Ae.map A8=A3)(Al:Ag.map Ac=A2)(Ao:Ah.map Ac=A1)(An:Af.map cS=A4)(am:Ag.length≤1000000000)(hr:H5 (⟨Ae,Ag,Ah,Af,Aj,Ai⟩:Aa)=o)(ho:o.map cS=xo):Fn Tryz.prog 146 [.agg [.d (.row 3 A3),.d (.row 2 A2),.d (.row 2 A1),.d (.row 1 A4),I Aj,I Ai]] [] ⟨.d (.row 1 xo),[],[]⟩:=by
 refine Fn.go Ip Tryz.func146 fun P hP Q hQ=>?_
 conv=>cbv
 refine .go Al fun v1 an=>?_
 conv=>cbv
 refine LoopW.lp (κ:=Int×(List (List D))×Nat) Ip hP [2] [8,9] (fun(aa,ab,ac)=>[(3,.ref 3 0 ac),(10,I aa)]) (fun(aa,ab,ac)=>[(3,.row 1 false ab)])
  (fun(aa,ab,ac)=>∃(w3:List ByteArray),w3.map cS=ab∧ac=w3.length∧0≤aa∧aa≤Ag.length∧w3=(Ag.take aa.toNat).map (fun e=>e.name_)∧w3.length=aa.toNat)
  (fun(aa,ab,ac)=>Ag.length - aa.toNat) (0,[],0) ⟨[],rfl,rfl,by omega,by omega,rfl,rfl⟩ ⟨rfl,rfl,trivial⟩ rfl ?_
 rintro⟨aa,ab,ac⟩ J ⟨w3,ad,aj,h0,hle,hw,hwl⟩ hJ
 conv=>cbv
 refine .lss (fun h2=>?_) fun h2=>?_
 conv=>cbv
 refine .go aa.toNat Al fun af ⟨ae,ak⟩ ag=>?_
 conv=>cbv
 refine .one ae ad rfl fun ah z4 al ai=>?_
 conv=>cbv
 refine .add fun v5 ao=>?_
 conv=>cbv
 exact .go [6] (v5,z4,ah) (hJ _ ⟨_,ai,Gw,by omega,by omega,by rw[hw,show v5.toNat=aa.toNat+1 by omega,List.take_succ_eq_append_getElem af,List.map_append,←ag];rfl,by rw[List.length_append,hwl];simp;omega⟩ mlt)
 conv=>cbv
 have e:w3=H5 (⟨Ae,Ag,Ah,Af,Aj,Ai⟩:Aa):=(by unfold H5;rw[hw,List.take_of_length_le (by omega)])
 rw[hr]at e
 subst e
 exact hQ _ _ (.r rfl rfl (by rw[←ad,List.length_map];first|omega|(simp;omega)) (by rw[←ad,←ho]))
theorem Xbx(Ak:Ae.map A8=A3)(Al:Ag.map Ac=A2)(Ao:Ah.map Ac=A1)(An:Af.map cS=A4)(am:Ag.length≤1000000000)(hr:H5 (⟨Ae,Ag,Ah,Af,Aj,Ai⟩:Aa)=o)(ho:o.map cS=xo)(hno:no=o.length):Fn Tryz.prog 146 [.agg [.d (.row 3 A3),.d (.row 2 A2),.d (.row 2 A1),.d (.row 1 A4),I Aj,I Ai]] [] ⟨.ref 0 0 no,[.row 1 false xo],[]⟩:=by
 refine Fn.goR Ip Tryz.func146 fun P hP Q hQ=>?_
 conv=>cbv
 refine .go Al fun v1 an=>?_
 conv=>cbv
 refine LoopW.lp (κ:=Int×(List (List D))×Nat) Ip hP [2] [8,9] (fun(aa,ab,ac)=>[(3,.ref 3 0 ac),(10,I aa)]) (fun(aa,ab,ac)=>[(3,.row 1 false ab)])
  (fun(aa,ab,ac)=>∃(w3:List ByteArray),w3.map cS=ab∧ac=w3.length∧0≤aa∧aa≤Ag.length∧w3=(Ag.take aa.toNat).map (fun e=>e.name_)∧w3.length=aa.toNat)
  (fun(aa,ab,ac)=>Ag.length - aa.toNat) (0,[],0) ⟨[],rfl,rfl,by omega,by omega,rfl,rfl⟩ ⟨rfl,rfl,trivial⟩ rfl ?_
 rintro⟨aa,ab,ac⟩ J ⟨w3,ae,aj,h0,hle,hw,hwl⟩ hJ
 conv=>cbv
 refine .lss (fun h2=>?_) fun h2=>?_
 conv=>cbv
 refine .go aa.toNat Al fun af ⟨ad,ak⟩ ag=>?_
 conv=>cbv
 refine .one ad ae rfl fun ah z4 al ai=>?_
 conv=>cbv
 refine .add fun v5 ao=>?_
 conv=>cbv
 exact .go [6] (v5,z4,ah) (hJ _ ⟨_,ai,Gw,by omega,by omega,by rw[hw,show v5.toNat=aa.toNat+1 by omega,List.take_succ_eq_append_getElem af,List.map_append,←ag];rfl,by rw[List.length_append,hwl];simp;omega⟩ mlt)
 conv=>cbv
 have e:w3=H5 (⟨Ae,Ag,Ah,Af,Aj,Ai⟩:Aa):=(by unfold H5;rw[hw,List.take_of_length_le (by omega)])
 rw[hr]at e
 subst e
 obtain rfl:ab=xo:=by rw[←ae,←ho]
 obtain rfl:ac=no:=by first|omega|(rw[hno];simp;done)|(rw[hno];simp;omega)
 exact hQ _ _ (.of [3] (.inl rfl) rfl rfl rfl rfl)
theorem Xca(Ak:Ae.map A8=A3)(Al:Ag.map Ac=A2)(Ao:Ah.map Ac=A1)(An:Af.map cS=A4)(hd:okD ⟨Ae,Ag,Ah,Af,Aj,Ai⟩)(hr:Ci (⟨Ae,Ag,Ah,Af,Aj,Ai⟩:Aa)=o)(ho:o.map cS=xo):Fn Tryz.prog 276 [.agg [.d (.row 3 A3),.d (.row 2 A2),.d (.row 2 A1),.d (.row 1 A4),I Aj,I Ai]] [] ⟨.d (.row 1 xo),[],[]⟩:=by
 refine Fn.go Ip Tryz.func276 fun P hP Q hQ=>?_
 conv=>cbv
 have ah:Ag.length≤1000000000:=hd.2.2.1
 have ai:∀e∈Ag,e.name_.size≤1000000000:=hd.2.2.2.1
 generalize ab:Dm (⟨Ae,Ag,Ah,Af,Aj,Ai⟩:Aa)=l1
 generalize ae:l1.map cI=al
 refine .dd hP (XhJ Ak Al Ao An hd ab ae) ?_
 conv=>cbv
 generalize af:H5 (⟨Ae,Ag,Ah,Af,Aj,Ai⟩:Aa)=l2
 generalize ac:l2.map cS=am
 obtain⟨nl2,hnl2⟩:∃m,m=l2.length:=⟨_,rfl⟩
 refine .ddA hP (Xbx Ak Al Ao An ah af ac hnl2) rfl rfl rfl (ac▸Pi (fun _=>rfl) l2) ?_
 conv=>cbv
 have aj:=Gh ab
 have aa:l2=Ag.map (fun e=>e.name_):=af.symm
 have ak:l2.length=Ag.length:=by rw[aa,List.length_map]
 have hel:∀x∈l2,x.size≤1000000000:=by rw[aa];intro x hx;obtain⟨y,hy,rfl⟩:=List.mem_map.1 hx;exact ai y hy
 generalize ag:Ej l2 l1=l3
 generalize ad:(l3++List.replicate (l2.length - l3.length) (tx [])).map cS=an
 obtain⟨nl3,hnl3⟩:∃m,m=l3.length:=⟨_,rfl⟩
 refine .bx [4,3] [] hP (Lw ac (by first|rfl|omega|(simp;omega)) ae (by omega) (by omega) hel ag ad hnl3) rfl rfl rfl rfl ?_
 conv=>cbv
 have e:l3=Ci (⟨Ae,Ag,Ah,Af,Aj,Ai⟩:Aa):=by
  rw[←ag,aa]
  unfold Ci Ej B9
  rw[ab]
  simp only[Bool.not_not]
 rw[hr]at e
 subst e
 exact hQ _ _ (.rs rfl rfl (by rw[←ad,hnl3];simp) (by rw[←ad,←ho,hnl3];simp))
theorem Zs{d:Aa}{l:List ByteArray}(hd:okD d)(e:Ci d=l):l.length≤1000000000:=by
 rw[←e]
 unfold Ci
 have:=List.length_filter_le (Nz (Dm d)) (d.entries_.map fun e=>e.name_)
 rw[List.length_map]at this
 have:=hd.2.2.1
 omega
end
section
open Go Go.Proofs
set_option maxRecDepth 20000
set_option maxHeartbeats 4000000
def Xbw:List (Nat×TyRow):=[ty3,ty4,ty9,X1,Xab,XgN]
theorem Xdi:Cb Tryz.prog Xbw:=Cb.of (by kernel_rfl)
theorem XfA:Setup Tryz.prog Xbw:=⟨Xdi,mixed⟩
def C5(b:ByteArray)(v:Int):ByteArray:=
 if(As b).ok_=true∧(0≤v∧v≤2)then(if 0<v then B7 ⟨v,(As b).head_.stride_,(As b).head_.base_,(As b).head_.link_⟩ (As b).records_ else B7 (As b).head_ (As b).records_)else tx []
theorem Qr{b:ByteArray}{v:Int}{o:ByteArray}(e:C5 b v=o):o.size≤200000:=by
 rw[←e]
 unfold C5
 split
 ·split
  ·exact Fj rfl
  ·exact Fj rfl
 ·simp[Bh]
variable {b o:ByteArray} {version:Int}
theorem Xf7(hn:b.size<2^40)(hr:C5 b version=o):Fn Tryz.prog 112 [S b,I version] [] ⟨S o,[],[]⟩:=by
 refine Fn.go XfA Tryz.func112 fun P hP Q hQ=>?_
 conv=>cbv
 rcases ag:As b with⟨am,⟨af,aa,ab,ac⟩,ae,ak,ap,aq⟩
 generalize ad:ae.map cS=an
 generalize aj:ak.map cI=ao
 refine .dd hP (Pk (by omega) ag ad aj) ?_
 conv=>cbv
 have zl:=Gi (b:=b)
 rw[ag]at zl
 simp only[]at zl
 cases am
 conv=>cbv
 have e:(tx [])=C5 b version:=(by unfold C5;rw[ag];simp only[];rw[if_neg];rintro⟨q,_⟩;cases q)
 rw[hr]at e
 subst e
 exact hQ _ _ (.s rfl rfl)
 conv=>cbv
 refine .neq (fun h2=>?_) fun h2=>?_
 conv=>cbv
 generalize al:C7 version=r3
 refine .dd hP (K8 al) ?_
 cases r3
 simp only[C7,decide_eq_true_eq,decide_eq_false_iff_not]at al
 conv=>cbv
 have e:(tx [])=C5 b version:=(by unfold C5;rw[ag];simp only[];rw[if_neg];rintro⟨_,q⟩;omega)
 rw[hr]at e
 subst e
 exact hQ _ _ (.s rfl rfl)
 simp only[C7,decide_eq_true_eq,decide_eq_false_iff_not]at al
 conv=>cbv
 refine .neq (fun h4=>?_) fun h4=>?_
 conv=>cbv
 generalize ah:B7 (⟨version,aa,ab,ac⟩:Bp) ae=r5
 have zr5:=Fj ah
 refine .dd hP (Ml ad (by omega) ah) ?_
 conv=>cbv
 have e:r5=C5 b version:=(by unfold C5;rw[ag];simp only[];rw[if_pos ⟨trivial,by omega⟩,if_pos (by omega)];exact ah.symm)
 rw[hr]at e
 subst e
 exact hQ _ _ (.s rfl rfl)
 conv=>cbv
 generalize ah:B7 (⟨af,aa,ab,ac⟩:Bp) ae=r5
 have zr5:=Fj ah
 refine .dd hP (Ml ad (by omega) ah) ?_
 conv=>cbv
 have e:r5=C5 b version:=(by exact absurd h4 h2)
 rw[hr]at e
 subst e
 exact hQ _ _ (.s rfl rfl)
 conv=>cbv
 refine .neq (fun h3=>?_) fun h3=>?_
 conv=>cbv
 generalize ai:B7 (⟨version,aa,ab,ac⟩:Bp) ae=r4
 have zr4:=Fj ai
 refine .dd hP (Ml ad (by omega) ai) ?_
 conv=>cbv
 have e:r4=C5 b version:=(by exact absurd h2 h3)
 rw[hr]at e
 subst e
 exact hQ _ _ (.s rfl rfl)
 conv=>cbv
 generalize ai:B7 (⟨af,aa,ab,ac⟩:Bp) ae=r4
 have zr4:=Fj ai
 refine .dd hP (Ml ad (by omega) ai) ?_
 conv=>cbv
 have e:r4=C5 b version:=(by unfold C5;rw[ag];simp only[];rw[if_pos ⟨trivial,by omega⟩,if_neg (by omega)];exact ai.symm)
 rw[hr]at e
 subst e
 exact hQ _ _ (.s rfl rfl)
theorem Xgs(hn:b.size<2^40)(hr:C5 b version=o):Fn Tryz.prog 102 [S b,I version] [] ⟨S o,[],[]⟩:=by
 refine Fn.go XfA Tryz.func102 fun P hP Q hQ=>?_
 conv=>cbv
 rcases ag:As b with⟨al,⟨ah,aa,ab,ac⟩,ae,aj,ao,ap⟩
 generalize ad:ae.map cS=am
 generalize ai:aj.map cI=an
 refine .dd hP (Md (by omega) ag ad ai) ?_
 conv=>cbv
 have zl:=Gi (b:=b)
 rw[ag]at zl
 simp only[]at zl
 cases al
 conv=>cbv
 have e:(tx [])=C5 b version:=(by unfold C5;rw[ag];simp only[];rw[if_neg];rintro⟨q,_⟩;cases q)
 rw[hr]at e
 subst e
 exact hQ _ _ (.s rfl rfl)
 conv=>cbv
 generalize ak:A6 version 0 2=r2
 refine .dd hP (Dr ak) ?_
 cases r2
 simp only[A6,decide_eq_true_eq,decide_eq_false_iff_not]at ak
 conv=>cbv
 have e:(tx [])=C5 b version:=(by unfold C5;rw[ag];simp only[];rw[if_neg];rintro⟨_,q⟩;omega)
 rw[hr]at e
 subst e
 exact hQ _ _ (.s rfl rfl)
 simp only[A6,decide_eq_true_eq,decide_eq_false_iff_not]at ak
 conv=>cbv
 refine .gtr (fun h3=>?_) fun h3=>?_
 conv=>cbv
 generalize af:B7 (⟨version,aa,ab,ac⟩:Bp) ae=r4
 have zr4:=Fj af
 refine .dd hP (Tg ad (by omega) af) ?_
 conv=>cbv
 have e:r4=C5 b version:=(by unfold C5;rw[ag];simp only[];rw[if_pos ⟨trivial,by omega⟩,if_pos (by omega)];exact af.symm)
 rw[hr]at e
 subst e
 exact hQ _ _ (.s rfl rfl)
 conv=>cbv
 generalize af:B7 (⟨ah,aa,ab,ac⟩:Bp) ae=r4
 have zr4:=Fj af
 refine .dd hP (Tg ad (by omega) af) ?_
 conv=>cbv
 have e:r4=C5 b version:=(by unfold C5;rw[ag];simp only[];rw[if_pos ⟨trivial,by omega⟩,if_neg (by omega)];exact af.symm)
 rw[hr]at e
 subst e
 exact hQ _ _ (.s rfl rfl)
end
section
open Go Go.Proofs
set_option maxRecDepth 20000
set_option maxHeartbeats 4000000
def Q3:List (Nat×TyRow):=[ty3,ty9,X1,Xf0,W8,Xjp,XjE,XjR,XaB,Xl6]
theorem Xdp:Cb Tryz.prog Q3:=Cb.of (by kernel_rfl)
theorem Qc:Setup Tryz.prog Q3:=⟨Xdp,mixed⟩
def Gg(base:Int)(text:ByteArray):List TOp:=[⟨2,Cl base,tx [],tx []⟩,⟨3,Cl base,tx [],text⟩,⟨4,Cl base,tx [],tx []⟩,⟨5,Cl base,Ap base,tx []⟩,⟨6,tx [],tx [],tx []⟩]
def M0(n:ByteArray):TOp:=⟨1,n,tx [],tx []⟩
def Fq(names:List ByteArray):List TOp:=if names=[]then[]else names.map M0++[⟨6,tx [],tx [],tx []⟩]
def G5(d:Aa)(b:Int):List TOp:=if(Fl d (Ap b)).1.sure_=(Fl d (Ap b)).1.text_.size then[]else[⟨4,Ap b,tx [],tx []⟩]
def E8(d:Aa)(v:Int)(b:Int):List TOp:=if C5 (Cn d b) v=Cn d b then[]else Gg b (C5 (Cn d b) v)
def Hj(n:ByteArray):Bool:=decide ((A5 n).1=2)
def W6(v:Int):Int:=if v=1∨v=2 then v else 0
def Zx(d:Aa):List TOp:=(Dm d).flatMap (G5 d)++(if d.steps_=[]then[]else[⟨6,tx [],tx [],tx []⟩])
def Xau(d:Aa):List TOp:=Fq ((Ci d).filter Hj)
def Fo(d:Aa)(v:Int):List TOp:=Zx d++Xau d++(Dm d).flatMap (E8 d (W6 v))++Fq ((Ci d).filter (fun n=>!Hj n)).reverse
theorem Xj6{α:Type}{l w:List α}{i j:Int}{a b:α}(hl:w.length=l.length)(h0:0≤i)(hij:i+j=l.length - 1)(hlt:i<j)(h:∀k:Nat,k<l.length→w[k]? =if(k:Int)<i∨j<k then l[l.length - 1 - k]? else l[k]?)
  (ha:w[j.toNat]? =some a)(hb:w[i.toNat]? =some b):∀k:Nat,k<l.length→((w.set i.toNat a).set j.toNat b)[k]? =if(k:Int)<i+1∨j - 1<k then l[l.length - 1 - k]? else l[k]? :=by
 intro k hk
 have hj:=h j.toNat (by omega)
 have hi:=h i.toNat (by omega)
 rw[if_neg (by omega),ha]at hj
 rw[if_neg (by omega),hb]at hi
 by_cases e1:k=j.toNat
 ·subst e1
  rw[List.getElem?_set_self (by rw[List.length_set];omega),if_pos (by omega),show l.length - 1 - j.toNat=i.toNat by omega,←hi]
 ·rw[List.getElem?_set_ne (fun e=>e1 e.symm)]
  by_cases e2:k=i.toNat
  ·subst e2
   rw[List.getElem?_set_self (by omega),if_pos (by omega),show l.length - 1 - i.toNat=j.toNat by omega,←hj]
  ·rw[List.getElem?_set_ne (fun e=>e2 e.symm),h k hk]
   by_cases e3:(k:Int)<i∨j<k
   ·rw[if_pos e3,if_pos (by omega)]
   ·rw[if_neg e3,if_neg (by omega)]
theorem Xli{α:Type}{l w:List α}{i j:Int}(hl:w.length=l.length)(hij:i+j=l.length - 1)(hlt:j≤i)(h:∀k:Nat,k<l.length→w[k]? =if(k:Int)<i∨j<k then l[l.length - 1 - k]? else l[k]?):w=l.reverse:=by
 refine List.ext_getElem? fun k=>?_
 by_cases hk:k<l.length
 ·rw[h k hk,List.getElem?_reverse hk]
  split
  ·rfl
  ·rw[show l.length - 1 - k=k by omega]
 ·rw[List.getElem?_eq_none (by omega),List.getElem?_eq_none (by rw[List.length_reverse];omega)]
theorem R4{d:Aa}{α:Type}(f:Td→List α)(g:Int→List α)(h:∀x,x.text_=Cn d x.base_→x.scan_=As (Cn d x.base_)→f x=g x.base_):(J0 d).flatMap f=(Dm d).flatMap g:=by
 rw[List.flatMap_def,List.flatMap_def,Xbs f g h]
theorem Do{α:Type}{p:α→Bool}{l:List α}{k:Nat}(h:k<l.length):(l.take (k+1)).filter p=(l.take k).filter p++(if p l[k]then[l[k]]else[]):=by
 rw[List.take_succ_eq_append_getElem h,List.filter_append,List.filter_cons,List.filter_nil]
theorem Xy{d:Aa}{l:List ByteArray}(e:Ci d=l):∀n∈l,(A5 n).1=2∨(A5 n).1=1:=by
 intro n hn
 rw[←e]at hn
 unfold Ci at hn
 have h:=(List.mem_filter.1 hn).2
 unfold Nz at h
 rw[decide_eq_true_eq]at h
 rcases h with h|⟨h,_⟩
 ·exact .inl h
 ·exact .inr h
theorem Z7{d:Aa}{l:List ByteArray}(hd:okD d)(e:Ci d=l):∀n∈l,n.size≤1000000000:=by
 intro n hn
 rw[←e]at hn
 unfold Ci at hn
 obtain⟨x,hx,rfl⟩:=List.mem_map.1 (List.mem_filter.1 hn).1
 exact hd.2.2.2.1 x hx
theorem M7{l:List ByteArray}:(Fq l).length≤l.length+1:=by
 unfold Fq
 split
 ·simp
 ·simp
theorem Xe7{α β:Type}{f:α→List β}{m:Nat}(h:∀x,(f x).length≤m):∀l:List α,(l.flatMap f).length≤m*l.length
 |[]=>by simp
 |x::l=>by
  have:=Xe7 h l
  have h2:=h x
  rw[List.flatMap_cons,List.length_append,List.length_cons,Nat.mul_succ]
  omega
theorem Rx{d:Aa}(b:Int):(G5 d b).length≤1:=by unfold G5;split<;>simp
theorem Xhq{d:Aa}{v:Int}(b:Int):(E8 d v b).length≤5:=by unfold E8;split<;>simp[Gg]
theorem Xkw{α β:Type}{f:α→List β}{m:Nat}(h:∀x,(f x).length≤m){l:List α}{k:Nat}{w:List β}(e:w=(l.take k).flatMap f):w.length≤m*l.length:=by
 rw[e]
 have:=Xe7 h (l.take k)
 have h2:(l.take k).length≤l.length:=by rw[List.length_take];omega
 exact Nat.le_trans this (Nat.mul_le_mul_left m h2)
variable {base Aj Ai version:Int} {text:ByteArray} {o:List TOp} {xo A3 A2 A1 A4:List (List D)} {Ae:List Be} {Ag Ah:List Ad} {Af:List ByteArray}
theorem XgD(hr:Gg base text=o)(ho:o.map eOp=xo):Fn Tryz.prog 111 [I base,S text] [] ⟨.d (.row 4 xo),[],[]⟩:=by
 refine Fn.go Qc Tryz.func111 fun P hP Q hQ=>?_
 conv=>cbv
 generalize aa:Cl base=r1
 refine .dd hP (X7 aa) ?_
 conv=>cbv
 generalize ab:Ap base=r2
 refine .dd hP (Ha ab) ?_
 conv=>cbv
 have e:[(⟨2,r1,tx [],tx []⟩:TOp),(⟨3,r1,tx [],text⟩:TOp),(⟨4,r1,tx [],tx []⟩:TOp),(⟨5,r1,r2,tx []⟩:TOp),(⟨6,tx [],tx [],tx []⟩:TOp)]=Gg base text:=(by unfold Gg;rw[aa,ab])
 rw[hr]at e
 subst e
 exact hQ _ _ (.r rfl rfl rfl (by rw[←ho];rfl))
theorem Xf5(hr:Gg base text=o)(ho:o.map eOp=xo):Fn Tryz.prog 101 [I base,S text] [] ⟨.d (.row 4 xo),[],[]⟩:=by
 refine Fn.go Qc Tryz.func101 fun P hP Q hQ=>?_
 conv=>cbv
 generalize aa:Cl base=r1
 refine .dd hP (Yp aa) ?_
 conv=>cbv
 generalize ab:Ap base=r2
 refine .dd hP (If ab) ?_
 conv=>cbv
 have e:[(⟨2,r1,tx [],tx []⟩:TOp),(⟨3,r1,tx [],text⟩:TOp),(⟨4,r1,tx [],tx []⟩:TOp),(⟨5,r1,r2,tx []⟩:TOp),(⟨6,tx [],tx [],tx []⟩:TOp)]=Gg base text:=(by unfold Gg;rw[aa,ab])
 rw[hr]at e
 subst e
 exact hQ _ _ (.r rfl rfl rfl (by rw[←ho];rfl))
theorem Xs{names:List ByteArray}{xnames:List (List D)}{no:Nat}(hnames:names.map cS=xnames)(hn:names.length<2^40)(hr:Fq names=o)(ho:o.map eOp=xo)(hno:no=o.length):Fn Tryz.prog 277 [.d (.row 1 xnames)] [] ⟨.ref 0 0 no,[.row 4 false xo],[]⟩:=by
 refine Fn.goR Qc Tryz.func277 fun P hP Q hQ=>?_
 conv=>cbv
 refine .go hnames fun v1 am=>?_
 conv=>cbv
 refine LoopW.lp (κ:=Int×(List (List D))×Nat) Qc hP [1] [7,8] (fun(i9,aa,ab)=>[(3,.ref 2 0 ab),(9,I i9)]) (fun(i9,aa,ab)=>[(2,.row 4 false aa)])
  (fun(i9,aa,ab)=>∃(w2:List TOp),w2.map eOp=aa∧ab=w2.length∧0≤i9∧i9≤names.length∧w2=(names.take i9.toNat).map M0∧w2.length=i9.toNat)
  (fun(i9,aa,ab)=>(names.length - i9).toNat) (0,[],0) ⟨[],rfl,rfl,by omega,by omega,by simp,rfl⟩ ⟨rfl,rfl,trivial⟩ rfl ?_
 rintro⟨i9,aa,ab⟩ J ⟨w2,ac,aj,h0,h1,hw,hwl⟩ hJ
 conv=>cbv
 refine .lss (fun h2=>?_) fun h2=>?_
 conv=>cbv
 refine .go i9.toNat hnames fun ad e3 ae=>?_
 conv=>cbv
 refine .one (⟨1,e3,tx [],tx []⟩:TOp) ac rfl fun af z4 ak ag=>?_
 conv=>cbv
 refine .add fun v5 an=>?_
 conv=>cbv
 exact .go [4] (v5,z4,af) (hJ _ ⟨_,ag,Gw,by omega,by omega,by rw[hw,show v5.toNat=i9.toNat+1 by omega,Q2 ad,←ae];rfl,by rw[List.length_append,List.length_singleton];omega⟩ mlt)
 conv=>cbv
 refine .go fun v3 ao=>?_
 conv=>cbv
 refine .gtr (fun h4=>?_) fun h4=>?_
 conv=>cbv
 refine .one (⟨6,tx [],tx [],tx []⟩:TOp) ac rfl fun ah z5 al ai=>?_
 conv=>cbv
 have e:(w2++[(⟨6,tx [],tx [],tx []⟩:TOp)])=Fq names:=(by unfold Fq;rw[if_neg (by intro e;subst e;simp at h1;omega),hw,List.take_of_length_le (by omega)])
 rw[hr]at e
 subst e
 obtain rfl:z5=xo:=by rw[←ai,←ho]
 obtain rfl:ah=no:=by first|omega|(rw[hno];simp;done)|(rw[hno];simp;omega)
 exact hQ _ _ (.of [4] (.inl rfl) rfl rfl rfl rfl)
 conv=>cbv
 have e:w2=Fq names:=(by unfold Fq;rw[if_pos (List.eq_nil_of_length_eq_zero (by omega))];exact List.eq_nil_of_length_eq_zero (by omega))
 rw[hr]at e
 subst e
 obtain rfl:aa=xo:=by rw[←ac,←ho]
 obtain rfl:ab=no:=by first|omega|(rw[hno];simp;done)|(rw[hno];simp;omega)
 exact hQ _ _ (.of [2] (.inl rfl) rfl rfl rfl rfl)
theorem Fb:Setup Tryz.prog ((3000003,Ex Tryz.prog 3000003)::Q3):=(Setup.mark 3000003 Qc)
theorem Jo{l:List ByteArray}{xl:List (List D)}{nl:Nat}{xf:List (List D)}(hl:l.map cS=xl)(hnl:nl=l.length)(hn:l.length<2^40)(hf:l.reverse.map cS=xf):Fn Tryz.prog 278 [.ref 0 0 nl] [.row 1 false xl] ⟨.tup [],[],[(0,.row 1 false xf)]⟩:=by
 refine Fn.goR Fb Tryz.func278 fun P hP Q hQ=>?_
 conv=>cbv
 refine .go fun v1 ay=>?_
 conv=>cbv
 refine .sub fun v2 az=>?_
 conv=>cbv
 refine LoopW.lp (κ:=Int×Int×(List (List D))) Fb hP [] [0] (fun(i2,i3,aa)=>[(2,I i2),(3,I i3)]) (fun(i2,i3,aa)=>[(0,.row 1 false aa)])
  (fun(i2,i3,aa)=>∃(w0:List ByteArray),w0.map cS=aa∧(w0.length=l.length∧0≤i2∧i2+i3=l.length - 1∧i2≤i3+1)∧∀k:Nat,k<l.length→w0[k]? =if(k:Int)<i2∨i3<k then l[l.length - 1 - k]? else l[k]?)
  (fun(i2,i3,aa)=>(i3 - i2+1).toNat) (0,v2,xl) ⟨l,hl,⟨rfl,by omega,by omega,by omega⟩,fun k hk=>by rw[if_neg (by omega)]⟩ ⟨rfl,rfl,trivial⟩ rfl ?_
 rintro⟨i2,i3,aa⟩ J ⟨w0,ab,hb,hw⟩ hJ
 conv=>cbv
 refine .lss (fun h3=>?_) fun h3=>?_
 conv=>cbv
 refine .go i3.toNat fun p4 ag ao=>?_
 conv=>cbv
 refine .go ab fun ap e5 ah=>?_
 conv=>cbv
 refine .go i2.toNat fun p6 ai aq=>?_
 conv=>cbv
 refine .go ab fun ar e7 aj=>?_
 conv=>cbv
 refine .go i2.toNat fun p8 ak au=>?_
 conv=>cbv
 refine .all (e5) ab rfl fun z9 al=>?_
 conv=>cbv
 refine .go i3.toNat fun a1 ac am=>?_
 conv=>cbv
 have hls:(w0.set p8 e5).length=w0.length:=List.length_set
 refine .all (e7) al rfl fun an ad=>?_
 conv=>cbv
 refine .go2 (by kernel_rfl) ?_
 conv=>cbv
 refine .add fun ae aw=>?_
 conv=>cbv
 refine .sub fun af ax=>?_
 conv=>cbv
 subst ak ac
 exact .go [] (ae,af,an) (hJ _ ⟨_,ad,⟨by rw[List.length_set,List.length_set];exact hb.1,by omega,by omega,by omega⟩,by have:=Xj6 hb.1 (by omega) hb.2.2.1 h3 hw (a:=e5) (b:=e7) (by subst ag;rw[ah];exact List.getElem?_eq_getElem _) (by subst ai;rw[aj];exact List.getElem?_eq_getElem _);rw[show ae=i2+1 by omega,show af=i3 - 1 by omega];exact this⟩ mlt)
 conv=>cbv
 have e:=Xli hb.1 hb.2.2.1 (by omega) hw
 subst e
 obtain rfl:aa=xf:=by rw[←ab,←hf]
 exact hQ _ _ (.of [] (.inr rfl) rfl rfl rfl rfl)
theorem H8:Setup Tryz.prog ((1000090,Ex Tryz.prog 1000090)::((1000054,Ex Tryz.prog 1000054)::Q3)):=(Setup.mark 1000090 (Setup.mark 1000054 Qc))
theorem XfZ(Ak:Ae.map A8=A3)(Al:Ag.map Ac=A2)(Ao:Ah.map Ac=A1)(An:Af.map cS=A4)(hd:okD ⟨Ae,Ag,Ah,Af,Aj,Ai⟩)(hr:Fo (⟨Ae,Ag,Ah,Af,Aj,Ai⟩:Aa) version=o)(ho:o.map eOp=xo):Fn Tryz.prog 208 [.agg [.d (.row 3 A3),.d (.row 2 A2),.d (.row 2 A1),.d (.row 1 A4),I Aj,I Ai],I version] [] ⟨.d (.row 4 xo),[],[]⟩:=by
 refine Fn.go H8 Tryz.func208 fun P hP Q hQ=>?_
 conv=>cbv
 generalize bi:J0 (⟨Ae,Ag,Ah,Af,Aj,Ai⟩:Aa)=l1
 generalize bm:l1.map XgB=d2
 refine .dd hP (Xah Ak Al Ao An hd bi bm) ?_
 conv=>cbv
 refine .go bm fun v2 d3=>?_
 conv=>cbv
 refine LoopW.lp (κ:=Int×(List (List D))×Nat) H8 hP [2] [1,2,6,23,24] (fun(ai,a1,a2)=>[(5,.ref 3 0 a2),(25,I ai)]) (fun(ai,a1,a2)=>[(3,.row 4 false a1)])
  (fun(ai,a1,a2)=>∃(w3:List TOp),w3.map eOp=a1∧a2=w3.length∧0≤ai∧ai≤l1.length∧w3=(l1.take ai.toNat).flatMap fun x=>G5 (⟨Ae,Ag,Ah,Af,Aj,Ai⟩:Aa) x.base_)
  (fun(ai,a1,a2)=>(l1.length - ai).toNat) (0,[],0) ⟨[],rfl,rfl,by omega,by omega,by simp⟩ ⟨rfl,rfl,trivial⟩ rfl ?_
 rintro⟨ai,a1,a2⟩ J ⟨w3,b5,dq,h0,h1,hx⟩ hJ
 have b9:=Jb bi
 have hwb:=Xkw (fun x:Td=>Rx x.base_) hx
 conv=>cbv
 refine .lss (fun h3=>?_) fun h3=>?_
 conv=>cbv
 refine .goX ai.toNat bm fun ca ⟨aj,ci,⟨bn,⟨au,aw,ax,ay⟩,ap,aq,bj,bk⟩⟩ fe4 cw hfe4=>?_
 replace hfe4:[.sc (.int .i64 aj),.sc (.string ci),.sc (.bool bn),.sc (.int .i64 au),.sc (.int .i64 aw),.sc (.int .i64 ax),.sc (.int .i64 ay),.row 1 (ap.map cS),.row 1 (aq.map cI),.sc (.int .i64 bj),.sc (.bool bk)]=fe4:=hfe4
 generalize cj:ap.map cS=ck at hfe4
 generalize cm:aq.map cI=cn at hfe4
 subst hfe4
 conv=>cbv
 generalize b6:Ap aj=r5
 refine .dd hP (Ha b6) ?_
 conv=>cbv
 rcases co:Fl (⟨Ae,Ag,Ah,Af,Aj,Ai⟩:Aa) r5 with⟨⟨c7,c5,c6⟩,d4⟩
 refine .dd hP (Xe1 Ak Al Ao An hd co) ?_
 conv=>cbv
 refine .go fun v7 cx=>?_
 conv=>cbv
 refine .neq (fun h8=>?_) fun h8=>?_
 conv=>cbv
 generalize a6:Ap aj=r9
 refine .dd hP (Ha a6) ?_
 conv=>cbv
 refine .one (⟨4,r9,tx [],tx []⟩:TOp) b5 rfl fun a7 bo bp a8=>?_
 conv=>cbv
 refine .add fun ao cb=>?_
 conv=>cbv
 have hso:G5 (⟨Ae,Ag,Ah,Af,Aj,Ai⟩:Aa) aj=[⟨4,r9,tx [],tx []⟩]:=by unfold G5;rw[b6,co,←a6,b6,if_neg (by rw[←cx];exact h8)]
 exact .go [9] (ao,bo,a7) (hJ _ ⟨_,a8,Gw,by omega,by omega,by rw[show ao.toNat=ai.toNat+1 by omega,Gl ca,←hx,←cw];simp only[];rw[hso]⟩ mlt)
 conv=>cbv
 refine .add fun v9 c8=>?_
 conv=>cbv
 have hso:G5 (⟨Ae,Ag,Ah,Af,Aj,Ai⟩:Aa) aj=[]:=by unfold G5;rw[b6,co,if_pos (by rw[←cx];exact h8)]
 exact .go [3] (v9,a1,a2) (hJ _ ⟨_,b5,Gw,by omega,by omega,by rw[show v9.toNat=ai.toNat+1 by omega,Gl ca,←hx,←cw];simp only[];rw[hso,List.append_nil]⟩ mlt)
 conv=>cbv
 have hS:w3=(Dm (⟨Ae,Ag,Ah,Af,Aj,Ai⟩:Aa)).flatMap (G5 (⟨Ae,Ag,Ah,Af,Aj,Ai⟩:Aa)):=by rw[hx,List.take_of_length_le (by omega),←R4 (fun x=>G5 (⟨Ae,Ag,Ah,Af,Aj,Ai⟩:Aa) x.base_) _ fun x _ _=>rfl,bi]
 have d5:=Xkw (fun x:Td=>Rx x.base_) hx
 refine JoinW.jn (κ:=(List (List D))×Nat) H8 hP [3] [1,2,6] (fun(bq,bt)=>[(5,.ref 4 0 bt)]) (fun(bq,bt)=>[(4,.row 4 false bq)])
  (fun(bq,bt)=>∃(w4:List TOp),w4.map eOp=bq∧bt=w4.length∧w4=Zx (⟨Ae,Ag,Ah,Af,Aj,Ai⟩:Aa)∧w4.length≤17) (fun Jj1 hJj1=>?_) ?_
 conv=>cbv
 refine .go An fun v4 cy=>?_
 conv=>cbv
 refine .gtr (fun h5=>?_) fun h5=>?_
 conv=>cbv
 refine .one (⟨6,tx [],tx [],tx []⟩:TOp) b5 rfl fun c9 z6 dr da=>?_
 conv=>cbv
 exact .go [6] (z6,c9) (hJj1 _ ⟨_,da,Gw,by unfold Zx;rw[←hS,if_neg (by intro e;rw[show Af=[]from e]at cy;simp at cy;omega)],by simp;omega⟩)
 conv=>cbv
 exact .go [4] (a1,a2) (hJj1 _ ⟨_,b5,Gw,by unfold Zx;rw[←hS,if_pos (List.eq_nil_of_length_eq_zero (show Af.length=0 by omega)),List.append_nil],by omega⟩)
 rintro⟨bq,bt⟩ ⟨w4,db,ds,hA,hAl⟩
 conv=>cbv
 have dc:=b9
 generalize bu:Ci (⟨Ae,Ag,Ah,Af,Aj,Ai⟩:Aa)=l4
 generalize cp:l4.map cS=d6
 refine .dd hP (Xca Ak Al Ao An hd bu cp) ?_
 conv=>cbv
 refine .go cp fun v5 d7=>?_
 conv=>cbv
 refine LoopW.lp (κ:=Int×(List (List D))×Nat×(List (List D))×Nat) H8 hP [5,6] [1,5,6,62,63] (fun(i64,ba,bb,bc,bd)=>[(11,.ref 7 0 bb),(12,.ref 8 0 bd),(64,I i64)]) (fun(i64,ba,bb,bc,bd)=>[(7,.row 1 false ba),(8,.row 1 false bc)])
  (fun(i64,ba,bb,bc,bd)=>∃(w7:List ByteArray) (w8:List ByteArray),w7.map cS=ba∧bb=w7.length∧w8.map cS=bc∧bd=w8.length∧(0≤i64∧i64≤l4.length)∧w7=(l4.take i64.toNat).filter Hj∧w8=(l4.take i64.toNat).filter (fun n=>!Hj n)∧w7.length+w8.length≤i64)
  (fun(i64,ba,bb,bc,bd)=>(l4.length - i64).toNat) (0,[],0,[],0) ⟨[],[],rfl,rfl,rfl,rfl,by omega,rfl,rfl,by simp⟩ ⟨rfl,rfl,rfl,trivial⟩ rfl ?_
 rintro⟨i64,ba,bb,bc,bd⟩ J2 ⟨w7,w8,b7,dt,cq,du,h0,hwt,hwu,hwl⟩ cz
 have de:=Zs hd bu
 conv=>cbv
 refine .lss (fun h6=>?_) fun h6=>?_
 conv=>cbv
 refine .go i64.toNat cp fun bg e7 bv=>?_
 conv=>cbv
 have hsz7:=Z7 hd bu e7 (bv▸List.getElem_mem _)
 rcases cr:A5 e7 with⟨d8,d9⟩
 refine .dd hP (Tf (by omega) cr) ?_
 conv=>cbv
 refine .eql (fun h9=>?_) fun h9=>?_
 conv=>cbv
 refine .one e7 b7 rfl fun a7 bo bp a8=>?_
 conv=>cbv
 refine .add fun ao cb=>?_
 conv=>cbv
 have hte:Hj e7=true:=by unfold Hj;rw[cr];exact decide_eq_true h9
 exact .go [10,8] (ao,bo,a7,bc,bd) (cz _ ⟨_,_,a8,Gw,cq,Gw,by omega,by rw[show ao.toNat=i64.toNat+1 by omega,Do bg,←hwt,←bv,hte];simp,by rw[show ao.toNat=i64.toNat+1 by omega,Do bg,←hwu,←bv,hte];simp,by simp;omega⟩ mlt)
 conv=>cbv
 refine .one e7 cq rfl fun a7 bo bp a8=>?_
 conv=>cbv
 refine .add fun ao cb=>?_
 conv=>cbv
 have hte:Hj e7=false:=by unfold Hj;rw[cr];exact decide_eq_false h9
 exact .go [7,10] (ao,ba,bb,bo,a7) (cz _ ⟨_,_,b7,Gw,a8,Gw,by omega,by rw[show ao.toNat=i64.toNat+1 by omega,Do bg,←hwt,←bv,hte];simp,by rw[show ao.toNat=i64.toNat+1 by omega,Do bg,←hwu,←bv,hte];simp,by simp;omega⟩ mlt)
 conv=>cbv
 have hT:w7=l4.filter Hj:=by rw[hwt,List.take_of_length_le (by omega)]
 have hU:w8=l4.filter (fun n=>!Hj n):=by rw[hwu,List.take_of_length_le (by omega)]
 have hTl:=List.length_filter_le Hj l4
 have hUl:=List.length_filter_le (fun n=>!Hj n) l4
 rw[←hT]at hTl
 rw[←hU]at hUl
 generalize ct:Fq w7=l7
 generalize cu:l7.map eOp=ea
 obtain⟨nl7,hnl7⟩:∃m,m=l7.length:=⟨_,rfl⟩
 refine .lntR hP (Xs b7 (by omega) ct cu hnl7) (.ref rfl (by rw[←b7,List.length_map];first|omega|(simp;omega)) .nil) (cu▸Pi (fun _=>rfl) l7) ?_
 conv=>cbv
 have hrl7:l7.length≤w7.length+1:=by rw[←ct];exact M7
 refine .sub (m:=l7) db cu fun df z8 dv dg=>?_
 conv=>cbv
 refine JoinW.jn (κ:=Int) H8 hP [] [5,6,12] (fun i1=>[(1,I i1)]) (fun i1=>[])
  (fun i1=>i1=W6 version∧0≤i1∧i1≤2) (fun Jj3 hJj3=>?_) ?_
 conv=>cbv
 generalize a6:C7 version=r9
 refine .dd hP (K8 a6) ?_
 cases r9
 simp only[C7,decide_eq_true_eq,decide_eq_false_iff_not]at a6
 conv=>cbv
 exact .go [] (0) (hJj3 _ ⟨by unfold W6;rw[if_neg a6],by omega,by omega⟩)
 simp only[C7,decide_eq_true_eq,decide_eq_false_iff_not]at a6
 conv=>cbv
 exact .go [] (version) (hJj3 _ ⟨by unfold W6;rw[if_pos a6],by omega,by omega⟩)
 rintro i1 ⟨hV,hV0,hV2⟩
 conv=>cbv
 refine .go bm fun v9 c8=>?_
 conv=>cbv
 refine LoopW.lp (κ:=Int×(List (List D))×Nat) H8 hP [10] [1,12,91,92] (fun(ah,ak,al)=>[(5,.ref 11 0 al),(93,I ah)]) (fun(ah,ak,al)=>[(11,.row 4 false ak)])
  (fun(ah,ak,al)=>∃(be:List TOp),be.map eOp=ak∧al=be.length∧(0≤ah∧ah≤l1.length)∧be=w4++l7++((l1.take ah.toNat).flatMap fun x=>E8 (⟨Ae,Ag,Ah,Af,Aj,Ai⟩:Aa) i1 x.base_)∧be.length≤w4.length+l7.length+5*ah)
  (fun(ah,ak,al)=>(l1.length - ah).toNat) (0,z8,df) ⟨(w4++l7),dg,(by first|omega|(simp;omega)),by omega,by simp,by simp⟩ ⟨rfl,rfl,trivial⟩ rfl ?_
 rintro⟨ah,ak,al⟩ J4 ⟨be,bw,dh,h0,hx,hxl⟩ c0
 have b9:=Jb bi
 have de:=Zs hd bu
 conv=>cbv
 refine .lss (fun h10=>?_) fun h10=>?_
 conv=>cbv
 refine .goX ah.toNat bm fun bz ⟨ag,az,⟨ar,⟨aa,ab,ac,ad⟩,ae,af,am,an⟩⟩ fe11 b0 hfe11=>?_
 replace hfe11:[.sc (.int .i64 ag),.sc (.string az),.sc (.bool ar),.sc (.int .i64 aa),.sc (.int .i64 ab),.sc (.int .i64 ac),.sc (.int .i64 ad),.row 1 (ae.map cS),.row 1 (af.map cI),.sc (.int .i64 am),.sc (.bool an)]=fe11:=hfe11
 generalize cc:ae.map cS=cd at hfe11
 generalize ce:af.map cI=cf at hfe11
 subst hfe11
 conv=>cbv
 have hm:=Mk bi (x:=⟨ag,az,⟨ar,⟨aa,ab,ac,ad⟩,ae,af,am,an⟩⟩) (by rw[b0];exact List.getElem_mem _)
 obtain⟨b8,di,s9,dj⟩:=hm
 simp only[]at b8 di dj
 have hz:=Gk hd b8.symm
 generalize bh:C5 az i1=dk
 have zr12:=Qr bh
 refine .dd hP (Xf7 (by omega) bh) ?_
 conv=>cbv
 refine .neq (fun h13=>?_) fun h13=>?_
 conv=>cbv
 generalize b2:Gg ag dk=cv
 generalize cg:cv.map eOp=dw
 refine .dd hP (XgD b2 cg) ?_
 conv=>cbv
 have dl:cv.length=5:=by rw[←b2];rfl
 refine .row bw cg fun c1 dm dn c2=>?_
 conv=>cbv
 refine .add fun c3 dx=>?_
 conv=>cbv
 have hfo:E8 (⟨Ae,Ag,Ah,Af,Aj,Ai⟩:Aa) i1 ag=cv:=by unfold E8;rw[←b8,bh,if_neg h13,b2]
 exact .go [15] (c3,dm,c1) (c0 _ ⟨_,c2,Gw,by omega,by rw[show c3.toNat=ah.toNat+1 by omega,Gl bz,←List.append_assoc,←hx,←b0];simp only[];rw[hfo],by rw[List.length_append];omega⟩ mlt)
 conv=>cbv
 refine .add fun c4 dy=>?_
 conv=>cbv
 have hfo:E8 (⟨Ae,Ag,Ah,Af,Aj,Ai⟩:Aa) i1 ag=[]:=by unfold E8;rw[←b8,bh,if_pos h13]
 exact .go [11] (c4,ak,al) (c0 _ ⟨_,bw,Gw,by omega,by rw[show c4.toNat=ah.toNat+1 by omega,Gl bz,←List.append_assoc,←hx,←b0];simp only[];rw[hfo,List.append_nil],by omega⟩ mlt)
 conv=>cbv
 have hrv:w8.reverse.length=w8.length:=List.length_reverse
 generalize bf:(w8.reverse).map cS=dz
 refine .bx [8] [] hP (Jo cq (by first|rfl|omega|(simp;omega)) (by omega) bf) rfl rfl rfl rfl ?_
 conv=>cbv
 generalize b3:Fq (w8.reverse)=bl
 generalize b4:bl.map eOp=d0
 obtain⟨nl13,hnl13⟩:∃m,m=bl.length:=⟨_,rfl⟩
 refine .lntR hP (Xs bf (by omega) b3 b4 hnl13) (.ref rfl (by rw[←bf,List.length_map];first|omega|(simp;omega)) .nil) (b4▸Pi (fun _=>rfl) bl) ?_
 conv=>cbv
 have hrl13:bl.length≤w8.length+1:=by rw[←b3];have:=M7 (l:=w8.reverse);rw[List.length_reverse]at this;exact this
 have hF:be=w4++l7++(Dm (⟨Ae,Ag,Ah,Af,Aj,Ai⟩:Aa)).flatMap (E8 (⟨Ae,Ag,Ah,Af,Aj,Ai⟩:Aa) i1):=by rw[hx,List.take_of_length_le (by omega),←R4 (fun x=>E8 (⟨Ae,Ag,Ah,Af,Aj,Ai⟩:Aa) i1 x.base_) _ fun x _ _=>rfl,bi]
 refine .sub (m:=bl) bw b4 fun d1 eb dp ch=>?_
 conv=>cbv
 have e:(be++bl)=Fo (⟨Ae,Ag,Ah,Af,Aj,Ai⟩:Aa) version:=(by unfold Fo Xau;rw[hF,hA,←ct,←b3,hT,hU,hV,bu])
 rw[hr]at e
 subst e
 exact hQ _ _ (.r rfl rfl (by rw[←ch,List.length_map];first|omega|(simp;omega)) (by rw[←ch,←ho]))
theorem XgZ{α:Type}{p:α→Bool}{l:List α}{i:Int}(h0:0≤i)(hi:i.toNat<l.length):(l.drop (i - 1+1).toNat).reverse.filter p=(l.drop (i+1).toNat).reverse.filter p++(if p l[i.toNat]then[l[i.toNat]]else[]):=by
 rw[show(i - 1+1).toNat=i.toNat by omega,show(i+1).toNat=i.toNat+1 by omega,List.drop_eq_getElem_cons hi,List.reverse_cons,List.filter_append,List.filter_cons,List.filter_nil]
theorem Ux{l:List ByteArray}(h:false= !l.isEmpty):Fq l=l.map M0:=by
 have:l=[]:=by cases l with
  |nil=>rfl
  |cons=>cases h
 subst this
 rfl
theorem T5{l:List ByteArray}(h:true= !l.isEmpty):Fq l=l.map M0++[⟨6,tx [],tx [],tx []⟩]:=by
 unfold Fq
 rw[if_neg]
 rintro rfl
 cases h
theorem XiP{d:Aa}{l:List ByteArray}{n:ByteArray}(e:Ci d=l)(hn:n∈l):(A5 n).1=1↔Hj n=false:=by
 have:=Xy e n hn
 unfold Hj
 rw[decide_eq_false_iff_not]
 omega
theorem F0:Setup Tryz.prog ((1000095,Ex Tryz.prog 1000095)::((1000088,Ex Tryz.prog 1000088)::((1000057,Ex Tryz.prog 1000057)::Q3))):=(Setup.mark 1000095 (Setup.mark 1000088 (Setup.mark 1000057 Qc)))
theorem Xe6(Ak:Ae.map A8=A3)(Al:Ag.map Ac=A2)(Ao:Ah.map Ac=A1)(An:Af.map cS=A4)(hd:okD ⟨Ae,Ag,Ah,Af,Aj,Ai⟩)(hr:Fo (⟨Ae,Ag,Ah,Af,Aj,Ai⟩:Aa) version=o)(ho:o.map eOp=xo):Fn Tryz.prog 127 [.agg [.d (.row 3 A3),.d (.row 2 A2),.d (.row 2 A1),.d (.row 1 A4),I Aj,I Ai],I version] [] ⟨.d (.row 4 xo),[],[]⟩:=by
 refine Fn.go F0 Tryz.func127 fun P hP Q hQ=>?_
 conv=>cbv
 generalize aw:Dm (⟨Ae,Ag,Ah,Af,Aj,Ai⟩:Aa)=l1
 generalize ax:l1.map cI=d5
 refine .dd hP (V8 Ak Al Ao An hd aw ax) ?_
 conv=>cbv
 refine LoopW.lp (κ:=Int×(List (List D))×Nat) F0 hP [2] [1,2,6] (fun(i7,af,ag)=>[(5,.ref 3 0 ag),(7,I i7)]) (fun(i7,af,ag)=>[(3,.row 4 false af)])
  (fun(i7,af,ag)=>∃(w3:List TOp),w3.map eOp=af∧ag=w3.length∧0≤i7∧i7≤l1.length∧w3=(l1.take i7.toNat).flatMap (G5 (⟨Ae,Ag,Ah,Af,Aj,Ai⟩:Aa)))
  (fun(i7,af,ag)=>(l1.length - i7).toNat) (0,[],0) ⟨[],rfl,rfl,by omega,by omega,by simp⟩ ⟨rfl,rfl,trivial⟩ rfl ?_
 rintro⟨i7,af,ag⟩ J ⟨w3,bf,dl,h0,h1,hx⟩ hJ
 have bh:=Gh aw
 have hwb:=Xkw (fun x=>Rx x) hx
 conv=>cbv
 refine .go ax fun v2 d6=>?_
 conv=>cbv
 refine .lss (fun h3=>?_) fun h3=>?_
 conv=>cbv
 refine .go i7.toNat ax fun bi e4 b6=>?_
 conv=>cbv
 generalize bo:Ap e4=r5
 refine .dd hP (If bo) ?_
 conv=>cbv
 rcases bp:Fl (⟨Ae,Ag,Ah,Af,Aj,Ai⟩:Aa) r5 with⟨⟨cv,ct,cu⟩,d7⟩
 refine .dd hP (XfY Ak Al Ao An hd bp) ?_
 conv=>cbv
 refine .go fun v7 bq=>?_
 conv=>cbv
 refine .neq (fun h8=>?_) fun h8=>?_
 conv=>cbv
 refine .one (⟨4,r5,tx [],tx []⟩:TOp) bf rfl fun cw z9 dm cx=>?_
 conv=>cbv
 refine .add fun ah bj=>?_
 conv=>cbv
 have hso:G5 (⟨Ae,Ag,Ah,Af,Aj,Ai⟩:Aa) e4=[⟨4,r5,tx [],tx []⟩]:=by unfold G5;rw[bo,bp,if_neg (by rw[←bq];exact h8)]
 exact .go [6] (ah,z9,cw) (hJ _ ⟨_,cx,Gw,by omega,by omega,by rw[show ah.toNat=i7.toNat+1 by omega,Gl bi,←hx,←b6,hso]⟩ mlt)
 conv=>cbv
 refine .add fun v9 cy=>?_
 conv=>cbv
 have hso:G5 (⟨Ae,Ag,Ah,Af,Aj,Ai⟩:Aa) e4=[]:=by unfold G5;rw[bo,bp,if_pos (by rw[←bq];exact h8)]
 exact .go [3] (v9,af,ag) (hJ _ ⟨_,bf,Gw,by omega,by omega,by rw[show v9.toNat=i7.toNat+1 by omega,Gl bi,←hx,←b6,hso,List.append_nil]⟩ mlt)
 conv=>cbv
 have hS:w3=(Dm (⟨Ae,Ag,Ah,Af,Aj,Ai⟩:Aa)).flatMap (G5 (⟨Ae,Ag,Ah,Af,Aj,Ai⟩:Aa)):=by rw[hx,List.take_of_length_le (by omega),aw]
 have d8:=Xkw (fun x=>Rx x) hx
 refine JoinW.jn (κ:=(List (List D))×Nat) F0 hP [3] [1,2,6] (fun(ay,az)=>[(5,.ref 4 0 az)]) (fun(ay,az)=>[(4,.row 4 false ay)])
  (fun(ay,az)=>∃(w4:List TOp),w4.map eOp=ay∧az=w4.length∧w4=Zx (⟨Ae,Ag,Ah,Af,Aj,Ai⟩:Aa)∧w4.length≤17) (fun Jj1 hJj1=>?_) ?_
 conv=>cbv
 refine .go An fun v4 b7=>?_
 conv=>cbv
 refine .gtr (fun h5=>?_) fun h5=>?_
 conv=>cbv
 refine .one (⟨6,tx [],tx [],tx []⟩:TOp) bf rfl fun cz z6 dn c0=>?_
 conv=>cbv
 exact .go [6] (z6,cz) (hJj1 _ ⟨_,c0,Gw,by unfold Zx;rw[←hS,if_neg (by intro e;rw[show Af=[]from e]at b7;simp at b7;omega)],by simp;omega⟩)
 conv=>cbv
 exact .go [4] (af,ag) (hJj1 _ ⟨_,bf,Gw,by unfold Zx;rw[←hS,if_pos (List.eq_nil_of_length_eq_zero (show Af.length=0 by omega)),List.append_nil],by omega⟩)
 rintro⟨ay,az⟩ ⟨w4,c1,dp,hA,hAl⟩
 conv=>cbv
 have c2:=bh
 generalize ad:Ci (⟨Ae,Ag,Ah,Af,Aj,Ai⟩:Aa)=l4
 generalize an:l4.map cS=d9
 refine .dd hP (XbJ Ak Al Ao An hd ad an) ?_
 conv=>cbv
 refine LoopW.lp (κ:=Bool×Int×(List (List D))×Nat) F0 hP [4] [1,2,6,11] (fun(ae,ab,ai,aj)=>[(5,.ref 5 0 aj),(12,B ae),(13,I ab)]) (fun(ae,ab,ai,aj)=>[(5,.row 4 false ai)])
  (fun(ae,ab,ai,aj)=>∃(w5:List TOp),w5.map eOp=ai∧aj=w5.length∧(0≤ab∧ab≤l4.length)∧w5=w4++((l4.take ab.toNat).filter Hj).map M0∧ae= !((l4.take ab.toNat).filter Hj).isEmpty∧w5.length≤w4.length+ab)
  (fun(ae,ab,ai,aj)=>(l4.length - ab).toNat) (false,0,ay,az) ⟨w4,c1,(by first|omega|(simp;omega)),by omega,by simp,rfl,by simp⟩ ⟨rfl,rfl,rfl,trivial⟩ rfl ?_
 rintro⟨ae,ab,ai,aj⟩ J2 ⟨w5,bg,dq,h0,hwt,hwb,hwl⟩ b8
 have b9:=Zs hd ad
 conv=>cbv
 refine .go an fun v5 ea=>?_
 conv=>cbv
 refine .lss (fun h6=>?_) fun h6=>?_
 conv=>cbv
 refine .go ab.toNat an fun aq e7 a1=>?_
 conv=>cbv
 have hsz7:=Z7 hd ad e7 (a1▸List.getElem_mem _)
 rcases bt:A5 e7 with⟨eb,ec⟩
 refine .dd hP (Pd (by omega) bt) ?_
 conv=>cbv
 refine .eql (fun h9=>?_) fun h9=>?_
 conv=>cbv
 refine .go ab.toNat an fun c3 bu ca=>?_
 conv=>cbv
 have cb:bu=e7:=ca.trans a1.symm
 subst cb
 refine .one (⟨1,bu,tx [],tx []⟩:TOp) bg rfl fun cc c4 c5 cd=>?_
 conv=>cbv
 refine .add fun bv dr=>?_
 conv=>cbv
 have hte:Hj bu=true:=by unfold Hj;rw[bt];exact decide_eq_true h9
 exact .go [7] (true,bv,c4,cc) (b8 _ ⟨_,cd,Gw,by omega,by rw[show bv.toNat=ab.toNat+1 by omega,Do aq,←a1,hte,hwt];simp;rfl,by rw[show bv.toNat=ab.toNat+1 by omega,Do aq,←a1,hte];simp,by simp;omega⟩ mlt)
 conv=>cbv
 refine .add fun ah bj=>?_
 conv=>cbv
 have hte:Hj e7=false:=by unfold Hj;rw[bt];exact decide_eq_false h9
 exact .go [5] (ae,ah,ai,aj) (b8 _ ⟨_,bg,Gw,by omega,by rw[show ah.toNat=ab.toNat+1 by omega,Do aq,←a1,hte,hwt];simp,by rw[show ah.toNat=ab.toNat+1 by omega,Do aq,←a1,hte,hwb];simp,by omega⟩ mlt)
 conv=>cbv
 have hT:w5=w4++(l4.filter Hj).map M0:=by rw[hwt,List.take_of_length_le (by omega)]
 have hT2:ae= !(l4.filter Hj).isEmpty:=by rw[hwb,List.take_of_length_le (by omega)]
 have ds:=b9
 refine JoinW.jn (κ:=(List (List D))×Nat) F0 hP [5] [1,2,6,11] (fun(a2,a6)=>[(5,.ref 6 0 a6)]) (fun(a2,a6)=>[(6,.row 4 false a2)])
  (fun(a2,a6)=>∃(w6:List TOp),w6.map eOp=a2∧a6=w6.length∧w6=w4++Xau (⟨Ae,Ag,Ah,Af,Aj,Ai⟩:Aa)∧w6.length≤1073741900) (fun Jj3 hJj3=>?_) ?_
 conv=>cbv
 cases ae
 conv=>cbv
 exact .go [6] (ai,aj) (hJj3 _ ⟨_,bg,Gw,by unfold Xau;rw[ad,Ux hT2];exact hT,by omega⟩)
 conv=>cbv
 refine .one (⟨6,tx [],tx [],tx []⟩:TOp) bg rfl fun c6 z7 dt c7=>?_
 conv=>cbv
 exact .go [8] (z7,c6) (hJj3 _ ⟨_,c7,Gw,by unfold Xau;rw[ad,T5 hT2,←List.append_assoc,←hT],by simp;omega⟩)
 rintro⟨a2,a6⟩ ⟨w6,c8,du,hB,hBl⟩
 conv=>cbv
 refine JoinW.jn (κ:=Int) F0 hP [] [2,5,6,11] (fun i1=>[(1,I i1)]) (fun i1=>[])
  (fun i1=>i1=W6 version∧0≤i1∧i1≤2) (fun Jj4 hJj4=>?_) ?_
 conv=>cbv
 generalize bw:A6 version 1 2=r7
 refine .dd hP (Dr bw) ?_
 cases r7
 simp only[A6,decide_eq_true_eq,decide_eq_false_iff_not]at bw
 conv=>cbv
 exact .go [] (0) (hJj4 _ ⟨by unfold W6;rw[if_neg (by omega)],by omega,by omega⟩)
 simp only[A6,decide_eq_true_eq,decide_eq_false_iff_not]at bw
 conv=>cbv
 exact .go [] (version) (hJj4 _ ⟨by unfold W6;rw[if_pos (by omega)],by omega,by omega⟩)
 rintro i1 ⟨hV,hV0,hV2⟩
 conv=>cbv
 refine LoopW.lp (κ:=Int×(List (List D))×Nat) F0 hP [6] [1,2,6,11] (fun(ac,ak,al)=>[(5,.ref 7 0 al),(16,I ac)]) (fun(ac,ak,al)=>[(7,.row 4 false ak)])
  (fun(ac,ak,al)=>∃(w7:List TOp),w7.map eOp=ak∧al=w7.length∧(0≤ac∧ac≤l1.length)∧w7=w6++(l1.take ac.toNat).flatMap (E8 (⟨Ae,Ag,Ah,Af,Aj,Ai⟩:Aa) i1)∧w7.length≤w6.length+5*ac)
  (fun(ac,ak,al)=>(l1.length - ac).toNat) (0,a2,a6) ⟨w6,c8,(by first|omega|(simp;omega)),by omega,by simp,by simp⟩ ⟨rfl,rfl,trivial⟩ rfl ?_
 rintro⟨ac,ak,al⟩ J5 ⟨w7,bz,dv,h0,hx,hxl⟩ ce
 have bh:=Gh aw
 conv=>cbv
 refine .go ax fun v7 bq=>?_
 conv=>cbv
 refine .lss (fun h8=>?_) fun h8=>?_
 conv=>cbv
 refine .go ac.toNat ax fun bk e9 b0=>?_
 conv=>cbv
 generalize ar:Cn (⟨Ae,Ag,Ah,Af,Aj,Ai⟩:Aa) e9=c9
 refine .dd hP (Q7 Ak Al Ao An hd ar) ?_
 conv=>cbv
 have ed:=Gk hd ar
 generalize au:C5 c9 i1=da
 have zr11:=Qr au
 refine .dd hP (Xgs (by omega) au) ?_
 conv=>cbv
 refine .neq (fun h12=>?_) fun h12=>?_
 conv=>cbv
 refine .go ac.toNat ax fun db b2 cf=>?_
 conv=>cbv
 have cg:b2=e9:=cf.trans b0.symm
 subst cg
 generalize a7:Gg b2 da=b3
 generalize bl:b3.map eOp=dw
 refine .dd hP (Xf5 a7 bl) ?_
 conv=>cbv
 have dc:b3.length=5:=by rw[←a7];rfl
 refine .row bz bl fun ch de df ci=>?_
 conv=>cbv
 refine .add fun cj dx=>?_
 conv=>cbv
 have hfo:E8 (⟨Ae,Ag,Ah,Af,Aj,Ai⟩:Aa) i1 b2=b3:=by unfold E8;rw[ar,au,if_neg h12,a7]
 exact .go [8] (cj,de,ch) (ce _ ⟨_,ci,Gw,by omega,by rw[show cj.toNat=ac.toNat+1 by omega,Gl bk,←List.append_assoc,←hx,←b0,hfo],by rw[List.length_append];omega⟩ mlt)
 conv=>cbv
 refine .add fun ck dy=>?_
 conv=>cbv
 have hfo:E8 (⟨Ae,Ag,Ah,Af,Aj,Ai⟩:Aa) i1 e9=[]:=by unfold E8;rw[ar,au,if_pos h12]
 exact .go [7] (ck,ak,al) (ce _ ⟨_,bz,Gw,by omega,by rw[show ck.toNat=ac.toNat+1 by omega,Gl bk,←List.append_assoc,←hx,←b0,hfo,List.append_nil],by omega⟩ mlt)
 conv=>cbv
 refine .go an fun v9 cy=>?_
 conv=>cbv
 refine .sub fun ah bj=>?_
 conv=>cbv
 refine LoopW.lp (κ:=Bool×Int×(List (List D))×Nat) F0 hP [7] [11] (fun(am,aa,ao,ap)=>[(5,.ref 8 0 ap),(19,B am),(20,I aa)]) (fun(am,aa,ao,ap)=>[(8,.row 4 false ao)])
  (fun(am,aa,ao,ap)=>∃(w8:List TOp),w8.map eOp=ao∧ap=w8.length∧(-1≤aa∧aa<l4.length)∧w8=w7++((l4.drop (aa+1).toNat).reverse.filter (fun n=>!Hj n)).map M0∧am= !((l4.drop (aa+1).toNat).reverse.filter (fun n=>!Hj n)).isEmpty∧w8.length≤w7.length+(l4.length - 1 - aa))
  (fun(am,aa,ao,ap)=>(aa+1).toNat) (false,ah,ak,al) ⟨w7,bz,(by first|omega|(simp;omega)),by omega,by rw[List.drop_of_length_le (by omega)];simp,by rw[List.drop_of_length_le (by omega)];rfl,by omega⟩ ⟨rfl,rfl,rfl,trivial⟩ rfl ?_
 rintro⟨am,aa,ao,ap⟩ J6 ⟨w8,a8,dz,h0,hwv,hwc,hwl2⟩ cm
 have b9:=Zs hd ad
 conv=>cbv
 refine .geq (fun h11=>?_) fun h11=>?_
 conv=>cbv
 refine .go aa.toNat an fun dg ba bb=>?_
 conv=>cbv
 have bm:ba∈l4:=bb▸List.getElem_mem _
 have hsz12:=Z7 hd ad ba bm
 have hnt:=XiP ad bm
 have hrs:=XgZ (p:=(fun n=>!Hj n)) (l:=l4) (i:=aa) (by omega) (by omega)
 rw[←bb]at hrs
 rcases bc:A5 ba with⟨d0,d1⟩
 refine .dd hP (Pd (by omega) bc) ?_
 conv=>cbv
 refine .eql (fun h14=>?_) fun h14=>?_
 conv=>cbv
 refine .go aa.toNat an fun dh b4 cn=>?_
 conv=>cbv
 have b5:b4=ba:=cn.trans bb.symm
 subst b5
 refine .one (⟨1,b4,tx [],tx []⟩:TOp) a8 rfl fun co di dj cp=>?_
 conv=>cbv
 refine .sub fun cq d2=>?_
 conv=>cbv
 have hte:(!Hj b4)=true:=by rw[bc]at hnt;rw[hnt.1 h14];rfl
 rw[hte,if_pos rfl]at hrs
 have bd:cq=aa - 1:=by omega
 exact .go [10] (true,cq,di,co) (cm _ ⟨_,cp,Gw,by omega,by rw[bd,hrs,hwv];simp;rfl,by rw[bd,hrs];simp,by simp;omega⟩ mlt)
 conv=>cbv
 refine .sub fun cr d3=>?_
 conv=>cbv
 have hte:¬((!Hj ba)=true):=by intro hh;rw[bc]at hnt;exact h14 (hnt.2 (by simpa using hh))
 rw[if_neg hte,List.append_nil]at hrs
 have be:cr=aa - 1:=by omega
 exact .go [8] (am,cr,ao,ap) (cm _ ⟨_,a8,Gw,by omega,by rw[be,hrs,hwv],by rw[be,hrs,hwc],by omega⟩ mlt)
 conv=>cbv
 have hE:(l4.drop (aa+1).toNat).reverse.filter (fun n=>!Hj n)=(l4.filter (fun n=>!Hj n)).reverse:=by rw[show(aa+1).toNat=0 by omega,List.drop_zero,List.filter_reverse]
 rw[hE]at hwv hwc
 cases am
 conv=>cbv
 have hF:w7=w4++Xau (⟨Ae,Ag,Ah,Af,Aj,Ai⟩:Aa)++(Dm (⟨Ae,Ag,Ah,Af,Aj,Ai⟩:Aa)).flatMap (E8 (⟨Ae,Ag,Ah,Af,Aj,Ai⟩:Aa) (W6 version)):=by rw[hx,List.take_of_length_le (by omega),aw,←hV,←hB]
 have e:w8=Fo (⟨Ae,Ag,Ah,Af,Aj,Ai⟩:Aa) version:=(by unfold Fo;rw[ad,Ux hwc,←hA,←hF,hwv])
 rw[hr]at e
 subst e
 exact hQ _ _ (.r rfl rfl (by rw[←a8,List.length_map];first|omega|(simp;omega)) (by rw[←a8,←ho]))
 conv=>cbv
 refine .one (⟨6,tx [],tx [],tx []⟩:TOp) a8 rfl fun d4 ee dk bn=>?_
 conv=>cbv
 have hF:w7=w4++Xau (⟨Ae,Ag,Ah,Af,Aj,Ai⟩:Aa)++(Dm (⟨Ae,Ag,Ah,Af,Aj,Ai⟩:Aa)).flatMap (E8 (⟨Ae,Ag,Ah,Af,Aj,Ai⟩:Aa) (W6 version)):=by rw[hx,List.take_of_length_le (by omega),aw,←hV,←hB]
 have e:(w8++[(⟨6,tx [],tx [],tx []⟩:TOp)])=Fo (⟨Ae,Ag,Ah,Af,Aj,Ai⟩:Aa) version:=(by unfold Fo;rw[ad,T5 hwc,←hA,←hF,hwv,List.append_assoc])
 rw[hr]at e
 subst e
 exact hQ _ _ (.r rfl rfl (by rw[←bn,List.length_map];first|omega|(simp;omega)) (by rw[←bn,←ho]))
end
section
open Go Go.Proofs
set_option maxRecDepth 20000
set_option maxHeartbeats 4000000
def XcM:List (Nat×TyRow):=[ty3,ty5,ty9,Xf0,Xgx]
theorem XbB:Cb Tryz.prog XcM:=Cb.of (by kernel_rfl)
theorem Rq:Setup Tryz.prog XcM:=⟨XbB,mixed⟩
def fig(x:Int):UInt8:=UInt8.ofNat (if x<10 then 48+x.toNat else 87+x.toNat)
def Fd(x:Int):Int:=(if x<10 then 48+x else 97+x - 10)% 256
theorem Xis{x:Int}(h:0≤x∧x<16):((fig x).toNat:Int)=Fd x:=by
 unfold fig Fd
 split
 ·rw[UInt8.toNat_ofNat',Nat.mod_eq_of_lt (by omega)];omega
 ·rw[UInt8.toNat_ofNat',Nat.mod_eq_of_lt (by omega)];omega
theorem XfR{x r:Int}(hr:Fd x=r)(h:0≤x∧x<16):[D.sc (.int .u8 r)]=cB (fig x):=by
 show _=[D.sc (.int .u8 ((fig x).toNat:Int))]
 rw[Xis h,hr]
theorem fig10(n:Nat):fig ((n% 10:Nat):Int)=UInt8.ofNat (48+n% 10):=by
 unfold fig
 rw[if_pos (by omega),Int.toNat_natCast]
theorem It:∀(k u:Nat),u<10^ (k+1)→1≤(Lib.decDigits u).length∧(Lib.decDigits u).length≤k+1
 |0,u,h=>by rw[Lib.decDigits,dif_pos (by simpa using h)];simp
 |k+1,u,h=>by
  by_cases hn:u<10
  ·rw[Lib.decDigits,dif_pos hn];simp
  ·rw[Lib.decDigits,dif_neg hn]
   have:=It k (u/10) (by rw[Nat.pow_succ]at h;omega)
   simp;omega
def Xid(n:Nat):List UInt8:=if n=0 then[]else Lib.decDigits n
theorem Rw{n:Nat}(h:n≠0):Xid n=Xid (n/10)++[fig ((n% 10:Nat):Int)]:=by
 unfold Xid
 rw[if_neg h,Lib.decDigits,fig10]
 split
 ·rw[if_pos (by omega),Nat.mod_eq_of_lt (by omega)];rfl
 ·rw[if_neg (by omega)]
theorem Xfb{u:Nat}(h:u≤9223372036854775808):(Xid u).length≤19:=by
 unfold Xid
 split
 ·simp
 ·exact(It 18 u (by omega)).2
abbrev Zf(n:Int):Prop:=-9223372036854775808≤n∧n≤9223372036854775807
def Co(n:Int):ByteArray:=tx (Lib.itoa n)
def Xl5(n:Int):ByteArray:=Co n
theorem Xha(n:Int)(h:n≠0):Lib.itoa n=(if n<0 then[45]else[])++Xid n.natAbs:=by
 unfold Lib.itoa Xid
 rw[if_neg (show¬n.natAbs=0 by omega)]
 split
 ·rfl
 ·rw[show n.toNat=n.natAbs by omega];rfl
theorem Xke{n:Int}(h:Zf n):1≤(Lib.itoa n).length∧(Lib.itoa n).length≤20:=by
 unfold Zf at h
 unfold Lib.itoa
 split
 ·have:=It 18 n.natAbs (by omega)
  simp;omega
 ·have:=It 18 n.toNat (by omega)
  omega
theorem Sz{n:Int}{o:ByteArray}(e:Co n=o)(h:Zf n):1≤o.size∧o.size≤20:=by
 rw[←e]
 unfold Co
 rw[Bh]
 exact Xke h
theorem ArW.quoT{K:Int→Prop}{a:Int}(h:∀v,v=a.tdiv 10→K v)(hr: -9223372036854775808≤a∧a<9223372036854775808:=by omega):ArW .quo .i64 .i64 a 10 K:=by
 refine⟨a.tdiv 10,?_,h _ rfl⟩
 show(if(10:Int)=0 then none else some (Value.int .i64 (IntKind.i64.wrap (a.tdiv 10))))=_
 rw[if_neg (by decide),S8]
 rcases Int.le_total 0 a with h0|h0
 ·rw[Int.tdiv_eq_ediv_of_nonneg h0];omega
 ·have:a.tdiv 10= -((-a)/10):=by rw[←Int.tdiv_eq_ediv_of_nonneg (by omega),Int.neg_tdiv];omega
  omega
theorem ArW.remT{K:Int→Prop}{k:IntKind}{a:Int}(h:∀v,v=a.tmod 10→K v):ArW .rem k k a 10 K:=by
 refine⟨a.tmod 10,?_,h _ rfl⟩
 show(if k=k then(if(10:Int)=0 then none else some (Value.int k (a.tmod 10)))else none)=_
 rw[if_pos rfl,if_neg (by decide)]
theorem Xmr{a:Int}{q:Nat}(h:a= -(q:Int)):a.tdiv 10= -((q/10:Nat):Int):=by
 subst h
 rw[Int.neg_tdiv,Int.tdiv_eq_ediv_of_nonneg (by omega)]
 omega
theorem Xmj{a:Int}{q:Nat}(h:a= -(q:Int)):a.tmod 10= -((q% 10:Nat):Int):=by
 subst h
 rw[Int.neg_tmod,Int.tmod_eq_emod_of_nonneg (by omega)]
 omega
theorem XmM{a:Int}{q:Nat}(h:a=(q:Int)):a.tdiv 10=((q/10:Nat):Int):=by
 subst h
 rw[Int.tdiv_eq_ediv_of_nonneg (by omega)]
 omega
theorem Xmm{a:Int}{q:Nat}(h:a=(q:Int)):a.tmod 10=((q% 10:Nat):Int):=by
 subst h
 rw[Int.tmod_eq_emod_of_nonneg (by omega)]
 omega
variable {n:Int} {o:ByteArray}
theorem W9(hn:Zf n)(hr:Xl5 n=o):Fn Tryz.prog 216 [I n] [] ⟨S o,[],[]⟩:=by
 refine⟨Ey Tryz.func216 rfl rfl,CallOk.ofCallsG fun E vs hS hG hA=>?_⟩
 obtain⟨u,rfl,h1⟩:=Xjw hA
 rw[Pw h1]
 have ht:=Xlx hG
 refine(Tryz.strconv_Itoa n hn.1 hn.2 E.w ht).mono ?_
 rintro e w' ⟨rfl,k,os,rfl⟩
 exact⟨_,rfl,Lib.below_grow _ _ (Nat.le_refl _) k os,by rw[←hr];exact .sc _ rfl⟩
theorem M9{x:Int}{o:Int}(hx:0≤x∧x<16)(hr:Fd x=o):Fn Tryz.prog 136 [I x] [] ⟨.d (.sc (.int .u8 o)),[],[]⟩:=by
 refine Fn.go Rq Tryz.func136 fun P hP Q hQ=>?_
 conv=>cbv
 refine .lss (fun h1=>?_) fun h1=>?_
 conv=>cbv
 refine .add fun v2 aa=>?_
 conv=>cbv
 refine .go fun v3 ab=>?_
 conv=>cbv
 have e:v3=Fd x:=(by rw[ab,L6,aa];unfold Fd;rw[if_pos (by omega)])
 rw[hr]at e
 subst e
 exact hQ _ _ (.i rfl rfl)
 conv=>cbv
 refine .add fun v2 aa=>?_
 conv=>cbv
 refine .sub fun v3 ab=>?_
 conv=>cbv
 refine .go fun v4 ac=>?_
 conv=>cbv
 have e:v4=Fd x:=(by rw[ac,L6,ab,aa];unfold Fd;rw[if_neg (by omega)])
 rw[hr]at e
 subst e
 exact hQ _ _ (.i rfl rfl)
theorem XcZ(hn:Zf n)(hr:Co n=o):Fn Tryz.prog 144 [I n] [] ⟨S o,[],[]⟩:=by
 refine Fn.go Rq Tryz.func144 fun P hP Q hQ=>?_
 conv=>cbv
 generalize aa:Xl5 n=r1
 refine .dd hP (W9 hn aa) ?_
 conv=>cbv
 have e:r1=Co n:=(by exact aa.symm)
 rw[hr]at e
 subst e
 exact hQ _ _ (.s rfl rfl)
theorem XcB(hn:Zf n)(hr:Co n=o):Fn Tryz.prog 56 [I n] [] ⟨S o,[],[]⟩:=by
 refine Fn.go Rq Tryz.func56 fun P hP Q hQ=>?_
 conv=>cbv
 refine .eql (fun h1=>?_) fun h1=>?_
 conv=>cbv
 have e:(tx [48])=Co n:=(by unfold Co;rw[h1,show Lib.itoa 0=[48]by unfold Lib.itoa;rw[if_neg (by decide),Lib.decDigits];rfl])
 rw[hr]at e
 subst e
 exact hQ _ _ (.s rfl rfl)
 conv=>cbv
 refine .lss (fun h2=>?_) fun h2=>?_
 conv=>cbv
 refine LoopW.lp (κ:=Int×ByteArray) Rq hP [] [3] (fun(i0,s4)=>[(0,I i0),(4,S s4)]) (fun(i0,s4)=>[])
  (fun(i0,s4)=>∃(q:Nat) (w:List UInt8),s4=tx w∧Xid n.natAbs=Xid q++w∧q≤n.natAbs∧(n<0→i0= -(q:Int))∧(0≤n→i0=(q:Int)))
  (fun(i0,s4)=>i0.natAbs) (n,tx []) ⟨n.natAbs,[],rfl,by simp,by omega,by omega,by omega⟩ ⟨rfl,rfl,trivial⟩ rfl ?_
 rintro⟨i0,s4⟩ J ⟨q,w,aa,hw,hq,hiN,hiP⟩ hJ
 have hwl:=congrArg List.length hw
 rw[List.length_append]at hwl
 have hdl:=Xfb (u:=n.natAbs) (by unfold Zf at hn;omega)
 have ai:s4.size=w.length:=by rw[aa,Bh]
 have et:(n<0→i0.tdiv 10= -((q/10:Nat):Int))∧(0≤n→i0.tdiv 10=((q/10:Nat):Int)):=⟨fun h=>Xmr (hiN h),fun h=>XmM (hiP h)⟩
 have em:(n<0→i0.tmod 10= -((q% 10:Nat):Int))∧(0≤n→i0.tmod 10=((q% 10:Nat):Int)):=⟨fun h=>Xmj (hiN h),fun h=>Xmm (hiP h)⟩
 have hn_:=hn
 unfold Zf at hn_
 conv=>cbv
 refine .neq (fun h3=>?_) fun h3=>?_
 conv=>cbv
 refine .remT fun v4 ak=>?_
 conv=>cbv
 refine .lss (fun h5=>?_) fun h5=>?_
 conv=>cbv
 refine .go fun v6 al=>?_
 conv=>cbv
 generalize ad:Fd v6=r7
 refine .dd hP (M9 (by omega) ad) ?_
 conv=>cbv
 refine .go (l:=[fig ((q% 10:Nat):Int)]) (by show[cB (fig _)]=_;rw[show((q% 10:Nat):Int)=v6 by omega,←XfR ad (by omega)]) (hn:=rfl) fun s8 ab=>?_
 conv=>cbv
 have ag:s8.size=1:=by rw[ab];rfl
 refine .go fun s9 ae am=>?_
 conv=>cbv
 refine .quoT fun ah aj=>?_
 conv=>cbv
 exact .go [] (ah,s9) (hJ _ ⟨q/10,fig ((q% 10:Nat):Int)::w,by first|(rw[ae,ab,aa,Dt];rfl)|(rw[ab,ac,aa,Dt];rfl),by rw[hw,Rw (show q≠0 by omega),List.append_assoc];rfl,by omega,by omega,by omega⟩ mlt)
 conv=>cbv
 generalize af:Fd v4=r6
 refine .dd hP (M9 (by omega) af) ?_
 conv=>cbv
 refine .go (l:=[fig ((q% 10:Nat):Int)]) (by show[cB (fig _)]=_;rw[show((q% 10:Nat):Int)=v4 by omega,←XfR af (by omega)]) (hn:=rfl) fun s7 ac=>?_
 conv=>cbv
 have an:s7.size=1:=by rw[ac];rfl
 refine .go fun s8 ab ag=>?_
 conv=>cbv
 refine .quoT fun v9 ao=>?_
 conv=>cbv
 exact .go [] (v9,s8) (hJ _ ⟨q/10,fig ((q% 10:Nat):Int)::w,by first|(rw[ae,ab,aa,Dt];rfl)|(rw[ab,ac,aa,Dt];rfl),by rw[hw,Rw (show q≠0 by omega),List.append_assoc];rfl,by omega,by omega,by omega⟩ mlt)
 conv=>cbv
 refine .litL 1 fun s4 aa ai=>?_
 conv=>cbv
 have e:s4=Co n:=(by unfold Co;rw[Xha n h1,if_pos h2,hw,show q=0 by omega,aa];rename_i hs4_ _;rw[hs4_];show tx [45]++tx _=_;rw[Dt];rfl)
 rw[hr]at e
 subst e
 exact hQ _ _ (.s rfl rfl)
 conv=>cbv
 refine LoopW.lp (κ:=Int×ByteArray) Rq hP [] [3] (fun(i0,s4)=>[(0,I i0),(4,S s4)]) (fun(i0,s4)=>[])
  (fun(i0,s4)=>∃(q:Nat) (w:List UInt8),s4=tx w∧Xid n.natAbs=Xid q++w∧q≤n.natAbs∧(n<0→i0= -(q:Int))∧(0≤n→i0=(q:Int)))
  (fun(i0,s4)=>i0.natAbs) (n,tx []) ⟨n.natAbs,[],rfl,by simp,by omega,by omega,by omega⟩ ⟨rfl,rfl,trivial⟩ rfl ?_
 rintro⟨i0,s4⟩ J ⟨q,w,aa,hw,hq,hiN,hiP⟩ hJ
 have hwl:=congrArg List.length hw
 rw[List.length_append]at hwl
 have hdl:=Xfb (u:=n.natAbs) (by unfold Zf at hn;omega)
 have ai:s4.size=w.length:=by rw[aa,Bh]
 have et:(n<0→i0.tdiv 10= -((q/10:Nat):Int))∧(0≤n→i0.tdiv 10=((q/10:Nat):Int)):=⟨fun h=>Xmr (hiN h),fun h=>XmM (hiP h)⟩
 have em:(n<0→i0.tmod 10= -((q% 10:Nat):Int))∧(0≤n→i0.tmod 10=((q% 10:Nat):Int)):=⟨fun h=>Xmj (hiN h),fun h=>Xmm (hiP h)⟩
 have hn_:=hn
 unfold Zf at hn_
 conv=>cbv
 refine .neq (fun h3=>?_) fun h3=>?_
 conv=>cbv
 refine .remT fun v4 ak=>?_
 conv=>cbv
 refine .lss (fun h5=>?_) fun h5=>?_
 conv=>cbv
 refine .go fun v6 al=>?_
 conv=>cbv
 generalize ad:Fd v6=r7
 refine .dd hP (M9 (by omega) ad) ?_
 conv=>cbv
 refine .go (l:=[fig ((q% 10:Nat):Int)]) (by show[cB (fig _)]=_;rw[show((q% 10:Nat):Int)=v6 by omega,←XfR ad (by omega)]) (hn:=rfl) fun s8 ab=>?_
 conv=>cbv
 have ag:s8.size=1:=by rw[ab];rfl
 refine .go fun s9 ae am=>?_
 conv=>cbv
 refine .quoT fun ah aj=>?_
 conv=>cbv
 exact .go [] (ah,s9) (hJ _ ⟨q/10,fig ((q% 10:Nat):Int)::w,by first|(rw[ae,ab,aa,Dt];rfl)|(rw[ab,ac,aa,Dt];rfl),by rw[hw,Rw (show q≠0 by omega),List.append_assoc];rfl,by omega,by omega,by omega⟩ mlt)
 conv=>cbv
 generalize af:Fd v4=r6
 refine .dd hP (M9 (by omega) af) ?_
 conv=>cbv
 refine .go (l:=[fig ((q% 10:Nat):Int)]) (by show[cB (fig _)]=_;rw[show((q% 10:Nat):Int)=v4 by omega,←XfR af (by omega)]) (hn:=rfl) fun s7 ac=>?_
 conv=>cbv
 have an:s7.size=1:=by rw[ac];rfl
 refine .go fun s8 ab ag=>?_
 conv=>cbv
 refine .quoT fun v9 ao=>?_
 conv=>cbv
 exact .go [] (v9,s8) (hJ _ ⟨q/10,fig ((q% 10:Nat):Int)::w,by first|(rw[ae,ab,aa,Dt];rfl)|(rw[ab,ac,aa,Dt];rfl),by rw[hw,Rw (show q≠0 by omega),List.append_assoc];rfl,by omega,by omega,by omega⟩ mlt)
 conv=>cbv
 have e:s4=Co n:=(by unfold Co;rw[Xha n h1,if_neg (by omega),hw,show q=0 by omega,aa];rfl)
 rw[hr]at e
 subst e
 exact hQ _ _ (.s rfl rfl)
end
section
open Go Go.Proofs
set_option maxRecDepth 20000
set_option maxHeartbeats 4000000
end
end Go.Proofs.YtgdmjbcllgmepaaGreatDoor.Ab
