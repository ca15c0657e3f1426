/- What functions of the program come to, for all arguments in the given bounds. -/
import Derived.Test.YtgdmjbcllgmepaaGreatDoorEcch09
import Derived.Shelf.Strings.Builder1
import Derived.Shelf.Strings.Builder2
import Derived.Shelf.Strings.BuilderF
import Derived.Shelf.Strings.BuilderK
import Derived.Shelf.Strings.Builder2Cap
import Derived.Shelf.Strconv.Atoi
import Derived.Shelf.Strconv.Itoa0
import Derived.Shelf.Strconv.Itoa1
import Derived.Shelf.LaysM
import Derived.Shelf.Strconv.Itoa2
import Derived.Shelf.Strconv.Itoa3
import Derived.Shelf.Strconv.Itoa4
import Derived.Shelf.Strconv.AtoiErrFast
import Derived.Shelf.Strconv.ParseIntEmpty
import Derived.Shelf.Strconv.AtoiFail
import Derived.Shelf.Strconv.Clone
import Derived.Shelf.Strconv.SyntaxError
import Derived.Shelf.LaysC
import Derived.Shelf.Strconv.ToError
import Derived.Shelf.Strconv.Lower
import Derived.Shelf.Strconv.ParseUint10
import Derived.Shelf.Strconv.ParseUint10Empty
import Derived.Shelf.Strconv.ParseUint10Any
import Derived.Shelf.Strconv.ParseInt10
import Derived.Shelf.Strconv.AtoiLong
import Derived.Shelf.Strconv.AtoiInnerAll
import Derived.Shelf.Strconv.RangeError
import Derived.Shelf.Strconv.ToErrorRange
import Derived.Shelf.Strconv.AtoiAll
import Derived.Shelf.Strings.Search1
import Derived.Shelf.Strings.Search2
import Derived.Shelf.Strings.Cut
import Derived.Shelf.Strings.Shaped
import Derived.Shelf.Strings.Prefix
import Derived.Shelf.Bits.Mul64
import Derived.Shelf.Strings.Repeat
import Derived.Shelf.Strings.BuilderCap
import Derived.Shelf.Slices.Equal
import Derived.Ground.Names2Prog
import Derived.Shelf.Slices.Clone
import Derived.Test.YtgdmjbcllgmepaaGreatDoorProg
import Derived.Below
import Derived.ProofKit
import Derived.Test.YtgdmjbcllgmepaaGreatDoorEcZ9
import Derived.Lib.AtoiErrMem
import Derived.Lib.SlicesS
set_option linter.unusedVariables false
set_option linter.unusedSimpArgs false
namespace Go.Proofs.YtgdmjbcllgmepaaGreatDoor.Ab
section
open Go Go.Proofs
set_option maxRecDepth 20000
set_option maxHeartbeats 4000000
def XfT:List (Nat×TyRow):=[ty3,ty9,Xg9,XaK,W8,XaB,Xc]
theorem Xej:Cb Tryz.prog XfT:=Cb.of (by kernel_rfl)
theorem F7:Setup Tryz.prog XfT:=⟨Xej,mixed⟩
def Vr{α:Type}(p:α→Bool)(l:List α):Int:=if l.findIdx p<l.length then(l.findIdx p:Int)else -1
section
variable {α:Type} {p:α→Bool} {l:List α} {i:Int}
theorem Mw(h0:0≤i)(hi:i.toNat<l.length)(h:p l[i.toNat]=true)(hb:∀(j:Nat) (hj:j<l.length),j<i.toNat→p l[j]=false):i=Vr p l:=by
 have e:l.findIdx p=i.toNat:=(List.findIdx_eq hi).2 ⟨h,fun j hji=>hb j (by omega) hji⟩
 unfold Vr
 rw[e,if_pos hi]
 omega
theorem Ik(hb:∀(j:Nat) (hj:j<l.length),p l[j]=false): -1=Vr p l:=by
 unfold Vr
 rw[if_neg]
 intro hlt
 have:=List.findIdx_getElem (w:=hlt)
 rw[hb _ hlt]at this
 cases this
theorem XeR(e:Vr p l=i): -1≤i∧i<l.length:=by
 rw[←e]
 unfold Vr
 split<;>omega
theorem Ue(e:Vr p l=i)(h:0≤i):∃hi:i.toNat<l.length,p l[i.toNat]=true:=by
 unfold Vr at e
 split at e
 ·rename_i hlt
  have e2:i.toNat=l.findIdx p:=by omega
  refine⟨by omega,?_⟩
  have:=List.findIdx_getElem (w:=hlt)
  simpa only[e2]using this
 ·omega
theorem XdW(e:Vr p l=i)(h:i<0):∀x∈l,p x=false:=by
 unfold Vr at e
 split at e
 ·omega
 ·rename_i hlt
  intro x hx
  cases hp:p x
  ·rfl
  ·exact absurd (List.findIdx_lt_length_of_exists ⟨x,hx,hp⟩) hlt
end
def Cp(e:Ad)(name:ByteArray):Bool:=decide (e.name_=name)
def En(l:List Ad)(name:ByteArray):Int:=Vr (fun e=>Cp e name) l
def Au(l:List Ad)(name:ByteArray):Int:=En l name
def E6(n:Be)(id:Int):Bool:=decide (n.id_=id)
def Ez(l:List Be)(id:Int):Int:=Vr (fun n=>E6 n id) l
def Jc(d:Aa)(id:Int):Int:=Ez d.nodes_ id
def Hw(d:Aa)(id:Int):Int:=Jc d id
def C2(l:List Ad)(name:ByteArray):Int:=if Au l name<0 then 0 else(l.getD (Au l name).toNat ⟨tx [],0⟩).id_
def Eh(l:List Ad)(name:ByteArray):Bool:=decide (0≤Au l name)
def De(d:Aa)(name:ByteArray):Int:=if Au d.entries_ name<0 then -1 else Jc d (C2 d.entries_ name)
def Fl(d:Aa)(name:ByteArray):Be×Bool:=if De d name<0 then(⟨0,tx [],0⟩,false)else(d.nodes_.getD (De d name).toNat ⟨0,tx [],0⟩,true)
def G6(d:Aa)(name:ByteArray):ByteArray×Bool:=((Fl d name).1.text_,(Fl d name).2)
def okD(d:Aa):Prop:=d.nodes_.length≤1000000000∧(∀n∈d.nodes_,n.text_.size≤1000000000)∧d.entries_.length≤1000000000∧(∀e∈d.entries_,e.name_.size≤1000000000)∧d.old_.length≤1000000000∧d.steps_.length≤1000000000
theorem gD{α:Type}{l:List α}{k:Nat}{d:α}(h:k<l.length):l[k]=l.getD k d:=by rw[List.getD_eq_getElem?_getD,List.getElem?_eq_getElem h];rfl
theorem I5{l:List Ad}{name:ByteArray}{i:Int}(e:Au l name=i): -1≤i∧i<l.length:=XeR e
theorem Y0{d:Aa}{id i:Int}(e:Jc d id=i): -1≤i∧i<d.nodes_.length:=XeR e
theorem Ic{d:Aa}{name:ByteArray}{i:Int}(e:De d name=i): -1≤i∧i<d.nodes_.length:=by
 unfold De at e
 split at e
 ·omega
 ·exact Y0 e
theorem Xen{d:Aa}{name t:ByteArray}{ok:Bool}(hd:okD d)(e:G6 d name=(t,ok)):t.size≤1000000000:=by
 have e1:(Fl d name).1.text_=t:=congrArg Prod.fst e
 rw[←e1]
 unfold Fl
 split
 ·simp[Bh]
 ·rename_i h
  have h2:=Ic (rfl:De d name=_)
  have h3:(De d name).toNat<d.nodes_.length:=by omega
  rw[←gD h3]
  exact hd.2.1 _ (List.getElem_mem h3)
theorem Qj{d:Aa}{name:ByteArray}:Fl d name=if Hw d (C2 d.entries_ name)<0∨Eh d.entries_ name=false then(⟨0,tx [],0⟩,false)else(d.nodes_.getD (Hw d (C2 d.entries_ name)).toNat ⟨0,tx [],0⟩,true):=by
 unfold Fl De Hw Eh
 by_cases h:Au d.entries_ name<0
 ·rw[if_pos h,if_pos (by omega),if_pos (.inr (by simp;omega))]
 ·rw[if_neg h]
  by_cases h2:Jc d (C2 d.entries_ name)<0
  ·rw[if_pos h2,if_pos (.inl h2)]
  ·rw[if_neg h2,if_neg]
   rintro(h3|h3)
   ·exact h2 h3
   ·simp at h3;omega
variable {name oatex oa:ByteArray} {o id Aj Ai oaid oasur:Int} {l Ag Ah:List Ad} {xl A3 A2 A1 A4:List (List D)} {Ae:List Be} {Af:List ByteArray} {ob:Bool}
theorem XdP{enam:ByteArray}{eid:Int}{o:Bool}(hr:Cp (⟨enam,eid⟩:Ad) name=o):Fn Tryz.prog 322 [.agg [S enam,I eid],.ptr 0 0 0] [.box 9 [S name]] ⟨B o,[],[]⟩:=by
 refine Fn.goR F7 Tryz.func322 fun P hP Q hQ=>?_
 conv=>cbv
 refine .eql (fun h1=>?_) fun h1=>?_
 conv=>cbv
 have e:true=Cp (⟨enam,eid⟩:Ad) name:=(by unfold Cp;symm;rw[decide_eq_true_eq];exact h1)
 rw[hr]at e
 subst e
 exact hQ _ _ (.of [] (.inl rfl) rfl rfl rfl rfl)
 conv=>cbv
 have e:false=Cp (⟨enam,eid⟩:Ad) name:=(by unfold Cp;symm;rw[decide_eq_false_iff_not];exact h1)
 rw[hr]at e
 subst e
 exact hQ _ _ (.of [] (.inl rfl) rfl rfl rfl rfl)
theorem Wt{nid:Int}{ntex:ByteArray}{nsur:Int}{o:Bool}(hr:E6 (⟨nid,ntex,nsur⟩:Be) id=o):Fn Tryz.prog 303 [.agg [I nid,S ntex,I nsur],.ptr 0 0 0] [.box 3 [I id]] ⟨B o,[],[]⟩:=by
 refine Fn.goR F7 Tryz.func303 fun P hP Q hQ=>?_
 conv=>cbv
 refine .eql (fun h1=>?_) fun h1=>?_
 conv=>cbv
 have e:true=E6 (⟨nid,ntex,nsur⟩:Be) id:=(by unfold E6;symm;rw[decide_eq_true_eq];exact h1)
 rw[hr]at e
 subst e
 exact hQ _ _ (.of [] (.inl rfl) rfl rfl rfl rfl)
 conv=>cbv
 have e:false=E6 (⟨nid,ntex,nsur⟩:Be) id:=(by unfold E6;symm;rw[decide_eq_false_iff_not];exact h1)
 rw[hr]at e
 subst e
 exact hQ _ _ (.of [] (.inl rfl) rfl rfl rfl rfl)
theorem Ou(hl:l.map Ac=xl)(hn:l.length<2^40)(hr:En l name=o):Fn Tryz.prog 301 [.d (.row 2 xl),.clo 322 [.ptr 0 0 0]] [.box 9 [S name]] ⟨I o,[],[]⟩:=by
 refine Fn.goR F7 Tryz.func301 fun P hP Q hQ=>?_
 conv=>cbv
 refine .go hl fun v1 af=>?_
 conv=>cbv
 refine LoopW.lp (κ:=Int) F7 hP [] [0,1,7] (fun i8=>[(8,I i8)]) (fun i8=>[])
  (fun i8=>0≤i8∧i8≤l.length∧∀(j:Nat) (hj:j<l.length),j<i8.toNat→Cp l[j] name=false)
  (fun i8=>(l.length - i8).toNat) (0) ⟨by omega,by omega,fun j _ h=>by simp at h⟩ ⟨rfl,trivial⟩ rfl ?_
 rintro i8 J ⟨h0,h1,hb⟩ hJ
 conv=>cbv
 refine .lss (fun h2=>?_) fun h2=>?_
 conv=>cbv
 refine .go i8.toNat hl fun ae ⟨aa,ac⟩ ad=>?_
 conv=>cbv
 generalize ab:Cp (⟨aa,ac⟩:Ad) name=r4
 refine .bx [0] [] hP (XdP ab) rfl rfl rfl rfl ?_
 cases r4
 conv=>cbv
 refine .add fun v5 ag=>?_
 conv=>cbv
 exact .go [] (v5) (hJ _ ⟨by omega,by omega,fun j hj h=>if e:j=i8.toNat then by subst e;rw[←ad];exact ab else hb j hj (by omega)⟩ mlt)
 conv=>cbv
 have e:i8=En l name:=(by exact Mw (p:=fun x=>Cp x name) h0 (by omega) (ad▸ab) hb)
 rw[hr]at e
 subst e
 exact hQ _ _ (.of [] (.inl rfl) rfl rfl rfl rfl)
 conv=>cbv
 have e:(-1)=En l name:=(by exact Ik (p:=fun x=>Cp x name) fun j hj=>hb j hj (by omega))
 rw[hr]at e
 subst e
 exact hQ _ _ (.of [] (.inl rfl) rfl rfl rfl rfl)
theorem Pu{l:List Be}(hl:l.map A8=xl)(hn:l.length<2^40)(hr:Ez l id=o):Fn Tryz.prog 302 [.d (.row 3 xl),.clo 303 [.ptr 0 0 0]] [.box 3 [I id]] ⟨I o,[],[]⟩:=by
 refine Fn.goR F7 Tryz.func302 fun P hP Q hQ=>?_
 conv=>cbv
 refine .go hl fun v1 ag=>?_
 conv=>cbv
 refine LoopW.lp (κ:=Int) F7 hP [] [0,1,7] (fun i8=>[(8,I i8)]) (fun i8=>[])
  (fun i8=>0≤i8∧i8≤l.length∧∀(j:Nat) (hj:j<l.length),j<i8.toNat→E6 l[j] id=false)
  (fun i8=>(l.length - i8).toNat) (0) ⟨by omega,by omega,fun j _ h=>by simp at h⟩ ⟨rfl,trivial⟩ rfl ?_
 rintro i8 J ⟨h0,h1,hb⟩ hJ
 conv=>cbv
 refine .lss (fun h2=>?_) fun h2=>?_
 conv=>cbv
 refine .go i8.toNat hl fun af ⟨ad,aa,ab⟩ ae=>?_
 conv=>cbv
 generalize ac:E6 (⟨ad,aa,ab⟩:Be) id=r4
 refine .bx [0] [] hP (Wt ac) rfl rfl rfl rfl ?_
 cases r4
 conv=>cbv
 refine .add fun v5 ah=>?_
 conv=>cbv
 exact .go [] (v5) (hJ _ ⟨by omega,by omega,fun j hj h=>if e:j=i8.toNat then by subst e;rw[←ae];exact ac else hb j hj (by omega)⟩ mlt)
 conv=>cbv
 have e:i8=Ez l id:=(by exact Mw (p:=fun x=>E6 x id) h0 (by omega) (ae▸ac) hb)
 rw[hr]at e
 subst e
 exact hQ _ _ (.of [] (.inl rfl) rfl rfl rfl rfl)
 conv=>cbv
 have e:(-1)=Ez l id:=(by exact Ik (p:=fun x=>E6 x id) fun j hj=>hb j hj (by omega))
 rw[hr]at e
 subst e
 exact hQ _ _ (.of [] (.inl rfl) rfl rfl rfl rfl)
theorem K5(hl:l.map Ac=xl)(hn:l.length<2^40)(hr:Au l name=o):Fn Tryz.prog 280 [.d (.row 2 xl),S name] [] ⟨I o,[],[]⟩:=by
 refine Fn.go F7 Tryz.func280 fun P hP Q hQ=>?_
 conv=>cbv
 generalize aa:En l name=r1
 refine .bx [0] [] hP (Ou hl (by omega) aa) rfl rfl rfl rfl ?_
 conv=>cbv
 have e:r1=Au l name:=(by unfold Au;exact aa.symm)
 rw[hr]at e
 subst e
 exact hQ _ _ (.i rfl rfl)
theorem Ng(Ak:Ae.map A8=A3)(Al:Ag.map Ac=A2)(Ao:Ah.map Ac=A1)(An:Af.map cS=A4)(hn:Ae.length<2^40)(hr:Jc (⟨Ae,Ag,Ah,Af,Aj,Ai⟩:Aa) id=o):Fn Tryz.prog 249 [.agg [.d (.row 3 A3),.d (.row 2 A2),.d (.row 2 A1),.d (.row 1 A4),I Aj,I Ai],I id] [] ⟨I o,[],[]⟩:=by
 refine Fn.go F7 Tryz.func249 fun P hP Q hQ=>?_
 conv=>cbv
 generalize aa:Ez Ae id=r1
 refine .bx [1] [] hP (Pu Ak (by omega) aa) rfl rfl rfl rfl ?_
 conv=>cbv
 have e:r1=Jc (⟨Ae,Ag,Ah,Af,Aj,Ai⟩:Aa) id:=(by unfold Jc;exact aa.symm)
 rw[hr]at e
 subst e
 exact hQ _ _ (.i rfl rfl)
theorem Mv(Ak:Ae.map A8=A3)(Al:Ag.map Ac=A2)(Ao:Ah.map Ac=A1)(An:Af.map cS=A4)(hd:okD ⟨Ae,Ag,Ah,Af,Aj,Ai⟩)(hr:De (⟨Ae,Ag,Ah,Af,Aj,Ai⟩:Aa) name=o):Fn Tryz.prog 217 [.agg [.d (.row 3 A3),.d (.row 2 A2),.d (.row 2 A1),.d (.row 1 A4),I Aj,I Ai],S name] [] ⟨I o,[],[]⟩:=by
 refine Fn.go F7 Tryz.func217 fun P hP Q hQ=>?_
 conv=>cbv
 obtain⟨d1,d2,d3,d4,d5,d6⟩:=hd
 simp only[]at d1 d2 d3 d4 d5 d6
 generalize aa:Au Ag name=r1
 refine .dd hP (K5 Al (by omega) aa) ?_
 conv=>cbv
 have hb:=I5 aa
 refine .lss (fun h2=>?_) fun h2=>?_
 conv=>cbv
 have e:(-1)=De (⟨Ae,Ag,Ah,Af,Aj,Ai⟩:Aa) name:=(by unfold De;rw[if_pos (by simp only[];omega)])
 rw[hr]at e
 subst e
 exact hQ _ _ (.i rfl rfl)
 conv=>cbv
 refine .go r1.toNat Al fun ab ⟨ae,ac⟩ af=>?_
 conv=>cbv
 generalize ad:Jc (⟨Ae,Ag,Ah,Af,Aj,Ai⟩:Aa) ac=r4
 refine .dd hP (Ng Ak Al Ao An (by omega) ad) ?_
 conv=>cbv
 have e:r4=De (⟨Ae,Ag,Ah,Af,Aj,Ai⟩:Aa) name:=(by unfold De C2;simp only[];rw[aa,if_neg (by omega),if_neg (by omega),←gD ab,←af];exact ad.symm)
 rw[hr]at e
 subst e
 exact hQ _ _ (.i rfl rfl)
theorem Xe1(Ak:Ae.map A8=A3)(Al:Ag.map Ac=A2)(Ao:Ah.map Ac=A1)(An:Af.map cS=A4)(hd:okD ⟨Ae,Ag,Ah,Af,Aj,Ai⟩)(hr:Fl (⟨Ae,Ag,Ah,Af,Aj,Ai⟩:Aa) name=(⟨oaid,oatex,oasur⟩,ob)):Fn Tryz.prog 147 [.agg [.d (.row 3 A3),.d (.row 2 A2),.d (.row 2 A1),.d (.row 1 A4),I Aj,I Ai],S name] [] ⟨.tup [.agg [I oaid,S oatex,I oasur],B ob],[],[]⟩:=by
 refine Fn.go F7 Tryz.func147 fun P hP Q hQ=>?_
 conv=>cbv
 generalize aa:De (⟨Ae,Ag,Ah,Af,Aj,Ai⟩:Aa) name=r1
 refine .dd hP (Mv Ak Al Ao An hd aa) ?_
 conv=>cbv
 have hb:=Ic aa
 simp only[]at hb
 refine .lss (fun h2=>?_) fun h2=>?_
 conv=>cbv
 have e:((⟨0,tx [],0⟩:Be),false)=Fl (⟨Ae,Ag,Ah,Af,Aj,Ai⟩:Aa) name:=(by unfold Fl;rw[if_pos (by rw[aa];omega)])
 rw[hr]at e
 simp only[Prod.mk.injEq,Be.mk.injEq]at e
 obtain⟨⟨rfl,rfl,rfl⟩,rfl⟩:=e
 refine hQ _ _ ?_
 exact .many (.inl rfl) rfl rfl (.agg (.d rfl rfl (.d rfl rfl (.d rfl rfl (.nil)))) (.d rfl rfl (.nil)))
 conv=>cbv
 refine .go r1.toNat Ak fun af ⟨ad,ab,ac⟩ ae=>?_
 conv=>cbv
 have e:((⟨ad,ab,ac⟩:Be),true)=Fl (⟨Ae,Ag,Ah,Af,Aj,Ai⟩:Aa) name:=(by unfold Fl;rw[aa,if_neg (by omega)];simp only[];rw[←gD (show r1.toNat<Ae.length by omega)];rw[←ae])
 rw[hr]at e
 simp only[Prod.mk.injEq,Be.mk.injEq]at e
 obtain⟨⟨rfl,rfl,rfl⟩,rfl⟩:=e
 refine hQ _ _ ?_
 exact .many (.inl rfl) rfl rfl (.agg (.d rfl rfl (.d rfl rfl (.d rfl rfl (.nil)))) (.d rfl rfl (.nil)))
theorem Xgu(Ak:Ae.map A8=A3)(Al:Ag.map Ac=A2)(Ao:Ah.map Ac=A1)(An:Af.map cS=A4)(hd:okD ⟨Ae,Ag,Ah,Af,Aj,Ai⟩)(hr:G6 (⟨Ae,Ag,Ah,Af,Aj,Ai⟩:Aa) name=(oa,ob)):Fn Tryz.prog 261 [.agg [.d (.row 3 A3),.d (.row 2 A2),.d (.row 2 A1),.d (.row 1 A4),I Aj,I Ai],S name] [] ⟨.tup [S oa,B ob],[],[]⟩:=by
 refine Fn.go F7 Tryz.func261 fun P hP Q hQ=>?_
 conv=>cbv
 rcases ab:Fl (⟨Ae,Ag,Ah,Af,Aj,Ai⟩:Aa) name with⟨⟨ad,aa,ac⟩,ae⟩
 refine .dd hP (Xe1 Ak Al Ao An hd ab) ?_
 conv=>cbv
 have e:(aa,ae)=G6 (⟨Ae,Ag,Ah,Af,Aj,Ai⟩:Aa) name:=(by unfold G6;rw[ab])
 rw[hr]at e
 simp only[Prod.mk.injEq]at e
 obtain⟨rfl,rfl⟩:=e
 refine hQ _ _ ?_
 exact .many (.inl rfl) rfl rfl (.d rfl rfl (.d rfl rfl (.nil)))
theorem Mp(hl:l.map Ac=xl)(hn:l.length<2^40)(hr:C2 l name=o):Fn Tryz.prog 213 [.d (.row 2 xl),S name] [] ⟨I o,[],[]⟩:=by
 refine Fn.go F7 Tryz.func213 fun P hP Q hQ=>?_
 conv=>cbv
 refine LoopW.lp (κ:=Int) F7 hP [] [0,1] (fun i5=>[(5,I i5)]) (fun i5=>[])
  (fun i5=>0≤i5∧i5≤l.length∧∀(j:Nat) (hj:j<l.length),j<i5.toNat→Cp l[j] name=false)
  (fun i5=>(l.length - i5).toNat) (0) ⟨by omega,by omega,fun j _ h=>by simp at h⟩ ⟨rfl,trivial⟩ rfl ?_
 rintro i5 J ⟨h0,h1,hb⟩ hJ
 conv=>cbv
 refine .go hl fun v1 ai=>?_
 conv=>cbv
 refine .lss (fun h2=>?_) fun h2=>?_
 conv=>cbv
 refine .go i5.toNat hl fun ag ⟨ad,ah⟩ aa=>?_
 conv=>cbv
 refine .eql (fun h4=>?_) fun h4=>?_
 conv=>cbv
 refine .go i5.toNat hl fun ab ⟨ae,ac⟩ af=>?_
 conv=>cbv
 have e:ac=C2 l name:=(by have e2:Au l name=i5:=(Mw (p:=fun x=>Cp x name) (l:=l) h0 (by omega) (by rw[←aa];unfold Cp;rw[decide_eq_true_eq];exact h4) hb).symm;unfold C2;rw[e2,if_neg (by omega),←gD ab,←af])
 rw[hr]at e
 subst e
 exact hQ _ _ (.i rfl rfl)
 conv=>cbv
 refine .add fun v5 aj=>?_
 conv=>cbv
 exact .go [] (v5) (hJ _ ⟨by omega,by omega,fun j hj h=>if e:j=i5.toNat then by subst e;rw[←aa];unfold Cp;rw[decide_eq_false_iff_not];exact h4 else hb j hj (by omega)⟩ mlt)
 conv=>cbv
 have e:0=C2 l name:=(by have e2:Au l name= -1:=(Ik (p:=fun x=>Cp x name) fun j hj=>hb j hj (by omega)).symm;unfold C2;rw[e2,if_pos (by omega)])
 rw[hr]at e
 subst e
 exact hQ _ _ (.i rfl rfl)
theorem R7(Ak:Ae.map A8=A3)(Al:Ag.map Ac=A2)(Ao:Ah.map Ac=A1)(An:Af.map cS=A4)(hn:Ae.length<2^40)(hr:Hw (⟨Ae,Ag,Ah,Af,Aj,Ai⟩:Aa) id=o):Fn Tryz.prog 212 [.agg [.d (.row 3 A3),.d (.row 2 A2),.d (.row 2 A1),.d (.row 1 A4),I Aj,I Ai],I id] [] ⟨I o,[],[]⟩:=by
 refine Fn.go F7 Tryz.func212 fun P hP Q hQ=>?_
 conv=>cbv
 refine LoopW.lp (κ:=Int) F7 hP [] [1,2] (fun i5=>[(5,I i5)]) (fun i5=>[])
  (fun i5=>0≤i5∧i5≤Ae.length∧∀(j:Nat) (hj:j<Ae.length),j<i5.toNat→E6 Ae[j] id=false)
  (fun i5=>(Ae.length - i5).toNat) (0) ⟨by omega,by omega,fun j _ h=>by simp at h⟩ ⟨rfl,trivial⟩ rfl ?_
 rintro i5 J ⟨h0,h1,hb⟩ hJ
 conv=>cbv
 refine .go Ak fun v1 af=>?_
 conv=>cbv
 refine .lss (fun h2=>?_) fun h2=>?_
 conv=>cbv
 refine .go i5.toNat Ak fun ad ⟨ae,ab,ac⟩ aa=>?_
 conv=>cbv
 refine .eql (fun h4=>?_) fun h4=>?_
 conv=>cbv
 have e:i5=Hw (⟨Ae,Ag,Ah,Af,Aj,Ai⟩:Aa) id:=(by exact Mw (p:=fun x=>E6 x id) (l:=Ae) h0 (by omega) (by rw[←aa];unfold E6;rw[decide_eq_true_eq];exact h4) hb)
 rw[hr]at e
 subst e
 exact hQ _ _ (.i rfl rfl)
 conv=>cbv
 refine .add fun v5 ag=>?_
 conv=>cbv
 exact .go [] (v5) (hJ _ ⟨by omega,by omega,fun j hj h=>if e:j=i5.toNat then by subst e;rw[←aa];unfold E6;rw[decide_eq_false_iff_not];exact h4 else hb j hj (by omega)⟩ mlt)
 conv=>cbv
 have e:(-1)=Hw (⟨Ae,Ag,Ah,Af,Aj,Ai⟩:Aa) id:=(by exact Ik (p:=fun x=>E6 x id) (l:=Ae) fun j hj=>hb j hj (by omega))
 rw[hr]at e
 subst e
 exact hQ _ _ (.i rfl rfl)
theorem M3{o:Bool}(hl:l.map Ac=xl)(hn:l.length<2^40)(hr:Eh l name=o):Fn Tryz.prog 214 [.d (.row 2 xl),S name] [] ⟨B o,[],[]⟩:=by
 refine Fn.go F7 Tryz.func214 fun P hP Q hQ=>?_
 conv=>cbv
 refine LoopW.lp (κ:=Int) F7 hP [] [0,1] (fun i5=>[(5,I i5)]) (fun i5=>[])
  (fun i5=>0≤i5∧i5≤l.length∧∀(j:Nat) (hj:j<l.length),j<i5.toNat→Cp l[j] name=false)
  (fun i5=>(l.length - i5).toNat) (0) ⟨by omega,by omega,fun j _ h=>by simp at h⟩ ⟨rfl,trivial⟩ rfl ?_
 rintro i5 J ⟨h0,h1,hb⟩ hJ
 conv=>cbv
 refine .go hl fun v1 ae=>?_
 conv=>cbv
 refine .lss (fun h2=>?_) fun h2=>?_
 conv=>cbv
 refine .go i5.toNat hl fun ac ⟨ab,ad⟩ aa=>?_
 conv=>cbv
 refine .eql (fun h4=>?_) fun h4=>?_
 conv=>cbv
 have e:true=Eh l name:=(by have e2:Au l name=i5:=(Mw (p:=fun x=>Cp x name) (l:=l) h0 (by omega) (by rw[←aa];unfold Cp;rw[decide_eq_true_eq];exact h4) hb).symm;unfold Eh;rw[e2];symm;rw[decide_eq_true_eq];omega)
 rw[hr]at e
 subst e
 exact hQ _ _ (.b rfl rfl)
 conv=>cbv
 refine .add fun v5 af=>?_
 conv=>cbv
 exact .go [] (v5) (hJ _ ⟨by omega,by omega,fun j hj h=>if e:j=i5.toNat then by subst e;rw[←aa];unfold Cp;rw[decide_eq_false_iff_not];exact h4 else hb j hj (by omega)⟩ mlt)
 conv=>cbv
 have e:false=Eh l name:=(by have e2:Au l name= -1:=(Ik (p:=fun x=>Cp x name) fun j hj=>hb j hj (by omega)).symm;unfold Eh;rw[e2];rfl)
 rw[hr]at e
 subst e
 exact hQ _ _ (.b rfl rfl)
theorem XfY(Ak:Ae.map A8=A3)(Al:Ag.map Ac=A2)(Ao:Ah.map Ac=A1)(An:Af.map cS=A4)(hd:okD ⟨Ae,Ag,Ah,Af,Aj,Ai⟩)(hr:Fl (⟨Ae,Ag,Ah,Af,Aj,Ai⟩:Aa) name=(⟨oaid,oatex,oasur⟩,ob)):Fn Tryz.prog 135 [.agg [.d (.row 3 A3),.d (.row 2 A2),.d (.row 2 A1),.d (.row 1 A4),I Aj,I Ai],S name] [] ⟨.tup [.agg [I oaid,S oatex,I oasur],B ob],[],[]⟩:=by
 refine Fn.go F7 Tryz.func135 fun P hP Q hQ=>?_
 conv=>cbv
 obtain⟨d1,d2,d3,d4,d5,d6⟩:=hd
 simp only[]at d1 d2 d3 d4 d5 d6
 generalize ab:C2 Ag name=r1
 refine .dd hP (Mp Al (by omega) ab) ?_
 conv=>cbv
 generalize aa:Hw (⟨Ae,Ag,Ah,Af,Aj,Ai⟩:Aa) r1=r2
 refine .dd hP (R7 Ak Al Ao An (by omega) aa) ?_
 conv=>cbv
 have hb:=Y0 (d:=⟨Ae,Ag,Ah,Af,Aj,Ai⟩) (id:=r1) aa
 simp only[]at hb
 refine .lss (fun h3=>?_) fun h3=>?_
 conv=>cbv
 have e:((⟨0,tx [],0⟩:Be),false)=Fl (⟨Ae,Ag,Ah,Af,Aj,Ai⟩:Aa) name:=(by rw[Qj,if_pos (.inl (by simp only[];rw[ab,aa];omega))])
 rw[hr]at e
 simp only[Prod.mk.injEq,Be.mk.injEq]at e
 obtain⟨⟨rfl,rfl,rfl⟩,rfl⟩:=e
 refine hQ _ _ ?_
 exact .many (.inl rfl) rfl rfl (.agg (.d rfl rfl (.d rfl rfl (.d rfl rfl (.nil)))) (.d rfl rfl (.nil)))
 conv=>cbv
 generalize ac:Eh Ag name=r4
 refine .dd hP (M3 Al (by omega) ac) ?_
 cases r4
 conv=>cbv
 have e:((⟨0,tx [],0⟩:Be),false)=Fl (⟨Ae,Ag,Ah,Af,Aj,Ai⟩:Aa) name:=(by rw[Qj,if_pos (.inr ac)])
 rw[hr]at e
 simp only[Prod.mk.injEq,Be.mk.injEq]at e
 obtain⟨⟨rfl,rfl,rfl⟩,rfl⟩:=e
 refine hQ _ _ ?_
 exact .many (.inl rfl) rfl rfl (.agg (.d rfl rfl (.d rfl rfl (.d rfl rfl (.nil)))) (.d rfl rfl (.nil)))
 conv=>cbv
 refine .go r2.toNat Ak fun ah ⟨af,ad,ae⟩ ag=>?_
 conv=>cbv
 have e:((⟨af,ad,ae⟩:Be),true)=Fl (⟨Ae,Ag,Ah,Af,Aj,Ai⟩:Aa) name:=(by rw[Qj,if_neg (by simp only[];rw[ab,aa,ac];rintro(h|h);omega;cases h)];simp only[];rw[ab,aa,←gD (show r2.toNat<Ae.length by omega),←ag])
 rw[hr]at e
 simp only[Prod.mk.injEq,Be.mk.injEq]at e
 obtain⟨⟨rfl,rfl,rfl⟩,rfl⟩:=e
 refine hQ _ _ ?_
 exact .many (.inl rfl) rfl rfl (.agg (.d rfl rfl (.d rfl rfl (.d rfl rfl (.nil)))) (.d rfl rfl (.nil)))
theorem Xgm(Ak:Ae.map A8=A3)(Al:Ag.map Ac=A2)(Ao:Ah.map Ac=A1)(An:Af.map cS=A4)(hd:okD ⟨Ae,Ag,Ah,Af,Aj,Ai⟩)(hr:G6 (⟨Ae,Ag,Ah,Af,Aj,Ai⟩:Aa) name=(oa,ob)):Fn Tryz.prog 186 [.agg [.d (.row 3 A3),.d (.row 2 A2),.d (.row 2 A1),.d (.row 1 A4),I Aj,I Ai],S name] [] ⟨.tup [S oa,B ob],[],[]⟩:=by
 refine Fn.go F7 Tryz.func186 fun P hP Q hQ=>?_
 conv=>cbv
 rcases ab:Fl (⟨Ae,Ag,Ah,Af,Aj,Ai⟩:Aa) name with⟨⟨ad,aa,ac⟩,ae⟩
 refine .dd hP (XfY Ak Al Ao An hd ab) ?_
 conv=>cbv
 have e:(aa,ae)=G6 (⟨Ae,Ag,Ah,Af,Aj,Ai⟩:Aa) name:=(by unfold G6;rw[ab])
 rw[hr]at e
 simp only[Prod.mk.injEq]at e
 obtain⟨rfl,rfl⟩:=e
 refine hQ _ _ ?_
 exact .many (.inl rfl) rfl rfl (.d rfl rfl (.d rfl rfl (.nil)))
end
section
open Go.Proofs
open Go.Shelf
def Tryz.lays172_ren:Go.Shelf.Ren:=⟨fun|172=>305|244=>331|245=>324|247=>354|279=>346|280=>347|281=>348|282=>349|287=>323|316=>362|171=>216|205=>363|321=>344|322=>345|243=>279|246=>314|283=>335|284=>336|285=>337|286=>338|129=>357|317=>356|318=>358|319=>359|320=>360|337=>367|338=>368|n=>n,fun|9=>9|3=>3|75=>221|76=>222|4=>4|5=>5|167=>273|37=>135|0=>0|85=>279|2=>2|168=>275|53=>228|175=>229|46=>196|210=>287|127=>249|145=>294|143=>292|21=>21|171=>262|173=>265|212=>282|51=>260|20=>20|213=>283|232=>295|233=>296|80=>225|n=>n,fun|15=>2|16=>3|17=>1|18=>4|19=>5|n=>n⟩
def Tryz.laysM246_ren:Go.Shelf.Ren:=⟨fun|246=>314|283=>335|284=>336|285=>337|286=>338|129=>357|317=>356|318=>358|319=>359|320=>360|337=>367|338=>368|n=>n,fun|2=>2|3=>3|9=>9|4=>4|171=>262|0=>0|53=>228|37=>135|5=>5|173=>265|212=>282|51=>260|20=>20|213=>283|46=>196|232=>295|233=>296|n=>n,fun|17=>1|18=>4|19=>5|n=>n⟩
def Tryz.laysM243_ren:Go.Shelf.Ren:=⟨fun|243=>279|246=>314|283=>335|284=>336|285=>337|286=>338|129=>357|317=>356|318=>358|319=>359|320=>360|337=>367|338=>368|n=>n,fun|3=>3|9=>9|2=>2|4=>4|171=>262|0=>0|53=>228|37=>135|5=>5|173=>265|212=>282|51=>260|20=>20|213=>283|46=>196|232=>295|233=>296|n=>n,fun|17=>1|18=>4|19=>5|n=>n⟩
def Tryz.laysM171_ren:Go.Shelf.Ren:=⟨fun|171=>216|243=>279|246=>314|283=>335|284=>336|285=>337|286=>338|129=>357|317=>356|318=>358|319=>359|320=>360|337=>367|338=>368|n=>n,fun|3=>3|9=>9|2=>2|4=>4|171=>262|0=>0|53=>228|37=>135|5=>5|173=>265|212=>282|51=>260|20=>20|213=>283|46=>196|232=>295|233=>296|n=>n,fun|17=>1|18=>4|19=>5|n=>n⟩
theorem Tryz.laysM171:Go.Proofs.LaysM.n171 Tryz.prog Tryz.laysM171_ren:={
 mixed:=by kernel_rfl
 f129:=Tryz.func357.trans (congrArg some (by kernel_rfl))
 f171:=Tryz.func216.trans (congrArg some (by kernel_rfl))
 f243:=Tryz.func279.trans (congrArg some (by kernel_rfl))
 f246:=Tryz.func314.trans (congrArg some (by kernel_rfl))
 f283:=Tryz.func335.trans (congrArg some (by kernel_rfl))
 f284:=Tryz.func336.trans (congrArg some (by kernel_rfl))
 f285:=Tryz.func337.trans (congrArg some (by kernel_rfl))
 f286:=Tryz.func338.trans (congrArg some (by kernel_rfl))
 f317:=Tryz.func356.trans (congrArg some (by kernel_rfl))
 f318:=Tryz.func358.trans (congrArg some (by kernel_rfl))
 f319:=Tryz.func359.trans (congrArg some (by kernel_rfl))
 f320:=Tryz.func360.trans (congrArg some (by kernel_rfl))
 f337:=Tryz.func367.trans (congrArg some (by kernel_rfl))
 f338:=Tryz.func368.trans (congrArg some (by kernel_rfl))
 t0:=Tryz.underlying0
 a0:=Tryz.isAgg0
 z0:=Tryz.sizeOf0
 v0:=Tryz.zeroValue0
 t2:=Tryz.underlying2
 a2:=Tryz.isAgg2
 z2:=Tryz.sizeOf2
 v2:=Tryz.zeroValue2
 t3:=Tryz.underlying3
 a3:=Tryz.isAgg3
 z3:=Tryz.sizeOf3
 v3:=Tryz.zeroValue3
 t4:=Tryz.underlying4
 a4:=Tryz.isAgg4
 z4:=Tryz.sizeOf4
 v4:=Tryz.zeroValue4
 t5:=Tryz.underlying5
 a5:=Tryz.isAgg5
 z5:=Tryz.sizeOf5
 v5:=Tryz.zeroValue5
 t9:=Tryz.underlying9
 a9:=Tryz.isAgg9
 z9:=Tryz.sizeOf9
 v9:=Tryz.zeroValue9
 t20:=Tryz.underlying20
 a20:=Tryz.isAgg20
 z20:=Tryz.sizeOf20
 v20:=Tryz.zeroValue20
 t37:=Tryz.underlying135
 a37:=Tryz.isAgg135
 z37:=Tryz.sizeOf135
 v37:=Tryz.zeroValue135
 t46:=Tryz.underlying196
 a46:=Tryz.isAgg196
 z46:=Tryz.sizeOf196
 v46:=Tryz.zeroValue196
 t51:=Tryz.underlying260
 a51:=Tryz.isAgg260
 z51:=Tryz.sizeOf260
 v51:=Tryz.zeroValue260
 t53:=Tryz.underlying228
 a53:=Tryz.isAgg228
 z53:=Tryz.sizeOf228
 v53:=Tryz.zeroValue228
 t171:=Tryz.underlying262
 a171:=Tryz.isAgg262
 z171:=Tryz.sizeOf262
 v171:=Tryz.zeroValue262
 t173:=Tryz.underlying265
 a173:=Tryz.isAgg265
 z173:=Tryz.sizeOf265
 v173:=Tryz.zeroValue265
 t212:=Tryz.underlying282
 a212:=Tryz.isAgg282
 z212:=Tryz.sizeOf282
 v212:=Tryz.zeroValue282
 t213:=Tryz.underlying283
 a213:=Tryz.isAgg283
 z213:=Tryz.sizeOf283
 t232:=Tryz.underlying295
 a232:=Tryz.isAgg295
 z232:=Tryz.sizeOf295
 v232:=Tryz.zeroValue295
 t233:=Tryz.underlying296
 a233:=Tryz.isAgg296
 z233:=Tryz.sizeOf296
 v233:=Tryz.zeroValue296
 g17:=by kernel_rfl
 g18:=by kernel_rfl
 g19:=by kernel_rfl
 i0:=by kernel_rfl
 i2:=by kernel_rfl
 i3:=by kernel_rfl
 i4:=by kernel_rfl
 i5:=by kernel_rfl
 i9:=by kernel_rfl
 i20:=by kernel_rfl
 i37:=by kernel_rfl
 i46:=by kernel_rfl
 i51:=by kernel_rfl
 i53:=by kernel_rfl
 i171:=by kernel_rfl
 i173:=by kernel_rfl
 i212:=by kernel_rfl
 i232:=by kernel_rfl
 i233:=by kernel_rfl
 m17:=by kernel_rfl
 m18:=by kernel_rfl
 m19:=by kernel_rfl}
open Go.RowKit Go.Sort Go.Lib in
theorem Tryz.strconv_Itoa(n:Int)(h0: -9223372036854775808≤n)(h1:n≤9223372036854775807)(w:World)(htab:Lib.TabIs Tryz.prog w "internal/strconv.uint64pow10" .u64 Lib.pow10Tab):
  Calls Tryz.prog 216 #[.int .i64 n] w fun e w'=>e= .returned (.string ⟨(Lib.itoa n).toArray⟩)∧∃k os,w'=grow (w.drewN k) os:=Any.strconv_Itoa Tryz.laysM171 n h0 h1 w htab
def Tryz.laysC245_ren:Go.Shelf.Ren:=⟨fun|245=>324|279=>346|280=>347|281=>348|282=>349|316=>362|171=>216|205=>363|243=>279|246=>314|283=>335|284=>336|285=>337|286=>338|129=>357|317=>356|318=>358|319=>359|320=>360|337=>367|338=>368|n=>n,fun|9=>9|3=>3|75=>221|167=>273|4=>4|168=>275|210=>287|37=>135|0=>0|127=>249|145=>294|143=>292|2=>2|171=>262|53=>228|5=>5|173=>265|212=>282|51=>260|20=>20|213=>283|46=>196|232=>295|233=>296|80=>225|n=>n,fun|15=>2|16=>3|17=>1|18=>4|19=>5|n=>n⟩
theorem Tryz.laysC245:Go.Proofs.LaysC.n245 Tryz.prog Tryz.laysC245_ren:={
 mixed:=by kernel_rfl
 f129:=Tryz.func357.trans (congrArg some (by kernel_rfl))
 f171:=Tryz.func216.trans (congrArg some (by kernel_rfl))
 f205:=Tryz.func363.trans (congrArg some (by kernel_rfl))
 f243:=Tryz.func279.trans (congrArg some (by kernel_rfl))
 f245:=Tryz.func324.trans (congrArg some (by kernel_rfl))
 f246:=Tryz.func314.trans (congrArg some (by kernel_rfl))
 f279:=Tryz.func346.trans (congrArg some (by kernel_rfl))
 f280:=Tryz.func347.trans (congrArg some (by kernel_rfl))
 f281:=Tryz.func348.trans (congrArg some (by kernel_rfl))
 f282:=Tryz.func349.trans (congrArg some (by kernel_rfl))
 f283:=Tryz.func335.trans (congrArg some (by kernel_rfl))
 f284:=Tryz.func336.trans (congrArg some (by kernel_rfl))
 f285:=Tryz.func337.trans (congrArg some (by kernel_rfl))
 f286:=Tryz.func338.trans (congrArg some (by kernel_rfl))
 f316:=Tryz.func362.trans (congrArg some (by kernel_rfl))
 f317:=Tryz.func356.trans (congrArg some (by kernel_rfl))
 f318:=Tryz.func358.trans (congrArg some (by kernel_rfl))
 f319:=Tryz.func359.trans (congrArg some (by kernel_rfl))
 f320:=Tryz.func360.trans (congrArg some (by kernel_rfl))
 f337:=Tryz.func367.trans (congrArg some (by kernel_rfl))
 f338:=Tryz.func368.trans (congrArg some (by kernel_rfl))
 t0:=Tryz.underlying0
 a0:=Tryz.isAgg0
 z0:=Tryz.sizeOf0
 v0:=Tryz.zeroValue0
 t2:=Tryz.underlying2
 a2:=Tryz.isAgg2
 z2:=Tryz.sizeOf2
 v2:=Tryz.zeroValue2
 t3:=Tryz.underlying3
 a3:=Tryz.isAgg3
 z3:=Tryz.sizeOf3
 v3:=Tryz.zeroValue3
 t4:=Tryz.underlying4
 a4:=Tryz.isAgg4
 z4:=Tryz.sizeOf4
 v4:=Tryz.zeroValue4
 t5:=Tryz.underlying5
 a5:=Tryz.isAgg5
 z5:=Tryz.sizeOf5
 v5:=Tryz.zeroValue5
 t9:=Tryz.underlying9
 a9:=Tryz.isAgg9
 z9:=Tryz.sizeOf9
 v9:=Tryz.zeroValue9
 t20:=Tryz.underlying20
 a20:=Tryz.isAgg20
 z20:=Tryz.sizeOf20
 v20:=Tryz.zeroValue20
 t37:=Tryz.underlying135
 a37:=Tryz.isAgg135
 z37:=Tryz.sizeOf135
 v37:=Tryz.zeroValue135
 t46:=Tryz.underlying196
 a46:=Tryz.isAgg196
 z46:=Tryz.sizeOf196
 v46:=Tryz.zeroValue196
 t51:=Tryz.underlying260
 a51:=Tryz.isAgg260
 z51:=Tryz.sizeOf260
 v51:=Tryz.zeroValue260
 t53:=Tryz.underlying228
 a53:=Tryz.isAgg228
 z53:=Tryz.sizeOf228
 v53:=Tryz.zeroValue228
 t75:=Tryz.underlying221
 a75:=Tryz.isAgg221
 z75:=Tryz.sizeOf221
 v75:=Tryz.zeroValue221
 t127:=Tryz.underlying249
 a127:=Tryz.isAgg249
 z127:=Tryz.sizeOf249
 v127:=Tryz.zeroValue249
 t143:=Tryz.underlying292
 a143:=Tryz.isAgg292
 z143:=Tryz.sizeOf292
 v143:=Tryz.zeroValue292
 t145:=Tryz.underlying294
 a145:=Tryz.isAgg294
 z145:=Tryz.sizeOf294
 v145:=Tryz.zeroValue294
 t167:=Tryz.underlying273
 a167:=Tryz.isAgg273
 z167:=Tryz.sizeOf273
 v167:=Tryz.zeroValue273
 t168:=Tryz.underlying275
 a168:=Tryz.isAgg275
 z168:=Tryz.sizeOf275
 v168:=Tryz.zeroValue275
 t171:=Tryz.underlying262
 a171:=Tryz.isAgg262
 z171:=Tryz.sizeOf262
 v171:=Tryz.zeroValue262
 t173:=Tryz.underlying265
 a173:=Tryz.isAgg265
 z173:=Tryz.sizeOf265
 v173:=Tryz.zeroValue265
 t210:=Tryz.underlying287
 a210:=Tryz.isAgg287
 z210:=Tryz.sizeOf287
 v210:=Tryz.zeroValue287
 t212:=Tryz.underlying282
 a212:=Tryz.isAgg282
 z212:=Tryz.sizeOf282
 v212:=Tryz.zeroValue282
 t213:=Tryz.underlying283
 a213:=Tryz.isAgg283
 z213:=Tryz.sizeOf283
 t232:=Tryz.underlying295
 a232:=Tryz.isAgg295
 z232:=Tryz.sizeOf295
 v232:=Tryz.zeroValue295
 t233:=Tryz.underlying296
 a233:=Tryz.isAgg296
 z233:=Tryz.sizeOf296
 v233:=Tryz.zeroValue296
 g15:=by kernel_rfl
 g16:=by kernel_rfl
 g17:=by kernel_rfl
 g18:=by kernel_rfl
 g19:=by kernel_rfl
 t80:=Tryz.underlying225
 a80:=Tryz.isAgg225
 z80:=Tryz.sizeOf225
 v80:=Tryz.zeroValue225
 i0:=by kernel_rfl
 i2:=by kernel_rfl
 i3:=by kernel_rfl
 i4:=by kernel_rfl
 i5:=by kernel_rfl
 i9:=by kernel_rfl
 i20:=by kernel_rfl
 i37:=by kernel_rfl
 i46:=by kernel_rfl
 i51:=by kernel_rfl
 i53:=by kernel_rfl
 i75:=by kernel_rfl
 i80:=by kernel_rfl
 i127:=by kernel_rfl
 i143:=by kernel_rfl
 i145:=by kernel_rfl
 i167:=by kernel_rfl
 i168:=by kernel_rfl
 i171:=by kernel_rfl
 i173:=by kernel_rfl
 i210:=by kernel_rfl
 i212:=by kernel_rfl
 i232:=by kernel_rfl
 i233:=by kernel_rfl
 m15:=by kernel_rfl
 m16:=by kernel_rfl
 m17:=by kernel_rfl
 m18:=by kernel_rfl
 m19:=by kernel_rfl
 c0:=by kernel_rfl
 c2:=by kernel_rfl
 c3:=by kernel_rfl
 c4:=by kernel_rfl
 c5:=by kernel_rfl
 c9:=by kernel_rfl
 c20:=by kernel_rfl
 c37:=by kernel_rfl
 c46:=by kernel_rfl
 c51:=by kernel_rfl
 c53:=by kernel_rfl
 c75:=by kernel_rfl
 c80:=by kernel_rfl
 c127:=by kernel_rfl
 c143:=by kernel_rfl
 c145:=by kernel_rfl
 c167:=by kernel_rfl
 c168:=by kernel_rfl
 c171:=by kernel_rfl
 c173:=by kernel_rfl
 c210:=by kernel_rfl
 c212:=by kernel_rfl
 c213:=by kernel_rfl
 c232:=by kernel_rfl
 c233:=by kernel_rfl}
open Go.RowKit in
theorem Tryz.strconv_toError_syntax(fn s:ByteArray)(base bits:Int)(ev:Value)(w:World)(hlim:s.size≤281474976710656)(hv:w.cell? ⟨2,0,none⟩=some ev)(hev:ev= .nilIface∨∃te pe,ev= .iface te pe):
  Calls Tryz.prog 324 #[.string fn,.string s,.int .i64 base,.int .i64 bits,.iface 273 (.int .i64 2)] w fun e w'=>∃N,e= .returned (.iface 275 (.pointer (some ⟨N,0,none⟩)))∧w.heap.size≤N∧w'.heap[N]? =some (.cells #[.string fn,.string s,ev] 287 (0,0))∧Below w.heap.size w w':=Any.strconv_toError_syntax Tryz.laysC245 fn s base bits ev w hlim hv hev
def Tryz.lays287_ren:Go.Shelf.Ren:=⟨fun|287=>323|321=>344|322=>345|n=>n,fun|9=>9|3=>3|53=>228|75=>221|4=>4|167=>273|5=>5|46=>196|37=>135|0=>0|21=>21|80=>225|n=>n,fun|n=>n⟩
theorem Tryz.lays287:Go.Proofs.Lays.n287 Tryz.prog Tryz.lays287_ren:={
 mixed:=by kernel_rfl
 f287:=Tryz.func323.trans (congrArg some (by kernel_rfl))
 f321:=Tryz.func344.trans (congrArg some (by kernel_rfl))
 f322:=Tryz.func345.trans (congrArg some (by kernel_rfl))
 t0:=Tryz.underlying0
 a0:=Tryz.isAgg0
 z0:=Tryz.sizeOf0
 v0:=Tryz.zeroValue0
 t3:=Tryz.underlying3
 a3:=Tryz.isAgg3
 z3:=Tryz.sizeOf3
 v3:=Tryz.zeroValue3
 t4:=Tryz.underlying4
 a4:=Tryz.isAgg4
 z4:=Tryz.sizeOf4
 v4:=Tryz.zeroValue4
 t5:=Tryz.underlying5
 a5:=Tryz.isAgg5
 z5:=Tryz.sizeOf5
 v5:=Tryz.zeroValue5
 t9:=Tryz.underlying9
 a9:=Tryz.isAgg9
 z9:=Tryz.sizeOf9
 v9:=Tryz.zeroValue9
 t21:=Tryz.underlying21
 a21:=Tryz.isAgg21
 z21:=Tryz.sizeOf21
 v21:=Tryz.zeroValue21
 t37:=Tryz.underlying135
 a37:=Tryz.isAgg135
 z37:=Tryz.sizeOf135
 v37:=Tryz.zeroValue135
 t46:=Tryz.underlying196
 a46:=Tryz.isAgg196
 z46:=Tryz.sizeOf196
 v46:=Tryz.zeroValue196
 t53:=Tryz.underlying228
 a53:=Tryz.isAgg228
 z53:=Tryz.sizeOf228
 v53:=Tryz.zeroValue228
 t75:=Tryz.underlying221
 a75:=Tryz.isAgg221
 z75:=Tryz.sizeOf221
 v75:=Tryz.zeroValue221
 t167:=Tryz.underlying273
 a167:=Tryz.isAgg273
 z167:=Tryz.sizeOf273
 v167:=Tryz.zeroValue273}
def Tryz.laysC172_ren:Go.Shelf.Ren:=⟨fun|172=>305|244=>331|245=>324|247=>354|279=>346|280=>347|281=>348|282=>349|287=>323|316=>362|171=>216|205=>363|321=>344|322=>345|243=>279|246=>314|283=>335|284=>336|285=>337|286=>338|129=>357|317=>356|318=>358|319=>359|320=>360|337=>367|338=>368|n=>n,fun|9=>9|3=>3|75=>221|76=>222|4=>4|5=>5|167=>273|37=>135|0=>0|85=>279|2=>2|168=>275|53=>228|175=>229|46=>196|210=>287|127=>249|145=>294|143=>292|21=>21|171=>262|173=>265|212=>282|51=>260|20=>20|213=>283|232=>295|233=>296|80=>225|n=>n,fun|15=>2|16=>3|17=>1|18=>4|19=>5|n=>n⟩
theorem Tryz.laysC172:Go.Proofs.LaysC.n172 Tryz.prog Tryz.laysC172_ren:={
 mixed:=by kernel_rfl
 f129:=Tryz.func357.trans (congrArg some (by kernel_rfl))
 f171:=Tryz.func216.trans (congrArg some (by kernel_rfl))
 f172:=Tryz.func305.trans (congrArg some (by kernel_rfl))
 f205:=Tryz.func363.trans (congrArg some (by kernel_rfl))
 f243:=Tryz.func279.trans (congrArg some (by kernel_rfl))
 f244:=Tryz.func331.trans (congrArg some (by kernel_rfl))
 f245:=Tryz.func324.trans (congrArg some (by kernel_rfl))
 f246:=Tryz.func314.trans (congrArg some (by kernel_rfl))
 f247:=Tryz.func354.trans (congrArg some (by kernel_rfl))
 f279:=Tryz.func346.trans (congrArg some (by kernel_rfl))
 f280:=Tryz.func347.trans (congrArg some (by kernel_rfl))
 f281:=Tryz.func348.trans (congrArg some (by kernel_rfl))
 f282:=Tryz.func349.trans (congrArg some (by kernel_rfl))
 f283:=Tryz.func335.trans (congrArg some (by kernel_rfl))
 f284:=Tryz.func336.trans (congrArg some (by kernel_rfl))
 f285:=Tryz.func337.trans (congrArg some (by kernel_rfl))
 f286:=Tryz.func338.trans (congrArg some (by kernel_rfl))
 f287:=Tryz.func323.trans (congrArg some (by kernel_rfl))
 f316:=Tryz.func362.trans (congrArg some (by kernel_rfl))
 f317:=Tryz.func356.trans (congrArg some (by kernel_rfl))
 f318:=Tryz.func358.trans (congrArg some (by kernel_rfl))
 f319:=Tryz.func359.trans (congrArg some (by kernel_rfl))
 f320:=Tryz.func360.trans (congrArg some (by kernel_rfl))
 f321:=Tryz.func344.trans (congrArg some (by kernel_rfl))
 f322:=Tryz.func345.trans (congrArg some (by kernel_rfl))
 f337:=Tryz.func367.trans (congrArg some (by kernel_rfl))
 f338:=Tryz.func368.trans (congrArg some (by kernel_rfl))
 t0:=Tryz.underlying0
 a0:=Tryz.isAgg0
 z0:=Tryz.sizeOf0
 v0:=Tryz.zeroValue0
 t2:=Tryz.underlying2
 a2:=Tryz.isAgg2
 z2:=Tryz.sizeOf2
 v2:=Tryz.zeroValue2
 t3:=Tryz.underlying3
 a3:=Tryz.isAgg3
 z3:=Tryz.sizeOf3
 v3:=Tryz.zeroValue3
 t4:=Tryz.underlying4
 a4:=Tryz.isAgg4
 z4:=Tryz.sizeOf4
 v4:=Tryz.zeroValue4
 t5:=Tryz.underlying5
 a5:=Tryz.isAgg5
 z5:=Tryz.sizeOf5
 v5:=Tryz.zeroValue5
 t9:=Tryz.underlying9
 a9:=Tryz.isAgg9
 z9:=Tryz.sizeOf9
 v9:=Tryz.zeroValue9
 t20:=Tryz.underlying20
 a20:=Tryz.isAgg20
 z20:=Tryz.sizeOf20
 v20:=Tryz.zeroValue20
 t21:=Tryz.underlying21
 a21:=Tryz.isAgg21
 z21:=Tryz.sizeOf21
 v21:=Tryz.zeroValue21
 t37:=Tryz.underlying135
 a37:=Tryz.isAgg135
 z37:=Tryz.sizeOf135
 v37:=Tryz.zeroValue135
 t46:=Tryz.underlying196
 a46:=Tryz.isAgg196
 z46:=Tryz.sizeOf196
 v46:=Tryz.zeroValue196
 t51:=Tryz.underlying260
 a51:=Tryz.isAgg260
 z51:=Tryz.sizeOf260
 v51:=Tryz.zeroValue260
 t53:=Tryz.underlying228
 a53:=Tryz.isAgg228
 z53:=Tryz.sizeOf228
 v53:=Tryz.zeroValue228
 t75:=Tryz.underlying221
 a75:=Tryz.isAgg221
 z75:=Tryz.sizeOf221
 v75:=Tryz.zeroValue221
 t76:=Tryz.underlying222
 a76:=Tryz.isAgg222
 z76:=Tryz.sizeOf222
 v76:=Tryz.zeroValue222
 t85:=Tryz.underlying279
 a85:=Tryz.isAgg279
 z85:=Tryz.sizeOf279
 v85:=Tryz.zeroValue279
 t127:=Tryz.underlying249
 a127:=Tryz.isAgg249
 z127:=Tryz.sizeOf249
 v127:=Tryz.zeroValue249
 t143:=Tryz.underlying292
 a143:=Tryz.isAgg292
 z143:=Tryz.sizeOf292
 v143:=Tryz.zeroValue292
 t145:=Tryz.underlying294
 a145:=Tryz.isAgg294
 z145:=Tryz.sizeOf294
 v145:=Tryz.zeroValue294
 t167:=Tryz.underlying273
 a167:=Tryz.isAgg273
 z167:=Tryz.sizeOf273
 v167:=Tryz.zeroValue273
 t168:=Tryz.underlying275
 a168:=Tryz.isAgg275
 z168:=Tryz.sizeOf275
 v168:=Tryz.zeroValue275
 t171:=Tryz.underlying262
 a171:=Tryz.isAgg262
 z171:=Tryz.sizeOf262
 v171:=Tryz.zeroValue262
 t173:=Tryz.underlying265
 a173:=Tryz.isAgg265
 z173:=Tryz.sizeOf265
 v173:=Tryz.zeroValue265
 t175:=Tryz.underlying229
 a175:=Tryz.isAgg229
 z175:=Tryz.sizeOf229
 v175:=Tryz.zeroValue229
 t210:=Tryz.underlying287
 a210:=Tryz.isAgg287
 z210:=Tryz.sizeOf287
 v210:=Tryz.zeroValue287
 t212:=Tryz.underlying282
 a212:=Tryz.isAgg282
 z212:=Tryz.sizeOf282
 v212:=Tryz.zeroValue282
 t213:=Tryz.underlying283
 a213:=Tryz.isAgg283
 z213:=Tryz.sizeOf283
 t232:=Tryz.underlying295
 a232:=Tryz.isAgg295
 z232:=Tryz.sizeOf295
 v232:=Tryz.zeroValue295
 t233:=Tryz.underlying296
 a233:=Tryz.isAgg296
 z233:=Tryz.sizeOf296
 v233:=Tryz.zeroValue296
 g15:=by kernel_rfl
 g16:=by kernel_rfl
 g17:=by kernel_rfl
 g18:=by kernel_rfl
 g19:=by kernel_rfl
 t80:=Tryz.underlying225
 a80:=Tryz.isAgg225
 z80:=Tryz.sizeOf225
 v80:=Tryz.zeroValue225
 i0:=by kernel_rfl
 i2:=by kernel_rfl
 i3:=by kernel_rfl
 i4:=by kernel_rfl
 i5:=by kernel_rfl
 i9:=by kernel_rfl
 i20:=by kernel_rfl
 i21:=by kernel_rfl
 i37:=by kernel_rfl
 i46:=by kernel_rfl
 i51:=by kernel_rfl
 i53:=by kernel_rfl
 i75:=by kernel_rfl
 i76:=by kernel_rfl
 i80:=by kernel_rfl
 i85:=by kernel_rfl
 i127:=by kernel_rfl
 i143:=by kernel_rfl
 i145:=by kernel_rfl
 i167:=by kernel_rfl
 i168:=by kernel_rfl
 i171:=by kernel_rfl
 i173:=by kernel_rfl
 i175:=by kernel_rfl
 i210:=by kernel_rfl
 i212:=by kernel_rfl
 i232:=by kernel_rfl
 i233:=by kernel_rfl
 m15:=by kernel_rfl
 m16:=by kernel_rfl
 m17:=by kernel_rfl
 m18:=by kernel_rfl
 m19:=by kernel_rfl
 c0:=by kernel_rfl
 c2:=by kernel_rfl
 c3:=by kernel_rfl
 c4:=by kernel_rfl
 c5:=by kernel_rfl
 c9:=by kernel_rfl
 c20:=by kernel_rfl
 c21:=by kernel_rfl
 c37:=by kernel_rfl
 c46:=by kernel_rfl
 c51:=by kernel_rfl
 c53:=by kernel_rfl
 c75:=by kernel_rfl
 c76:=by kernel_rfl
 c80:=by kernel_rfl
 c85:=by kernel_rfl
 c127:=by kernel_rfl
 c143:=by kernel_rfl
 c145:=by kernel_rfl
 c167:=by kernel_rfl
 c168:=by kernel_rfl
 c171:=by kernel_rfl
 c173:=by kernel_rfl
 c175:=by kernel_rfl
 c210:=by kernel_rfl
 c212:=by kernel_rfl
 c213:=by kernel_rfl
 c232:=by kernel_rfl
 c233:=by kernel_rfl}
open Go.RowKit in
theorem Tryz.strconv_Atoi_ok(s:ByteArray)(hmax:s.size≤9223372036854775806)(v:Int)(h:Lib.atoiAll s.data.toList= .ok v)(w:World):
  Calls Tryz.prog 305 #[.string s] w fun e w'=>e= .returned (.tuple #[.int .i64 v,.nilIface])∧(w'=w∨∃t,w'=Lib.bytesWorld w 5 t):=Any.strconv_Atoi_ok Tryz.laysC172 s hmax v h w
open Go.RowKit in
theorem Tryz.strconv_Atoi_syntax(s:ByteArray)(hlim:s.size≤281474976710656)(h:Lib.atoiAll s.data.toList=(Lib.atoiAll []))(ev:Value)(w:World)(hv:w.cell? ⟨2,0,none⟩=some ev)(hev:ev= .nilIface∨∃te pe,ev= .iface te pe):
  Calls Tryz.prog 305 #[.string s] w fun e w'=>∃N,e= .returned (.tuple #[.int .i64 (0),.iface 275 (.pointer (some ⟨N,0,none⟩))])∧w.heap.size≤N∧w'.heap[N]? =some (.cells #[.string ⟨#[65,116,111,105]⟩,.string s,ev] 287 (0,0))∧Below w.heap.size w w':=Any.strconv_Atoi_syntax Tryz.laysC172 s hlim h ev w hv hev
open Go.RowKit in
theorem Tryz.strconv_Atoi_range(s:ByteArray)(hlim:s.size≤281474976710656)(h:Lib.atoiAll s.data.toList= .range)(ev:Value)(w:World)(hv:w.cell? ⟨3,0,none⟩=some ev)(hev:ev= .nilIface∨∃te pe,ev= .iface te pe):
  Calls Tryz.prog 305 #[.string s] w fun e w'=>∃N,e= .returned (.tuple #[.int .i64 (Lib.atoiSat s.data.toList),.iface 275 (.pointer (some ⟨N,0,none⟩))])∧w.heap.size≤N∧w'.heap[N]? =some (.cells #[.string ⟨#[65,116,111,105]⟩,.string s,ev] 287 (0,0))∧Below w.heap.size w w':=Any.strconv_Atoi_range Tryz.laysC172 s hlim h ev w hv hev
def Tryz.lays219_ren:Go.Shelf.Ren:=⟨fun|219=>330|217=>350|225=>351|224=>352|267=>353|266=>364|314=>365|n=>n,fun|9=>9|3=>3|4=>4|5=>5|46=>196|146=>267|51=>260|n=>n,fun|1=>0|n=>n⟩
theorem Tryz.lays219:Go.Proofs.Lays.n219 Tryz.prog Tryz.lays219_ren:={
 mixed:=by kernel_rfl
 f217:=Tryz.func350.trans (congrArg some (by kernel_rfl))
 f219:=Tryz.func330.trans (congrArg some (by kernel_rfl))
 f224:=Tryz.func352.trans (congrArg some (by kernel_rfl))
 f225:=Tryz.func351.trans (congrArg some (by kernel_rfl))
 f266:=Tryz.func364.trans (congrArg some (by kernel_rfl))
 f267:=Tryz.func353.trans (congrArg some (by kernel_rfl))
 f314:=Tryz.func365.trans (congrArg some (by kernel_rfl))
 t3:=Tryz.underlying3
 a3:=Tryz.isAgg3
 z3:=Tryz.sizeOf3
 v3:=Tryz.zeroValue3
 t4:=Tryz.underlying4
 a4:=Tryz.isAgg4
 z4:=Tryz.sizeOf4
 v4:=Tryz.zeroValue4
 t5:=Tryz.underlying5
 a5:=Tryz.isAgg5
 z5:=Tryz.sizeOf5
 v5:=Tryz.zeroValue5
 t9:=Tryz.underlying9
 a9:=Tryz.isAgg9
 z9:=Tryz.sizeOf9
 v9:=Tryz.zeroValue9
 t46:=Tryz.underlying196
 a46:=Tryz.isAgg196
 z46:=Tryz.sizeOf196
 v46:=Tryz.zeroValue196
 t51:=Tryz.underlying260
 a51:=Tryz.isAgg260
 z51:=Tryz.sizeOf260
 v51:=Tryz.zeroValue260
 t146:=Tryz.underlying267
 a146:=Tryz.isAgg267
 z146:=Tryz.sizeOf267
 v146:=Tryz.zeroValue267
 g1:=by kernel_rfl}
open Go.RowKit Go.Lib in
theorem Tryz.stringslite_Index_one(s:ByteArray)(c:UInt8)(w:World):
  Calls Tryz.prog 330 #[.string s,.string ⟨#[c]⟩] w fun e w'=>e= .returned (.int .i64 (Lib.indexByte s.data.toList c))∧w'=w:=Any.stringslite_Index_one Tryz.lays219 s c w
def Tryz.lays105_ren:Go.Shelf.Ren:=⟨fun|105=>267|212=>315|99=>316|165=>317|166=>271|170=>272|169=>273|263=>339|264=>340|206=>341|240=>319|241=>342|276=>343|277=>361|n=>n,fun|9=>9|3=>3|4=>4|20=>20|0=>0|46=>196|109=>244|5=>5|72=>219|76=>222|51=>260|146=>267|53=>228|148=>269|70=>217|37=>135|75=>221|127=>249|164=>271|80=>225|n=>n,fun|n=>n⟩
theorem Tryz.lays105:Go.Proofs.Lays.n105 Tryz.prog Tryz.lays105_ren:={
 mixed:=by kernel_rfl
 f99:=Tryz.func316.trans (congrArg some (by kernel_rfl))
 f105:=Tryz.func267.trans (congrArg some (by kernel_rfl))
 f165:=Tryz.func317.trans (congrArg some (by kernel_rfl))
 f166:=Tryz.func271.trans (congrArg some (by kernel_rfl))
 f169:=Tryz.func273.trans (congrArg some (by kernel_rfl))
 f170:=Tryz.func272.trans (congrArg some (by kernel_rfl))
 f206:=Tryz.func341.trans (congrArg some (by kernel_rfl))
 f212:=Tryz.func315.trans (congrArg some (by kernel_rfl))
 f240:=Tryz.func319.trans (congrArg some (by kernel_rfl))
 f241:=Tryz.func342.trans (congrArg some (by kernel_rfl))
 f263:=Tryz.func339.trans (congrArg some (by kernel_rfl))
 f264:=Tryz.func340.trans (congrArg some (by kernel_rfl))
 f276:=Tryz.func343.trans (congrArg some (by kernel_rfl))
 f277:=Tryz.func361.trans (congrArg some (by kernel_rfl))
 t0:=Tryz.underlying0
 a0:=Tryz.isAgg0
 z0:=Tryz.sizeOf0
 v0:=Tryz.zeroValue0
 t3:=Tryz.underlying3
 a3:=Tryz.isAgg3
 z3:=Tryz.sizeOf3
 v3:=Tryz.zeroValue3
 t4:=Tryz.underlying4
 a4:=Tryz.isAgg4
 z4:=Tryz.sizeOf4
 v4:=Tryz.zeroValue4
 t5:=Tryz.underlying5
 a5:=Tryz.isAgg5
 z5:=Tryz.sizeOf5
 v5:=Tryz.zeroValue5
 t9:=Tryz.underlying9
 a9:=Tryz.isAgg9
 z9:=Tryz.sizeOf9
 v9:=Tryz.zeroValue9
 t20:=Tryz.underlying20
 a20:=Tryz.isAgg20
 z20:=Tryz.sizeOf20
 v20:=Tryz.zeroValue20
 t37:=Tryz.underlying135
 a37:=Tryz.isAgg135
 z37:=Tryz.sizeOf135
 v37:=Tryz.zeroValue135
 t46:=Tryz.underlying196
 a46:=Tryz.isAgg196
 z46:=Tryz.sizeOf196
 v46:=Tryz.zeroValue196
 t51:=Tryz.underlying260
 a51:=Tryz.isAgg260
 z51:=Tryz.sizeOf260
 v51:=Tryz.zeroValue260
 t53:=Tryz.underlying228
 a53:=Tryz.isAgg228
 z53:=Tryz.sizeOf228
 v53:=Tryz.zeroValue228
 t70:=Tryz.underlying217
 a70:=Tryz.isAgg217
 z70:=Tryz.sizeOf217
 v70:=Tryz.zeroValue217
 t72:=Tryz.underlying219
 a72:=Tryz.isAgg219
 z72:=Tryz.sizeOf219
 v72:=Tryz.zeroValue219
 t75:=Tryz.underlying221
 a75:=Tryz.isAgg221
 z75:=Tryz.sizeOf221
 v75:=Tryz.zeroValue221
 t76:=Tryz.underlying222
 a76:=Tryz.isAgg222
 z76:=Tryz.sizeOf222
 v76:=Tryz.zeroValue222
 t109:=Tryz.underlying244
 a109:=Tryz.isAgg244
 z109:=Tryz.sizeOf244
 v109:=Tryz.zeroValue244
 t127:=Tryz.underlying249
 a127:=Tryz.isAgg249
 z127:=Tryz.sizeOf249
 v127:=Tryz.zeroValue249
 t146:=Tryz.underlying267
 a146:=Tryz.isAgg267
 z146:=Tryz.sizeOf267
 v146:=Tryz.zeroValue267
 t148:=Tryz.underlying269
 a148:=Tryz.isAgg269
 z148:=Tryz.sizeOf269
 v148:=Tryz.zeroValue269
 t164:=Tryz.underlying271
 a164:=Tryz.isAgg271
 z164:=Tryz.sizeOf271
 v164:=Tryz.zeroValue271}
theorem Tryz.Builder_Extra_105:Builder.Extra Tryz.prog Tryz.lays105_ren:={
 sizeBuilder:=by kernel_rfl
 liesBuilder:=by kernel_rfl
 t5:=Tryz.underlying5
 a5:=Tryz.isAgg5
 z5:=Tryz.sizeOf5
 v5:=Tryz.zeroValue5
 infoByte:=by kernel_rfl
 cellsByte:=by kernel_rfl
 sizeByte:=by kernel_rfl
 neB5:=by decide}
open Go.RowKit Go.Lib in
theorem Tryz.strings_Repeat(s:ByteArray)(c:Nat)(w:World)(hc:c≤9223372036854775807)(hlen:s.size*c≤140737488355328):
  Calls Tryz.prog 267 #[.string s,.int .i64 c] w fun e w'=>e= .returned (.string ⟨(Lib.repeatL s.data.toList c).toArray⟩)∧Below w.heap.size w w':=Any.strings_Repeat Tryz.lays105 Tryz.Builder_Extra_105 s c w hc hlen
end
section
open Go Go.Proofs
set_option maxRecDepth 20000
set_option maxHeartbeats 4000000
def XeH:List (Nat×TyRow):=[ty2,ty3,ty4,ty5,ty9,Xgx,Xl2,XmD]
theorem Xd0:Cb Tryz.prog XeH:=Cb.of (by kernel_rfl)
theorem On:Setup Tryz.prog XeH:=⟨Xd0,mixed⟩
def dig(n:Nat):UInt8:=if n% 16<10 then UInt8.ofNat (48+n% 16)else UInt8.ofNat (87+n% 16)
def Z3:Nat→Nat→List UInt8
 |0,_=>[]
 |k+1,n=>Z3 k (n/16)++[dig n]
def Xdl(n:Nat):List UInt8:=if h:n<16 then[dig n]else Xdl (n/16)++[dig n]
termination_by n
decreasing_by omega
theorem S9{n:Nat}(h:n<16):Xdl n=[dig n]:=by rw[Xdl,dif_pos h]
theorem XbC{n:Nat}(h:¬n<16):Xdl n=Xdl (n/16)++[dig n]:=by rw[Xdl,dif_neg h]
theorem Xku:dig 0=48:=rfl
theorem Xcn:∀(k:Nat),Z3 k 0=List.replicate k 48
 |0=>rfl
 |k+1=>by rw[Z3,Nat.zero_div,Xcn k,Xku,List.replicate_succ']
theorem Rz:∀(k n:Nat),(Z3 k n).length=k
 |0,_=>rfl
 |k+1,n=>by rw[Z3,List.length_append,Rz];rfl
theorem XkZ:∀(k n:Nat),n<16^ (k+1)→Z3 (k+1) n=List.replicate (k+1 - (Xdl n).length) 48++Xdl n∧1≤(Xdl n).length∧(Xdl n).length≤k+1
 |0,n,h=>by
  have h:n<16:=by simpa using h
  rw[S9 h]
  simp[Z3]
 |k+1,n,h=>by
  by_cases hn:n<16
  ·rw[S9 hn,Z3,Nat.div_eq_of_lt hn,Xcn]
   simp
  ·have h2:n/16<16^ (k+1):=by rw[Nat.pow_succ]at h;omega
   obtain⟨i1,i2,i3⟩:=XkZ k (n/16) h2
   rw[XbC hn,Z3,i1,List.length_append,List.length_singleton,List.append_assoc]
   refine⟨?_,by omega,by omega⟩
   congr 2
   omega
def Ap(n:Int):ByteArray:=if 0≤n∧n≤1000000000 then tx (115::(Z3 8 n.toNat++[46,115,101,103]))else tx []
theorem Ho{n:Int}{o:ByteArray}(e:Ap n=o):o.size≤13:=by
 rw[←e]
 unfold Ap
 split
 ·rw[Bh,List.length_cons,List.length_append,Rz];simp
 ·simp[Bh]
theorem digL:∀(j:Nat) (h:j<(⟨⟨[48,49,50,51,52,53,54,55,56,57,97,98,99,100,101,102]⟩⟩:ByteArray).size),(⟨⟨[48,49,50,51,52,53,54,55,56,57,97,98,99,100,101,102]⟩⟩:ByteArray)[j]=dig j:=by
 have key:∀j:Fin 16,(⟨⟨[48,49,50,51,52,53,54,55,56,57,97,98,99,100,101,102]⟩⟩:ByteArray)[j.val]'j.isLt=dig j.val:=by decide
 intro j h
 exact key ⟨j,h⟩
theorem Xer(n:Nat):dig (n% 16)=dig n:=by unfold dig;rw[Nat.mod_mod]
theorem and15(a:Int):Sk .and .i64 a 15=a% 16:=Jr (k:=4) (by omega)
theorem Xmc{x:Nat}(h:x<18446744073709551616):Sk .and .u64 (x:Int) 15=((x% 16:Nat):Int):=by
 show IntKind.u64.wrap ((BitVec.ofInt 64 (x:Int)&&&BitVec.ofInt 64 ((15:Nat):Int)).toNat:Int)=_
 rw[BitVec.toNat_and,Lq (by omega),Lq (by omega),He,show(15:Nat)=2^4 - 1 from rfl,Nat.and_two_pow_sub_one_eq_mod]
 omega
theorem digF:∀(j:Nat) (hj:j<16) (h:j<(⟨⟨[48,49,50,51,52,53,54,55,56,57,97,98,99,100,101,102,103,104,105,106,107,108,109,110,111,112,113,114,115,116,117,118,119,120,121,122]⟩⟩:ByteArray).size),(⟨⟨[48,49,50,51,52,53,54,55,56,57,97,98,99,100,101,102,103,104,105,106,107,108,109,110,111,112,113,114,115,116,117,118,119,120,121,122]⟩⟩:ByteArray)[j]=dig j:=by
 have key:∀j:Fin 16,(⟨⟨[48,49,50,51,52,53,54,55,56,57,97,98,99,100,101,102,103,104,105,106,107,108,109,110,111,112,113,114,115,116,117,118,119,120,121,122]⟩⟩:ByteArray)[j.val]'(Nat.lt_of_lt_of_le j.isLt (by decide))=dig j.val:=by decide
 intro j hj h
 exact key ⟨j,hj⟩
theorem Xjc{v:Int}{n:Nat}(h:v=((dig n).toNat:Int)):[D.sc (.int .u8 v)]=cB (dig n):=by rw[h];rfl
theorem Xe9{α:Type}{l:List α}{p:Nat}{x:α}(h:p<l.length):(l.set p x).drop p=x::l.drop (p+1):=by
 rw[List.drop_eq_getElem_cons (by rw[List.length_set];exact h),List.getElem_set_self]
 congr 1
 rw[List.drop_set_of_lt (by omega)]
def Kj:Bool:=true
def P8(_:Int):Int:=4
def M4(u:Int):List UInt8×ByteArray:=([],tx (Xdl u.toNat))
def Ia(n:Int):ByteArray:=tx (Xdl n.toNat)
def Wq(n:Int):ByteArray:=tx (List.replicate n.toNat 48)
theorem tz64{w:World}(h:Lib.TabIs Tryz.prog w "math/bits.deBruijn64tab" .u8 Tw):Calls Tryz.prog 368 #[.int .u64 16] w fun e w'=>e= .returned (.int .i64 4)∧w'=w:=by
 have hq:IntKind.u64.wrap (bits BinOp.and IntKind.u64 16 (IntKind.u64.wrap (-16))*285870213051353865)/288230376151711744=15:=by decide+kernel
 have hc:w.cell? ⟨5,15,none⟩=some (.int .u8 4):=h.cell gn5 15 (by decide)
 go_enter Tryz.func368,Tryz.ntmps368
 go_wp2
 go_ret
 exact⟨rfl,rfl⟩
theorem tz{w:World}(h:Lib.TabIs Tryz.prog w "math/bits.deBruijn64tab" .u8 Tw):Calls Tryz.prog 360 #[.int .u64 16] w fun e w'=>e= .returned (.int .i64 4)∧w'=w:=by
 go_enter Tryz.func360,Tryz.ntmps360
 go_wp2_with (first
  |(go_at_call 368;refine(tz64 h).mono ?_;rintro e w' ⟨rfl,rfl⟩)
  |go_in)
 go_ret
 exact⟨rfl,rfl⟩
variable {o:ByteArray} {n:Int}
theorem L9{x o:Int}(hx:x=16)(hr:P8 x=o):Fn Tryz.prog 360 [.d (.sc (.int .u64 x))] [] ⟨I o,[],[]⟩:=by
 refine⟨Ey Tryz.func360 rfl rfl,CallOk.ofCallsG fun E vs hS hG hA=>?_⟩
 obtain⟨u,rfl,h1⟩:=Xjw hA
 rw[Pw h1,hx]
 refine(tz (Xlj hG)).mono ?_
 rintro e w' ⟨rfl,rfl⟩
 exact⟨_,rfl,⟨rfl,rfl,rfl,Nat.le_refl _,fun _ _=>rfl⟩,by rw[←hr];exact .sc _ rfl⟩
theorem If(hr:Ap n=o):Fn Tryz.prog 157 [I n] [] ⟨S o,[],[]⟩:=by
 refine Fn.go On Tryz.func157 fun P hP Q hQ=>?_
 conv=>cbv
 generalize ac:A6 n 0 1000000000=r1
 refine .dd hP (Dr ac) ?_
 cases r1
 simp only[A6,decide_eq_true_eq,decide_eq_false_iff_not]at ac
 conv=>cbv
 have e:(tx [])=Ap n:=(by unfold Ap;rw[if_neg (by omega)])
 rw[hr]at e
 subst e
 exact hQ _ _ (.s rfl rfl)
 simp only[A6,decide_eq_true_eq,decide_eq_false_iff_not]at ac
 conv=>cbv
 refine LoopW.lp (κ:=Int×(List (List D))×Nat) On hP [0] [0] (fun(i4,aa,ab)=>[(3,.ref 1 0 ab),(4,I i4)]) (fun(i4,aa,ab)=>[(1,.row 1 false aa)])
  (fun(i4,aa,ab)=>∃(w1:List UInt8),w1.map cB=aa∧ab=w1.length∧-1≤i4∧i4≤7∧w1=Z3 (7 - i4).toNat (n.toNat/16^ (i4+1).toNat))
  (fun(i4,aa,ab)=>(i4+1).toNat) (7,[],0) ⟨[],rfl,rfl,by omega,by omega,rfl⟩ ⟨rfl,rfl,trivial⟩ rfl ?_
 rintro⟨i4,aa,ab⟩ J ⟨w1,ad,an,h0,h1,hw⟩ hJ
 have hwl:w1.length=(7 - i4).toNat:=by rw[hw,Rz]
 have hsz:(⟨⟨[48,49,50,51,52,53,54,55,56,57,97,98,99,100,101,102]⟩⟩:ByteArray).size=16:=rfl
 conv=>cbv
 refine .geq (fun h2=>?_) fun h2=>?_
 conv=>cbv
 refine .mul fun v3 ap=>?_
 conv=>cbv
 refine .go fun v4 af=>?_
 conv=>cbv
 have e4:v4=v3:=by rw[af,He];omega
 refine .shr fun v5 ag=>?_
 conv=>cbv
 refine .and fun v6 ah=>?_
 conv=>cbv
 have e5:v5=((n.toNat/16^i4.toNat:Nat):Int):=by
  have e2:(2:Int)^v4.toNat=((16^i4.toNat:Nat):Int):=by
   rw[show v4.toNat=4*i4.toNat by omega,Int.pow_mul,Int.natCast_pow]
   rfl
  rw[ag,e2,Int.natCast_ediv,Int.toNat_of_nonneg (by omega)]
 have e6:v6=((n.toNat/16^i4.toNat% 16:Nat):Int):=by rw[ah,and15,e5];omega
 have aq:n.toNat/16^i4.toNat% 16<16:=Nat.mod_lt _ (by omega)
 refine .go v6.toNat fun hjv7 v7 ai bv7=>?_
 conv=>cbv
 have e7:[D.sc (.int .u8 v7)]=cB (dig (n.toNat/16^i4.toNat)):=Xjc (by rw[ai,digL,e6,Int.toNat_natCast,Xer])
 refine .one (dig (n.toNat/16^i4.toNat)) ad e7 fun aj z8 ao ak=>?_
 conv=>cbv
 refine .sub fun v9 ar=>?_
 conv=>cbv
 exact .go [3] (v9,z8,aj) (hJ _ ⟨_,ak,Gw,by omega,by omega,by rw[hw,show(7 - v9).toNat=(7 - i4).toNat+1 by omega,Z3,show(v9+1).toNat=i4.toNat by omega,Nat.div_div_eq_div_mul,←Nat.pow_succ,show(i4+1).toNat=i4.toNat+1 by omega]⟩ mlt)
 conv=>cbv
 refine .go ad fun s3 ae=>?_
 conv=>cbv
 have au:s3.size=w1.length:=by rw[ae,Bh]
 refine .litL 1 fun s4 al aw=>?_
 conv=>cbv
 refine .litR 4 fun s5 am ax=>?_
 conv=>cbv
 have e:s5=Ap n:=(by unfold Ap;rw[if_pos (by omega),am,al,ae,hw,show i4= -1 by omega];show tx [115]++tx _++tx [46,115,101,103]=_;rw[Dt,Dt];simp)
 rw[hr]at e
 subst e
 exact hQ _ _ (.s rfl rfl)
theorem Iy{o:Bool}(hr:Kj=o):Fn Tryz.prog 359 [I 16] [] ⟨B o,[],[]⟩:=by
 refine Fn.go On Tryz.func359 fun P hP Q hQ=>?_
 conv=>cbv
 refine .sub fun v1 aa=>?_
 conv=>cbv
 refine .and fun v2 ab=>?_
 conv=>cbv
 refine .eql (fun h3=>?_) fun h3=>?_
 conv=>cbv
 have e:true=Kj:=(by rfl)
 rw[hr]at e
 subst e
 exact hQ _ _ (.b rfl rfl)
 conv=>cbv
 have e:false=Kj:=(by exfalso;apply h3;rw[ab,aa];rfl)
 rw[hr]at e
 subst e
 exact hQ _ _ (.b rfl rfl)
theorem Ju{u:Int}{oa:List UInt8}{xoa:List (List D)}{ob:ByteArray}(hu:0≤u∧u<4294967296)(hr:M4 u=(oa,ob))(hoa:oa.map cB=xoa):Fn Tryz.prog 338 [.d (.row 1 []),.d (.sc (.int .u64 u)),I 16,B false,B false] [] ⟨.tup [.d (.row 1 xoa),S ob],[],[]⟩:=by
 refine Fn.go On Tryz.func338 fun P hP Q hQ=>?_
 conv=>cbv
 refine .lss (fun h1=>?_) fun h1=>?_
 omega
 conv=>cbv
 refine .eql (fun h2=>?_) fun h2=>?_
 omega
 conv=>cbv
 refine .gtr (fun h3=>?_) fun h3=>?_
 omega
 conv=>cbv
 refine .go 65 hP (by kernel_rfl) fun z4 ay=>?_
 conv=>cbv
 generalize ai:Kj=r5
 refine .dd hP (Iy ai) ?_
 cases r5
 cases ai
 conv=>cbv
 refine .go fun v6 az=>?_
 conv=>cbv
 generalize aj:P8 v6=r7
 refine .dd hP (L9 (by rw[az,He];rfl) aj) ?_
 conv=>cbv
 refine .go fun v8 a1=>?_
 conv=>cbv
 refine .go fun v9 a2=>?_
 conv=>cbv
 refine .go fun bj ak=>?_
 conv=>cbv
 refine .subW fun a6 al=>?_
 conv=>cbv
 refine LoopW.lp (κ:=Int×Int×(List (List D))) On hP [] [0,3,4,10,11,12,14,15,16] (fun(i1,aa,ab)=>[(1,.d (.sc (.int .u64 i1))),(13,I aa)]) (fun(i1,aa,ab)=>[(1,.row 1 false ab)])
  (fun(i1,aa,ab)=>∃(w1:List UInt8),w1.map cB=ab∧∃k:Nat,i1=((u.toNat/16^k:Nat):Int)∧aa=65 - (k:Int)∧k≤7∧w1.length=65∧Xdl u.toNat=Xdl (u.toNat/16^k)++w1.drop (65 - k))
  (fun(i1,aa,ab)=>(aa).toNat) (u,65,z4) ⟨(List.replicate 65 (0:UInt8)),ay,0,by simp;omega,rfl,by omega,by simp,by simp⟩ ⟨rfl,rfl,trivial⟩ rfl ?_
 rintro⟨i1,aa,ab⟩ J ⟨w1,am,k,af,bf,hk,hwl,hx⟩ hJ
 have e7:r7=4:=aj.symm
 have e8:v8=4:=by rw[a1,He,e7];rfl
 have e9:v9=16:=by rw[a2,He];rfl
 have a7:a6=15:=by rw[al,ak,He,He];rfl
 have hlt:u.toNat/16^k≤u.toNat:=Nat.div_le_self _ _
 have a8:16≤u.toNat/16^k→k<7:=by
  intro h
  rcases Nat.lt_or_ge k 7 with h7|h7
  ·exact h7
  ·obtain rfl:k=7:=by omega
   omega
 have hnx:u.toNat/16^ (k+1)=u.toNat/16^k/16:=by rw[Nat.pow_succ,←Nat.div_div_eq_div_mul]
 generalize hq:u.toNat/16^k=q at*
 conv=>cbv
 refine .geq (fun h12=>?_) fun h12=>?_
 conv=>cbv
 refine .sub fun ag an=>?_
 conv=>cbv
 refine .and fun ac ad=>?_
 conv=>cbv
 have h7:=a8 (by omega)
 have ah:ac=((q% 16:Nat):Int):=by rw[ad,a7,af,Xmc (by omega)]
 have bg:q% 16<16:=Nat.mod_lt _ (by omega)
 refine .go ac.toNat (hj:=by show ac.toNat<36;omega) fun hjv15 ba ao bv15=>?_
 conv=>cbv
 refine .go hP Tryz.underlying283 (by kernel_rfl) fun ap bh=>?_
 conv=>cbv
 have bb:[D.sc (.int .u8 ba)]=cB (dig q):=Xjc (by rw[ao,digF _ (by omega),ah,Int.toNat_natCast,Xer])
 refine .all (dig q) am bb fun bc aq=>?_
 conv=>cbv
 refine .shrW fun bd ar=>?_
 conv=>cbv
 exact .go [] (bd,ag,bc) (hJ _ ⟨_,aq,k+1,by rw[ar,e8,af,Int.fdiv_eq_ediv_of_nonneg _ (by decide),hnx];show(q:Int)/16=_;omega,by omega,by omega,by rw[List.length_set];exact hwl,by rw[hx,XbC (show¬q<16 by omega),List.append_assoc,hnx,show 65 - (k+1)=ap by omega,Xe9 (by omega),show ap+1=65 - k by omega];rfl⟩ mlt)
 conv=>cbv
 refine .sub fun ag an=>?_
 conv=>cbv
 refine .go i1.toNat (hj:=by show i1.toNat<36;omega) fun hjv14 ac ad bv14=>?_
 conv=>cbv
 refine .go hP Tryz.underlying283 (by kernel_rfl) fun au bi=>?_
 conv=>cbv
 have ah:[D.sc (.int .u8 ac)]=cB (dig q):=Xjc (by rw[ad,digF _ (by omega),af,Int.toNat_natCast])
 refine .all (dig q) am ah fun bk ae=>?_
 conv=>cbv
 refine .lo hP ae Tryz.underlying283 (by kernel_rfl) fun on17 bl hon17 aw=>?_
 conv=>cbv
 refine .off ae fun be ax=>?_
 conv=>cbv
 have e:([],be)=M4 u:=(by unfold M4;rw[ax,hx,S9 (show q<16 by omega),hon17,aw,show ag.toNat=au by omega,Xe9 (by omega),show au+1=65 - k by omega,List.take_of_length_le (by simp;omega)];rfl)
 rw[hr]at e
 simp only[Prod.mk.injEq]at e
 obtain⟨rfl,rfl⟩:=e
 refine hQ _ _ ?_
 exact .many (.inl rfl) rfl rfl (.ref rfl rfl (by rw[←hoa];rfl) (.d rfl rfl (.nil)))
theorem Kh(hn:0≤n∧n≤1000000000)(hr:Ia n=o):Fn Tryz.prog 314 [I n,I 16] [] ⟨S o,[],[]⟩:=by
 refine Fn.go On Tryz.func314 fun P hP Q hQ=>?_
 conv=>cbv
 refine .eql (fun h1=>?_) fun h1=>?_
 omega
 conv=>cbv
 refine .go fun v2 aa=>?_
 conv=>cbv
 refine .lss (fun h3=>?_) fun h3=>?_
 omega
 conv=>cbv
 rcases ab:M4 v2 with⟨ad,ae⟩
 generalize ac:ad.map cB=af
 refine .dd hP (Ju (by rw[aa,He];omega) ab ac) ?_
 conv=>cbv
 have e:ae=Ia n:=(by have e2:v2=n:=(by rw[aa,He];omega);unfold Ia;rw[←e2];exact(congrArg Prod.snd ab).symm)
 rw[hr]at e
 subst e
 exact hQ _ _ (.s rfl rfl)
theorem Qp(hn:0≤n∧n≤1000000000)(hr:Ia n=o):Fn Tryz.prog 266 [I n,I 16] [] ⟨S o,[],[]⟩:=by
 refine Fn.go On Tryz.func266 fun P hP Q hQ=>?_
 conv=>cbv
 generalize aa:Ia n=r1
 refine .dd hP (Kh hn aa) ?_
 conv=>cbv
 have e:r1=Ia n:=(by exact aa.symm)
 rw[hr]at e
 subst e
 exact hQ _ _ (.s rfl rfl)
theorem Ua{c:Int}(hc:0≤c∧c≤8)(hr:Wq c=o):Fn Tryz.prog 267 [S (tx [48]),I c] [] ⟨S o,[],[]⟩:=by
 refine⟨Ey Tryz.func267 rfl rfl,CallOk.ofCalls fun E vs hS hA=>?_⟩
 obtain⟨u,v,rfl,h1,h2⟩:=Xmi hA
 rw[Pw h1,Pw h2]
 obtain⟨k,rfl⟩:=Int.eq_ofNat_of_zero_le hc.1
 refine(Tryz.strings_Repeat (tx [48]) k E.w (by omega) (by rw[Bh];simp;omega)).mono ?_
 rintro e w' ⟨rfl,hb⟩
 refine⟨_,rfl,hb,?_⟩
 have:(⟨(Lib.repeatL (tx [48]).data.toList k).toArray⟩:ByteArray)=o:=by
  rw[←hr]
  unfold Wq tx
  congr 2
  rw[Int.toNat_natCast]
  have key:∀k,Lib.repeatL (tx [48]).data.toList k=List.replicate k 48:=by
   intro k
   induction k with
   |zero=>rfl
   |succ k ih=>show[48]++Lib.repeatL _ k=_;rw[ih];rfl
  exact key k
 rw[this]
 exact .sc _ rfl
theorem Ha(hr:Ap n=o):Fn Tryz.prog 203 [I n] [] ⟨S o,[],[]⟩:=by
 refine Fn.go On Tryz.func203 fun P hP Q hQ=>?_
 conv=>cbv
 generalize aa:Bg n=r1
 refine .dd hP (Fv aa) ?_
 cases r1
 simp only[Bg,decide_eq_true_eq,decide_eq_false_iff_not]at aa
 conv=>cbv
 have e:(tx [])=Ap n:=(by unfold Ap;rw[if_neg (by omega)])
 rw[hr]at e
 subst e
 exact hQ _ _ (.s rfl rfl)
 simp only[Bg,decide_eq_true_eq,decide_eq_false_iff_not]at aa
 conv=>cbv
 generalize ab:Ia n=r2
 refine .dd hP (Qp aa ab) ?_
 conv=>cbv
 obtain⟨p1,p2,p3⟩:=XkZ 7 n.toNat (by omega)
 have z2:r2.size=(Xdl n.toNat).length:=by rw[←ab];exact Bh
 refine .go fun v3 ag=>?_
 conv=>cbv
 refine .sub fun v4 ah=>?_
 conv=>cbv
 generalize ac:Wq v4=r5
 refine .dd hP (Ua (by omega) ac) ?_
 conv=>cbv
 have z5:r5.size=v4.toNat:=by rw[←ac];unfold Wq;rw[Bh,List.length_replicate]
 refine .litL 1 fun s6 ad ai=>?_
 conv=>cbv
 refine .go fun s7 ae aj=>?_
 conv=>cbv
 refine .litR 4 fun s8 af ak=>?_
 conv=>cbv
 have e:s8=Ap n:=(by unfold Ap;rw[if_pos (by omega),af,ae,ad,←ac,←ab,p1];unfold Wq Ia;show tx [115]++tx _++tx _++tx [46,115,101,103]=_;rw[Dt,Dt,Dt,show v4.toNat=7+1 - (Xdl n.toNat).length by omega];simp)
 rw[hr]at e
 subst e
 exact hQ _ _ (.s rfl rfl)
end
section
open Go Go.Proofs
set_option maxRecDepth 20000
set_option maxHeartbeats 4000000
def Xbc:List (Nat×TyRow):=[ty3,ty5,ty9,Xf0]
theorem Xbg:Cb Tryz.prog Xbc:=Cb.of (by kernel_rfl)
theorem Pc:Setup Tryz.prog Xbc:=⟨Xbg,mixed⟩
open Go.RowKit
theorem CallOk.callsV{P:Program}{f:FuncId}{as0:List AV}{val:Value}(h:CallOk P f as0 [] ⟨.d (.sc val),[],[]⟩){w:World}(hG:Globs.ok w fun b=>b<w.heap.size){vs:Array Value}
  (hA:Xdq (Bt w (fun b=>b<w.heap.size) (fun _=>none) [] []) as0 vs):Calls P f vs w fun e w'=>e= .returned val∧Below w.heap.size w w':=by
 have hM:Mem (Ga w (fun b=>b<w.heap.size) (fun _=>none) []) (Bt w (fun b=>b<w.heap.size) (fun _=>none) [] []):={
  os:=rfl
  output:=rfl
  tape:=rfl
  size:=Nat.le_refl _
  keep:=fun _ _ _=>rfl
  shape:=fun _ _ h=>h
  s0:=fun _ h=>h
  slt:=fun _ h=>h
  glob:=hG
  snew:=fun _ h=>.inl h
  blt:=fun r b h=>absurd h (Nat.not_lt_zero r)
  bown:=fun r R b h=>absurd h (Nat.not_lt_zero r)
  bkeep:=fun r R h=>absurd h (Nat.not_lt_zero r)
  inj:=fun r r' R R' b h=>absurd h (Nat.not_lt_zero r)
  roots:=fun r R h=>absurd h (Nat.not_lt_zero r)}
 refine(h _ _ _ _ hM hA).mono ?_
 rintro e w' ⟨v,E',rfl,rfl,o⟩
 refine⟨?_,⟨o.mem.os,o.mem.tape,o.mem.output,o.mem.size,fun b hb=>o.mem.keep b hb (fun hn=>?_)⟩⟩
 ·have:=o.rel
  have h2:=Pw this
  rw[h2]
 ·obtain⟨r,R,h1,-⟩:=hn
  simp at h1
theorem Di{w w':World}(hG:Globs.ok w fun b=>b<w.heap.size)(hb:Below w.heap.size w w'):Globs.ok w' fun b=>b<w'.heap.size:=
 Globs.step (fun b h=>Nat.lt_of_lt_of_le h hb.size) (fun b h=>hb.block b h) hG
theorem Xii{w:World}(hG:Globs.ok w fun b=>b<w.heap.size)(n:Int):Calls Tryz.prog 203 #[.int .i64 n] w fun e w'=>e= .returned (.string (Ap n))∧Below w.heap.size w w':=by
 refine(Ha (n:=n) rfl).ok.callsV hG ⟨rfl,?_⟩
 intro j y hy
 match j,hy with
 |0,hy=>cases hy;exact .d _ _ (.sc _ rfl)
def Cl(n:Int):ByteArray:=if 0≤n∧n≤1000000000 then Ap n++tx [46,116,109,112]else tx []
theorem Xeb{n:Int}{o:ByteArray}(e:Cl n=o):o.size≤17:=by
 rw[←e]
 unfold Cl
 split
 ·rw[ByteArray.size_append]
  have:=Ho (n:=n) rfl
  have:(tx [46,116,109,112]).size=4:=rfl
  omega
 ·simp[Bh]
def Ix(c:UInt8):Nat:=if 48≤c.toNat∧c.toNat≤57 then c.toNat - 48 else if 97≤c.toNat∧c.toNat≤102 then c.toNat - 87 else 16
def Fx:Nat→List UInt8→Option Nat
 |acc,[]=>some acc
 |acc,c::l=>if Ix c<16 then Fx (16*acc+Ix c) l else none
theorem Qk:∀(l:List UInt8) (acc:Nat) (c:UInt8),Fx acc (l++[c])=(Fx acc l).bind fun a=>if Ix c<16 then some (16*a+Ix c)else none
 |[],acc,c=>by
  show(if Ix c<16 then Fx _ []else none)=_
  rfl
 |b::l,acc,c=>by
  rw[List.cons_append,Fx,Fx]
  split
  ·exact Qk l _ c
  ·rfl
theorem Wp:∀(l m:List UInt8) (acc:Nat),Fx acc l=none→Fx acc (l++m)=none
 |[],m,acc,h=>by cases h
 |b::l,m,acc,h=>by
  rw[Fx]at h
  rw[List.cons_append,Fx]
  split
  ·rename_i hb;rw[if_pos hb]at h;exact Wp l m _ h
  ·rfl
theorem XgO(n:Nat):Ix (dig n)=n% 16:=by
 have key:∀i:Fin 16,Ix (dig i.val)=i.val:=by decide
 have:=key ⟨n% 16,Nat.mod_lt _ (by omega)⟩
 rw[Xer]at this
 exact this
theorem Xg:∀(k n:Nat),n<16^k→Fx 0 (Z3 k n)=some n
 |0,n,h=>by
  have:n=0:=by simpa using h
  subst this;rfl
 |k+1,n,h=>by
  rw[Z3,Qk,Xg k (n/16) (by rw[Nat.pow_succ]at h;omega),Option.bind_some,XgO,if_pos (Nat.mod_lt _ (by omega))]
  congr 1
  omega
def mid(name:ByteArray):List UInt8:=(name.data.toList.drop 1).take 8
def A5(name:ByteArray):Int×Int:=
 match Fx 0 (mid name)with
 |some n=>if name.size=13∧Ap (n:Int)=name then(1,(n:Int))else if name.size=17∧Cl (n:Int)=name then(2,(n:Int))else(0,0)
 |none=>(0,0)
theorem Xjh{n:Int}(h:0≤n∧n≤1000000000):Ap n=tx (115::(Z3 8 n.toNat++[46,115,101,103])):=if_pos h
theorem XlA{n:Int}(h:0≤n∧n≤1000000000):(Ap n).size=13:=by
 rw[Xjh h,Bh,List.length_cons,List.length_append,Rz];rfl
theorem Xk2{n:Int}(h:0≤n∧n≤1000000000):(Cl n).size=17:=by
 unfold Cl
 rw[if_pos h,ByteArray.size_append,XlA h];rfl
theorem Xmh{n:Int}{l:List UInt8}:mid (tx (115::(Z3 8 n.toNat++l)))=Z3 8 n.toNat:=by
 unfold mid tx
 show((115::(Z3 8 n.toNat++l)).drop 1).take 8=_
 rw[List.drop_succ_cons,List.drop_zero,List.take_left' (Rz 8 n.toNat)]
theorem XkY{n:Int}{l:List UInt8}(h:0≤n∧n≤1000000000):Fx 0 (mid (tx (115::(Z3 8 n.toNat++l))))=some n.toNat:=by
 rw[Xmh,Xg 8 n.toNat (by omega)]
theorem XeO{n:Int}(h:0≤n∧n≤1000000000):A5 (Ap n)=(1,n):=by
 have hh:Fx 0 (mid (Ap n))=some n.toNat:=by rw[Xjh h];exact XkY h
 unfold A5
 rw[hh]
 dsimp only
 rw[Int.toNat_of_nonneg h.1,if_pos ⟨XlA h,rfl⟩]
theorem Xbe{n:Int}(h:0≤n∧n≤1000000000):A5 (Cl n)=(2,n):=by
 have hh:Fx 0 (mid (Cl n))=some n.toNat:=by
  unfold Cl
  rw[if_pos h,Xjh h,Dt,List.cons_append,List.append_assoc];exact XkY h
 unfold A5
 rw[hh]
 dsimp only
 rw[Int.toNat_of_nonneg h.1,if_neg (by rw[Xk2 h];simp),if_pos ⟨Xk2 h,rfl⟩]
theorem Xdo{n:Int}{name:ByteArray}(e:Ap n=name)(h:name.size≠0):0≤n∧n≤1000000000:=by
 rcases Decidable.em (0≤n∧n≤1000000000)with h1|h1
 ·exact h1
 ·exfalso;apply h;rw[←e];unfold Ap;rw[if_neg h1];rfl
theorem Xfn{n:Int}{name:ByteArray}(e:Cl n=name)(h:name.size≠0):0≤n∧n≤1000000000:=by
 rcases Decidable.em (0≤n∧n≤1000000000)with h1|h1
 ·exact h1
 ·exfalso;apply h;rw[←e];unfold Cl;rw[if_neg h1];rfl
theorem Sv{name:ByteArray}(h:∀n,Fx 0 (mid name)=some n→Ap (n:Int)≠name∧Cl (n:Int)≠name):A5 name=(0,0):=by
 unfold A5
 split
 ·rename_i n hn
  rw[if_neg (fun hh=>(h n hn).1 hh.2),if_neg (fun hh=>(h n hn).2 hh.2)]
 ·rfl
theorem Xbk{name:ByteArray}(h:¬(13≤name.size∧name.size≤17)):A5 name=(0,0):=by
 unfold A5
 split
 ·rw[if_neg (fun hh=>h (by omega)),if_neg (fun hh=>h (by omega))]
 ·rfl
theorem XcK{name:ByteArray}(h:Fx 0 (mid name)=none):A5 name=(0,0):=by
 unfold A5
 rw[h]
theorem XkA{c:UInt8}(h:Ix c<16):Fi c=Ix c:=by
 have key:∀i:Fin 256,Ix (UInt8.ofNat i.val)<16→Fi (UInt8.ofNat i.val)=Ix (UInt8.ofNat i.val):=by decide+kernel
 have e:UInt8.ofNat c.toNat=c:=by simp
 have:=key ⟨c.toNat,c.toNat_lt⟩
 rw[e]at this
 exact this h
theorem Z5:∀(l:List UInt8) (acc n:Nat),Fx acc l=some n→G7 acc l=some n
 |[],acc,n,h=>h
 |c::l,acc,n,h=>by
  rw[Fx]at h
  split at h
  ·rename_i hc
   rw[G7,XkA hc,if_pos hc]
   exact Z5 l _ n h
  ·cases h
theorem Xi:∀(l:List UInt8) (acc n:Nat),G7 acc l=some n→n<(acc+1)*16^l.length
 |[],acc,n,h=>by cases h;simp
 |c::l,acc,n,h=>by
  rw[G7]at h
  split at h
  ·have:=Xi l _ n h
   rw[List.length_cons,Nat.pow_succ]
   refine Nat.lt_of_lt_of_le this ?_
   have h2:(16*acc+Fi c+1)*16^l.length≤(16*(acc+1))*16^l.length:=Nat.mul_le_mul_right _ (by omega)
   refine Nat.le_trans h2 (Nat.le_of_eq ?_)
   rw[Nat.mul_comm 16 (acc+1),Nat.mul_assoc,Nat.mul_comm 16]
  ·cases h
theorem CallOk.ofCallsT{P:Program}{f:FuncId}{as0:List AV}{v1 v2:Value}(o1:v1.oneCell'=true)(o2:v2.oneCell'=true)(h:∀(E:Env) (vs:Array Value),(∀b,E.S b→b<E.w.heap.size)→Globs.ok E.w E.S→Xdq E as0 vs→Calls P f vs E.w fun e w'=>e= .returned (.tuple #[v1,v2])∧Below E.w.heap.size E.w w'):CallOk P f as0 [] ⟨.tup [.d (.sc v1),.d (.sc v2)],[],[]⟩:=by
 intro w S β vs hM hA
 refine(h (Bt w S β [] []) vs hM.slt hM.glob hA).mono ?_
 rintro e w' ⟨he,hb⟩
 have hb:Below w.heap.size w w':=hb
 have st:Step (Bt w S β [] []) {Bt w S β [] []with w:=w'}:=⟨fun r R hR=>⟨R,hR,.inr rfl⟩,fun _ h=>h,fun _ _=>rfl,fun _ h=>h,fun b hS=>hb.block b (hM.slt b hS),fun b s hs=>Mz hb hs⟩
 refine⟨.tuple #[v1,v2],{Bt w S β [] []with w:=w'},he,rfl,?_,st,?_,?_,hb.size,.tup _ _ rfl ?_⟩
 ·exact{
   os:=hb.os.trans hM.os
   output:=hb.output.trans hM.output
   tape:=hb.tape.trans hM.tape
   size:=hb.size
   keep:=fun b hlt hn=>hb.block b hlt
   shape:=fun b s hs=>Mz hb hs
   s0:=hM.s0
   slt:=fun b hS=>Nat.lt_of_lt_of_le (hM.slt b hS) hb.size
   glob:=Globs.step st.S st.heap hM.glob
   snew:=hM.snew
   blt:=fun r b hp hβ=>absurd hp (Nat.not_lt_zero r)
   bown:=fun r R b hp=>absurd hp (Nat.not_lt_zero r)
   bkeep:=fun r R hlt hp=>absurd hp (Nat.not_lt_zero r)
   inj:=fun r r' R R' b hp=>absurd hp (Nat.not_lt_zero r)
   roots:=fun r R hp=>absurd hp (Nat.not_lt_zero r)}
 ·rfl
 ·intro r
  constructor
  ·exact fun h=>.inl h
  ·rintro(h|⟨_,h⟩)
   ·exact h
   ·exact absurd h (by simp)
 ·intro j y hy
  match j,hy with
  |0,hy=>cases hy;exact .d _ _ (.sc _ o1)
  |1,hy=>cases hy;exact .d _ _ (.sc _ o2)
variable {n:Int} {o:ByteArray}
theorem X7(hr:Cl n=o):Fn Tryz.prog 202 [I n] [] ⟨S o,[],[]⟩:=by
 refine Fn.go Pc Tryz.func202 fun P hP Q hQ=>?_
 conv=>cbv
 generalize aa:Bg n=r1
 refine .dd hP (Fv aa) ?_
 cases r1
 simp only[Bg,decide_eq_true_eq,decide_eq_false_iff_not]at aa
 conv=>cbv
 have e:(tx [])=Cl n:=(by unfold Cl;rw[if_neg (by omega)])
 rw[hr]at e
 subst e
 exact hQ _ _ (.s rfl rfl)
 simp only[Bg,decide_eq_true_eq,decide_eq_false_iff_not]at aa
 conv=>cbv
 generalize ab:Ap n=r2
 refine .dd hP (Ha ab) ?_
 conv=>cbv
 have ad:=Ho (n:=n) (by assumption)
 refine .litR 4 fun s3 ac ae=>?_
 conv=>cbv
 have e:s3=Cl n:=(by unfold Cl;rw[if_pos (by omega),ac,←ab];rfl)
 rw[hr]at e
 subst e
 exact hQ _ _ (.s rfl rfl)
theorem Yp(hr:Cl n=o):Fn Tryz.prog 189 [I n] [] ⟨S o,[],[]⟩:=by
 refine Fn.go Pc Tryz.func189 fun P hP Q hQ=>?_
 conv=>cbv
 generalize aa:Ap n=r1
 refine .dd hP (If aa) ?_
 conv=>cbv
 refine .eql (fun h2=>?_) fun h2=>?_
 conv=>cbv
 have e:(tx [])=Cl n:=(by unfold Cl;rw[if_neg];intro hh;have:=XlA hh;rw[aa,h2]at this;cases this)
 rw[hr]at e
 subst e
 exact hQ _ _ (.s rfl rfl)
 conv=>cbv
 have ac:=Ho aa
 refine .litR 4 fun s3 ab ad=>?_
 conv=>cbv
 have e:s3=Cl n:=(by unfold Cl;rw[if_pos,ab,←aa];rfl;exact Xdo aa (fun h0=>h2 (by apply ByteArray.ext;exact Array.eq_empty_of_size_eq_zero h0)))
 rw[hr]at e
 subst e
 exact hQ _ _ (.s rfl rfl)
theorem XlO{name:ByteArray}{k:Nat}(h:k+1<name.size)(hk:k<8):(mid name)[k]? =some name[k+1]:=by
 have h':k+1<name.data.toList.length:=by rw[Array.length_toList];exact h
 unfold mid
 rw[List.getElem?_take_of_lt hk,List.getElem?_drop,Nat.add_comm 1 k,List.getElem?_eq_getElem h']
 rfl
theorem Xi5{name:ByteArray}(h:9≤name.size):(mid name).length=8:=by
 have h':name.data.toList.length=name.size:=by rw[Array.length_toList];rfl
 unfold mid
 rw[List.length_take,List.length_drop,h']
 omega
theorem XjA{name:ByteArray}{k n:Nat}(h:k+1<name.size)(hk:k<8)(e:Fx 0 ((mid name).take k)=some n):
  Fx 0 ((mid name).take (k+1))=if Ix name[k+1]<16 then some (16*n+Ix name[k+1])else none:=by
 rw[List.take_add_one,XlO h hk]
 show Fx 0 ((mid name).take k++[name[k+1]])=_
 rw[Qk,e]
 rfl
theorem Xll{name:ByteArray}{k:Nat}(e:Fx 0 ((mid name).take k)=none):Fx 0 (mid name)=none:=by
 rw[←List.take_append_drop k (mid name)]
 exact Wp _ _ _ e
theorem XjO{c:UInt8}(h:48≤c.toNat∧c.toNat≤57):Ix c=c.toNat - 48:=if_pos h
theorem Xko{c:UInt8}(h:¬(48≤c.toNat∧c.toNat≤57))(h2:97≤c.toNat∧c.toNat≤102):Ix c=c.toNat - 87:=by unfold Ix;rw[if_neg h,if_pos h2]
theorem XjK{c:UInt8}(h:¬(48≤c.toNat∧c.toNat≤57))(h2:¬(97≤c.toNat∧c.toNat≤102)):Ix c=16:=by unfold Ix;rw[if_neg h,if_neg h2]
theorem pow16{k:Nat}(h:k≤7):16^k*16≤4294967296:=by
 have:=Nat.pow_le_pow_right (n:=16) (by decide) (show k+1≤8 by omega)
 rw[Nat.pow_succ]at this
 exact this
def K9(l:List Int)(n:Int):Bool:=decide (n∈l)
theorem Xfd{l:List Int}{xl:List (List D)}{o:Bool}(hl:l.map cI=xl)(hn:l.length<2^40)(hr:K9 l n=o):Fn Tryz.prog 141 [.d (.row 1 xl),I n] [] ⟨B o,[],[]⟩:=by
 refine Fn.go Pc Tryz.func141 fun P hP Q hQ=>?_
 conv=>cbv
 refine LoopW.lp (κ:=Int) Pc hP [] [0,1] (fun i5=>[(5,I i5)]) (fun i5=>[])
  (fun i5=>0≤i5∧i5≤l.length∧∀(j:Nat) (hj:j<l.length),j<i5.toNat→l[j]≠n)
  (fun i5=>(l.length - i5).toNat) (0) ⟨by omega,by omega,fun j _ h=>by simp at h⟩ ⟨rfl,trivial⟩ rfl ?_
 rintro i5 J ⟨h0,h1,hb⟩ hJ
 conv=>cbv
 refine .go hl fun v1 ad=>?_
 conv=>cbv
 refine .lss (fun h2=>?_) fun h2=>?_
 conv=>cbv
 refine .go i5.toNat hl fun aa e3 ab=>?_
 conv=>cbv
 refine .eql (fun h4=>?_) fun h4=>?_
 conv=>cbv
 have e:true=K9 l n:=(by unfold K9;symm;rw[decide_eq_true_eq,←h4,ab];exact List.getElem_mem aa)
 rw[hr]at e
 subst e
 exact hQ _ _ (.b rfl rfl)
 conv=>cbv
 refine .add fun v5 ae=>?_
 conv=>cbv
 exact .go [] (v5) (hJ _ ⟨by omega,by omega,fun j hj h=>if e:j=i5.toNat then by subst e;rw[←ab];exact h4 else hb j hj (by omega)⟩ mlt)
 conv=>cbv
 have e:false=K9 l n:=(by unfold K9;symm;rw[decide_eq_false_iff_not];intro hm;obtain⟨j,hj,ac⟩:=List.getElem_of_mem hm;exact hb j hj (by omega) ac)
 rw[hr]at e
 subst e
 exact hQ _ _ (.b rfl rfl)
theorem Pd{name:ByteArray}{oa:Int}{ob:Int}(hs:name.size≤1000000000)(hr:A5 name=(oa,ob)):Fn Tryz.prog 140 [S name] [] ⟨.tup [I oa,I ob],[],[]⟩:=by
 refine Fn.go Pc Tryz.func140 fun P hP Q hQ=>?_
 conv=>cbv
 refine .go fun v1 al=>?_
 conv=>cbv
 generalize ae:A6 v1 13 17=r2
 refine .dd hP (Dr ae) ?_
 cases r2
 simp only[A6,decide_eq_true_eq,decide_eq_false_iff_not]at ae
 conv=>cbv
 have e:(0,0)=A5 name:=(by exact(Xbk (by omega)).symm)
 rw[hr]at e
 simp only[Prod.mk.injEq]at e
 obtain⟨rfl,rfl⟩:=e
 refine hQ _ _ ?_
 exact .many (.inl rfl) rfl rfl (.d rfl rfl (.d rfl rfl (.nil)))
 simp only[A6,decide_eq_true_eq,decide_eq_false_iff_not]at ae
 conv=>cbv
 refine LoopW.lp (κ:=Int×Int) Pc hP [] [0] (fun(i4,i5)=>[(4,I i4),(5,I i5)]) (fun(i4,i5)=>[])
  (fun(i4,i5)=>1≤i5∧i5≤9∧0≤i4∧i4.toNat<16^ (i5 - 1).toNat∧Fx 0 ((mid name).take (i5 - 1).toNat)=some i4.toNat)
  (fun(i4,i5)=>(9 - i5).toNat) (0,1) ⟨by omega,by omega,by omega,by simp,rfl⟩ ⟨rfl,rfl,trivial⟩ rfl ?_
 rintro⟨i4,i5⟩ J ⟨h0,h1,h2,h3_,he⟩ hJ
 conv=>cbv
 refine .lss (fun h3=>?_) fun h3=>?_
 conv=>cbv
 refine .go i5.toNat fun hjv4 v4 ah bv4=>?_
 conv=>cbv
 have hp:=pow16 (k:=(i5 - 1).toNat) (by omega)
 have hc:v4=(name[(i5 - 1).toNat+1].toNat:Int):=by rw[ah];congr 2;congr 1;omega
 have hstep:=XjA (name:=name) (k:=(i5 - 1).toNat) (by omega) (by omega) he
 have am:=name[(i5 - 1).toNat+1].toNat_lt
 refine .id fun v5 an=>?_
 conv=>cbv
 generalize aa:A6 v5 48 57=r6
 refine .dd hP (Dr aa) ?_
 cases r6
 simp only[A6,decide_eq_true_eq,decide_eq_false_iff_not]at aa
 conv=>cbv
 generalize af:A6 v5 97 102=r7
 refine .dd hP (Dr af) ?_
 cases r7
 simp only[A6,decide_eq_true_eq,decide_eq_false_iff_not]at af
 conv=>cbv
 have e:(0,0)=A5 name:=(by exact(XcK (Xll (k:=(i5 - 1).toNat+1) (by rw[hstep,XjK (by omega) (by omega)];rfl))).symm)
 rw[hr]at e
 simp only[Prod.mk.injEq]at e
 obtain⟨rfl,rfl⟩:=e
 refine hQ _ _ ?_
 exact .many (.inl rfl) rfl rfl (.d rfl rfl (.d rfl rfl (.nil)))
 simp only[A6,decide_eq_true_eq,decide_eq_false_iff_not]at af
 conv=>cbv
 have hval:=Xko (c:=name[(i5 - 1).toNat+1]) (by omega) (by omega)
 refine .mul fun v8 ai=>?_
 conv=>cbv
 refine .add fun v9 aj=>?_
 conv=>cbv
 refine .sub fun ab ag=>?_
 conv=>cbv
 refine .add fun ac ak=>?_
 conv=>cbv
 exact .go [] (ab,ac) (hJ _ ⟨by omega,by omega,by omega,by first|(rw[show(ac - 1).toNat=(i5 - 1).toNat+1 by omega,Nat.pow_succ];omega)|(rw[show(ab - 1).toNat=(i5 - 1).toNat+1 by omega,Nat.pow_succ];omega),by first|(rw[show(ac - 1).toNat=(i5 - 1).toNat+1 by omega,hstep,hval,if_pos (by omega)];congr 1;omega)|(rw[show(ab - 1).toNat=(i5 - 1).toNat+1 by omega,hstep,hval,if_pos (by omega)];congr 1;omega)⟩ mlt)
 simp only[A6,decide_eq_true_eq,decide_eq_false_iff_not]at aa
 conv=>cbv
 have hval:=XjO (c:=name[(i5 - 1).toNat+1]) (by omega)
 refine .mul fun v7 ao=>?_
 conv=>cbv
 refine .add fun v8 ai=>?_
 conv=>cbv
 refine .sub fun v9 aj=>?_
 conv=>cbv
 refine .add fun ab ag=>?_
 conv=>cbv
 exact .go [] (v9,ab) (hJ _ ⟨by omega,by omega,by omega,by first|(rw[show(ac - 1).toNat=(i5 - 1).toNat+1 by omega,Nat.pow_succ];omega)|(rw[show(ab - 1).toNat=(i5 - 1).toNat+1 by omega,Nat.pow_succ];omega),by first|(rw[show(ac - 1).toNat=(i5 - 1).toNat+1 by omega,hstep,hval,if_pos (by omega)];congr 1;omega)|(rw[show(ab - 1).toNat=(i5 - 1).toNat+1 by omega,hstep,hval,if_pos (by omega)];congr 1;omega)⟩ mlt)
 conv=>cbv
 generalize ad:Ap i4=r4
 refine .dd hP (If ad) ?_
 conv=>cbv
 refine .eql (fun h5=>?_) fun h5=>?_
 conv=>cbv
 have e:(1,i4)=A5 name:=(by have:=XeO (Xdo (ad.trans h5) (by omega));rw[ad,h5]at this;exact this.symm)
 rw[hr]at e
 simp only[Prod.mk.injEq]at e
 obtain⟨rfl,rfl⟩:=e
 refine hQ _ _ ?_
 exact .many (.inl rfl) rfl rfl (.d rfl rfl (.d rfl rfl (.nil)))
 conv=>cbv
 generalize aa:Cl i4=r6
 refine .dd hP (Yp aa) ?_
 conv=>cbv
 refine .eql (fun h7=>?_) fun h7=>?_
 conv=>cbv
 have e:(2,i4)=A5 name:=(by have:=Xbe (Xfn (aa.trans h7) (by omega));rw[aa,h7]at this;exact this.symm)
 rw[hr]at e
 simp only[Prod.mk.injEq]at e
 obtain⟨rfl,rfl⟩:=e
 refine hQ _ _ ?_
 exact .many (.inl rfl) rfl rfl (.d rfl rfl (.d rfl rfl (.nil)))
 conv=>cbv
 have e:(0,0)=A5 name:=(by refine(Sv fun n hn=>?_).symm;rw[show(i5 - 1).toNat=8 by omega,List.take_of_length_le (by rw[Xi5 (by omega)];omega),hn]at he;cases he;rw[Int.toNat_of_nonneg h2,ad,aa];exact⟨h5,h7⟩)
 rw[hr]at e
 simp only[Prod.mk.injEq]at e
 obtain⟨rfl,rfl⟩:=e
 refine hQ _ _ ?_
 exact .many (.inl rfl) rfl rfl (.d rfl rfl (.d rfl rfl (.nil)))
end
section
open Go Go.Proofs
set_option maxRecDepth 20000
set_option maxHeartbeats 4000000
open Go.RowKit
theorem puPub(t:ByteArray)(h8:t.size=8){w:World}(hi:Hn w 2):Calls Tryz.prog 282 #[.string t,.int .i64 16,.int .i64 32] w fun e w'=>
  (match G7 0 t.data.toList with|some n=>e= .returned (.tuple #[.int .u64 n,.nilIface])|none=>∃x T p,e= .returned (.tuple #[.int .u64 x,.iface T p]))∧Below w.heap.size w w':=by
 obtain⟨ev,h1,h2⟩:=hi
 have hp:=fun w=>pu16 Tryz.lays287 t (by omega) (by omega) w
 have hlt:2<w.heap.size:=Lib.lt_of_cell h1
 have hbel:Below w.heap.size w (Lib.bytesWorld w (Tryz.lays287_ren.t 5) t):=Lib.bytesWorld_below _ _ _
 cases hh:G7 0 t.data.toList with
 |some n=>
  rw[hh]at hp
  replace hp:∀w,Calls Tryz.prog 323 #[.string t,.int .i64 16,.int .i64 32] w fun e w'=>e= .returned (.tuple #[.int .u64 n,.nilIface])∧w'=Lib.bytesWorld w (Tryz.lays287_ren.t 5) t:=hp
  go_enter Tryz.func282,Tryz.ntmps282
  go_wp2_with (go_at_call 323;refine(hp _).mono ?_;rintro e w' ⟨rfl,rfl⟩)
  go_ret2
  exact⟨rfl,hbel⟩
 |none=>
  rw[hh]at hp
  replace hp:∀w,Calls Tryz.prog 323 #[.string t,.int .i64 16,.int .i64 32] w fun e w'=>e= .returned (.tuple #[.int .u64 0,.iface 273 (.int .i64 2)])∧w'=Lib.bytesWorld w (Tryz.lays287_ren.t 5) t:=hp
  go_enter Tryz.func282,Tryz.ntmps282
  go_wp2_with (first
   |(go_at_call 323;refine(hp _).mono ?_;rintro e w' ⟨rfl,rfl⟩)
   |(go_at_call 324;refine(Tryz.strconv_toError_syntax _ t _ _ ev _ (by omega) ((hbel.cell hlt).trans h1) h2).mono ?_;rintro e w' ⟨N,rfl,-,-,hb2⟩))
  go_ret2
  exact⟨⟨_,_,_,rfl⟩,hbel.trans (hb2.mono hbel.size)⟩
theorem XfK{a b:ByteArray}(h:¬a=b):(a.toList==b.toList)=false:=by
 rw[Bool.eq_false_iff]
 exact fun hh=>h ((Lib.bytes_beq_iff _ _).1 hh)
theorem Pe{w:World}(hG:Globs.ok w fun b=>b<w.heap.size){n:Int}{o:ByteArray}(hr:Ap n=o):Calls Tryz.prog 203 #[.int .i64 n] w fun e w'=>e= .returned (.string o)∧Below w.heap.size w w':=by
 rw[←hr];exact Xii hG n
theorem Pp{w:World}(hG:Globs.ok w fun b=>b<w.heap.size){n:Int}{o:ByteArray}(hr:Cl n=o):Calls Tryz.prog 202 #[.int .i64 n] w fun e w'=>e= .returned (.string o)∧Below w.heap.size w w':=by
 refine(X7 (n:=n) hr).ok.callsV hG ⟨rfl,?_⟩
 intro j y hy
 match j,hy with
 |0,hy=>cases hy;exact .d _ _ (.sc _ rfl)
theorem K6{w:World}(hG:Globs.ok w fun b=>b<w.heap.size){n:Int}{o:Bool}(hr:Bg n=o):Calls Tryz.prog 173 #[.int .i64 n] w fun e w'=>e= .returned (.bool o)∧Below w.heap.size w w':=by
 refine(Fv (n:=n) hr).ok.callsV hG ⟨rfl,?_⟩
 intro j y hy
 match j,hy with
 |0,hy=>cases hy;exact .d _ _ (.sc _ rfl)
theorem Xdy{name:ByteArray}(h:9≤name.size):(name.extract 1 9).size=8∧(name.extract 1 9).data.toList=mid name:=by
 have h':9≤name.data.size:=h
 constructor
 ·rw[ByteArray.size_extract];omega
 ·unfold mid
  rw[ByteArray.data_extract,Array.toList_extract,List.extract_eq_take_drop]
set_option maxHeartbeats 1000000 in
set_option maxRecDepth 100000 in
theorem Xd{name:ByteArray}(hs:name.size≤1000000000){w:World}(hG:Globs.ok w fun b=>b<w.heap.size):Calls Tryz.prog 219 #[.string name] w fun e w'=>
  e= .returned (.tuple #[.int .i64 (A5 name).1,.int .i64 (A5 name).2])∧Below w.heap.size w w':=by
 by_cases h9:name.size<9
 ·rw[Xbk (by omega)]
  go_enter Tryz.func219,Tryz.ntmps219
  go_wp2
  go_ret2
  exact⟨rfl,Below.refl _ _⟩
 obtain⟨hx8,hxl⟩:=Xdy (name:=name) (by omega)
 have hpu:=fun(w:World) (hi:Hn w 2)=>puPub (name.extract 1 9) hx8 hi
 rw[hxl]at hpu
 have hG3:∀{w:World},(Globs.ok w fun b=>b<w.heap.size)→Hn w 2:=fun h=>Xhm h
 cases hh:G7 0 (mid name)with
 |none=>
  simp only[hh]at hpu
  rw[XcK (by
   cases h:Fx 0 (mid name)with
   |none=>rfl
   |some n=>rw[Z5 _ _ _ h]at hh;cases hh)]
  go_enter Tryz.func219,Tryz.ntmps219
  go_wp2_with (go_at_call 282;refine(hpu _ (hG3 hG)).mono ?_;rintro e w' ⟨⟨x,T,p,rfl⟩,hb⟩)
  go_ret2
  exact⟨rfl,hb⟩
 |some m=>
  simp only[hh]at hpu
  have hm:m<4294967296:=by
   have:=Xi _ _ _ hh
   rw[Xi5 (by omega)]at this
   omega
  have hmn:∀n,Fx 0 (mid name)=some n→n=m:=fun n hn=>by
   have:=Z5 _ _ _ hn
   rw[hh]at this
   exact(Option.some.inj this).symm
  obtain⟨M,hM⟩:∃M:Int,M=(m:Int):=⟨_,rfl⟩
  have hM0:0≤M:=by omega
  have hM1:M<4294967296:=by omega
  simp only[←hM]at hpu
  by_cases hnum:M≤1000000000
  ·have hrn:Bg M=true:=decide_eq_true ⟨hM0,hnum⟩
   obtain⟨sg,hsg⟩:∃s,Ap M=s:=⟨_,rfl⟩
   obtain⟨tp,htp⟩:∃s,Cl M=s:=⟨_,rfl⟩
   by_cases hse:name=sg
   ·have hR:A5 name=(1,M):=by rw[hse,←hsg];exact XeO ⟨hM0,hnum⟩
    rw[hR]
    dsimp only
    clear hmn hh hxl hR hM
    subst hse
    go_enter Tryz.func219,Tryz.ntmps219
    go_wp2_with (first
     |(go_at_call 282;refine(hpu _ (hG3 hG)).mono ?_;rintro e w1 ⟨rfl,aa⟩;have hG1:=Di hG aa)
     |(go_at_call 173;refine(K6 hG1 hrn).mono ?_;rintro e w2 ⟨rfl,hb2⟩;have hG2:=Di hG1 hb2)
     |(go_at_call 203;refine(Pe hG2 hsg).mono ?_;rintro e w3 ⟨rfl,ab⟩;have hG3_:=Di hG2 ab)
     |(go_at_call 202;refine(Pp hG3_ htp).mono ?_;rintro e w4 ⟨rfl,ac⟩))
    go_ret2
    exact⟨rfl,(aa.trans (hb2.mono aa.size)).trans (ab.mono (aa.trans (hb2.mono aa.size)).size)⟩
   ·by_cases hte:name=tp
    ·have hR:A5 name=(2,M):=by rw[hte,←htp];exact Xbe ⟨hM0,hnum⟩
     rw[hR]
     dsimp only
     clear hmn hh hxl hR hM
     subst hte
     have ad:=XfK hse
     go_enter Tryz.func219,Tryz.ntmps219
     go_wp2_with (first
      |(go_at_call 282;refine(hpu _ (hG3 hG)).mono ?_;rintro e w1 ⟨rfl,aa⟩;have hG1:=Di hG aa)
      |(go_at_call 173;refine(K6 hG1 hrn).mono ?_;rintro e w2 ⟨rfl,hb2⟩;have hG2:=Di hG1 hb2)
      |(go_at_call 203;refine(Pe hG2 hsg).mono ?_;rintro e w3 ⟨rfl,ab⟩;have hG3_:=Di hG2 ab)
      |(go_at_call 202;refine(Pp hG3_ htp).mono ?_;rintro e w4 ⟨rfl,ac⟩))
     go_ret2
     exact⟨rfl,((aa.trans (hb2.mono aa.size)).trans (ab.mono (aa.trans (hb2.mono aa.size)).size)).trans (ac.mono ((aa.trans (hb2.mono aa.size)).trans (ab.mono (aa.trans (hb2.mono aa.size)).size)).size)⟩
    ·have hR:A5 name=(0,0):=Sv fun n hn=>by
      rw[hmn n hn,←hM,hsg,htp]
      exact⟨fun e=>hse e.symm,fun e=>hte e.symm⟩
     rw[hR]
     dsimp only
     clear hmn hh hxl hR hM
     have ad:=XfK hse
     have ae:=XfK hte
     go_enter Tryz.func219,Tryz.ntmps219
     go_wp2_with (first
      |(go_at_call 282;refine(hpu _ (hG3 hG)).mono ?_;rintro e w1 ⟨rfl,aa⟩;have hG1:=Di hG aa)
      |(go_at_call 173;refine(K6 hG1 hrn).mono ?_;rintro e w2 ⟨rfl,hb2⟩;have hG2:=Di hG1 hb2)
      |(go_at_call 203;refine(Pe hG2 hsg).mono ?_;rintro e w3 ⟨rfl,ab⟩;have hG3_:=Di hG2 ab)
      |(go_at_call 202;refine(Pp hG3_ htp).mono ?_;rintro e w4 ⟨rfl,ac⟩))
     go_ret2
     exact⟨rfl,((aa.trans (hb2.mono aa.size)).trans (ab.mono (aa.trans (hb2.mono aa.size)).size)).trans (ac.mono ((aa.trans (hb2.mono aa.size)).trans (ab.mono (aa.trans (hb2.mono aa.size)).size)).size)⟩
  ·have hrn:Bg M=false:=decide_eq_false fun h=>hnum h.2
   obtain⟨sg,hsg⟩:∃s,Ap M=s:=⟨_,rfl⟩
   obtain⟨tp,htp⟩:∃s,Cl M=s:=⟨_,rfl⟩
   have hR:A5 name=(0,0):=Sv fun n hn=>by
    rw[hmn n hn,←hM]
    exact⟨fun e=>hnum (Xdo e (by omega)).2,fun e=>hnum (Xfn e (by omega)).2⟩
   rw[hR]
   dsimp only
   clear hmn hh hxl hR hM
   go_enter Tryz.func219,Tryz.ntmps219
   go_wp2_with (first
    |(go_at_call 282;refine(hpu _ (hG3 hG)).mono ?_;rintro e w1 ⟨rfl,aa⟩;have hG1:=Di hG aa)
    |(go_at_call 173;refine(K6 hG1 hrn).mono ?_;rintro e w2 ⟨rfl,hb2⟩;have hG2:=Di hG1 hb2)
    |(go_at_call 203;refine(Pe hG2 hsg).mono ?_;rintro e w3 ⟨rfl,ab⟩;have hG3_:=Di hG2 ab)
    |(go_at_call 202;refine(Pp hG3_ htp).mono ?_;rintro e w4 ⟨rfl,ac⟩))
   go_ret2
   exact⟨rfl,aa.trans (hb2.mono aa.size)⟩
theorem Tf{name:ByteArray}{oa ob:Int}(hs:name.size≤1000000000)(hr:A5 name=(oa,ob)):Fn Tryz.prog 219 [S name] [] ⟨.tup [I oa,I ob],[],[]⟩:=by
 refine⟨Ey Tryz.func219 rfl rfl,CallOk.ofCallsT rfl rfl fun E vs hS hG hA=>?_⟩
 obtain⟨u,rfl,h1⟩:=Xjw hA
 rw[Pw h1]
 have h2:=Xd hs (Globs.step hS (fun _ _=>rfl) hG)
 rw[hr]at h2
 exact h2
end
section
open Go Go.Proofs
set_option maxRecDepth 20000
set_option maxHeartbeats 4000000
def XeL:List (Nat×TyRow):=[ty3,ty9,X1,Xf0,W8,Xab,XjE,XgN,XjR]
theorem XeA:Cb Tryz.prog XeL:=Cb.of (by kernel_rfl)
theorem F8:Setup Tryz.prog XeL:=⟨XeA,mixed⟩
def Cn(d:Aa)(base:Int):ByteArray:=(G6 d (Ap base)).1
def D1(b:ByteArray)(base link:Int):Bool:=(Ca b).2&&decide ((Ca b).1.base_=base)&&decide ((Ca b).1.link_=link)
def Ir(link:Int)(r:ByteArray):Int:=Gp link (Av r.size 4++r)
def Gq(link:Int)(l:List ByteArray):Int:=l.foldl Ir link
def Dh(b:ByteArray):List ByteArray:=(As b).records_
def Ja(b:ByteArray):Int:=Gq (As b).head_.link_ (As b).records_
def Jz(d:Aa):Nat→Int→Int→List Td
 |0,_,_=>[]
 |k+1,base,sum=>if D1 (Cn d base) base sum=true∧Dh (Cn d base)≠[]then
   ⟨base,Cn d base,As (Cn d base)⟩::Jz d k (base+(Dh (Cn d base)).length) (Gq sum (Dh (Cn d base)))else[]
def J0(d:Aa):List Td:=Jz d 16 0 0
def Dm(d:Aa):List Int:=(J0 d).map (·.base_)
def Ll(d:Aa):List ByteArray:=(J0 d).flatMap fun x=>x.scan_.records_
def Em(d:Aa):List Int:=(J0 d).map fun x=>x.scan_.head_.version_
theorem Gk{d:Aa}{b:Int}{t:ByteArray}(hd:okD d)(e:Cn d b=t):t.size≤1000000000:=by
 rw[←e]
 exact Xen (ok:=(G6 d (Ap b)).2) hd rfl
theorem Ox{t:ByteArray}{b s:Int}(h:D1 t b s=true):∃hh,Ca t=(hh,true)∧hh.base_=b∧hh.link_=s∧0≤b∧b≤1000000000:=by
 unfold D1 at h
 simp only[Bool.and_eq_true,decide_eq_true_eq]at h
 rcases e:Ca t with⟨hh,ok⟩
 rw[e]at h
 obtain⟨⟨h1,h2⟩,h3⟩:=h
 simp only[]at h1 h2 h3
 subst h1
 have h4:=(F4 e).2.2
 obtain⟨v,st,bs,lk⟩:=hh
 have h5:=G2 h4
 exact⟨_,rfl,h2,h3,by simp only[]at h2;omega,by simp only[]at h2;omega⟩
theorem Wk{t:ByteArray}{hh:Bp}(e:Ca t=(hh,true)):(As t).head_=hh∧(As t).ok_=true:=by unfold As;rw[e];exact⟨rfl,rfl⟩
theorem W5{t:ByteArray}{b s:Int}(h:D1 t b s=true):Ja t=Gq s (Dh t):=by
 obtain⟨hh,h1,h2,h3,_⟩:=Ox h
 unfold Ja Dh
 rw[(Wk h1).1,h3]
theorem Sy{t:ByteArray}{b s:Int}{l:List ByteArray}(h:D1 t b s=true)(e:Dh t=l):Ja t=Gq s l:=by rw[W5 h,e]
theorem Si{d:Aa}{k:Nat}{b s:Int}{t:ByteArray}(h1:Cn d b=t)(h2:D1 t b s=false∨Dh t=[]):Jz d k b s=[]:=by
 cases k with
 |zero=>rfl
 |succ k=>
  rw[Jz,h1,if_neg]
  rintro⟨h3,h4⟩
  rcases h2 with h2|h2
  ·rw[h2]at h3;cases h3
  ·exact h4 h2
theorem V7{d:Aa}{k:Nat}{b s:Int}{t:ByteArray}(h1:Cn d b=t)(h2:D1 t b s=true)(h3:Dh t≠[]):Jz d (k+1) b s=⟨b,t,As t⟩::Jz d k (b+(Dh t).length) (Gq s (Dh t)):=by
 rw[Jz,h1,if_pos ⟨h2,h3⟩]
theorem Sm{d:Aa}:∀{k:Nat} {b s:Int},(Jz d k b s).length≤k
 |0,_,_=>Nat.le_refl _
 |k+1,b,s=>by
  rw[Jz]
  split
  ·rw[List.length_cons];exact Nat.succ_le_succ Sm
  ·exact Nat.zero_le _
theorem Yl{d:Aa}:∀{k:Nat} {b s:Int},∀x∈Jz d k b s,x.text_=Cn d x.base_∧x.scan_=As (Cn d x.base_)∧∃s',D1 (Cn d x.base_) x.base_ s'=true
 |0,_,_,x,hx=>by simp[Jz]at hx
 |k+1,b,s,x,hx=>by
  rw[Jz]at hx
  split at hx
  ·rename_i h
   rw[List.mem_cons]at hx
   rcases hx with rfl|hx
   ·exact⟨rfl,rfl,s,h.1⟩
   ·exact Yl x hx
  ·simp at hx
theorem Jb{d:Aa}{l:List Td}(e:J0 d=l):l.length≤16:=by rw[←e];exact Sm
theorem Gh{d:Aa}{l:List Int}(e:Dm d=l):l.length≤16:=by rw[←e];unfold Dm;rw[List.length_map];exact Sm
theorem Mk{d:Aa}{l:List Td}(e:J0 d=l){x:Td}(hx:x∈l):x.text_=Cn d x.base_∧x.scan_=As (Cn d x.base_)∧∃s',D1 (Cn d x.base_) x.base_ s'=true:=by rw[←e]at hx;exact Yl x hx
theorem Xbs{d:Aa}{α:Type}(f:Td→α)(g:Int→α)(h:∀x,x.text_=Cn d x.base_→x.scan_=As (Cn d x.base_)→f x=g x.base_):(J0 d).map f=(Dm d).map g:=by
 unfold Dm
 rw[List.map_map]
 refine List.map_congr_left fun x hx=>?_
 obtain⟨h1,h2,_⟩:=Mk rfl hx
 exact h x h1 h2
theorem Vl{d:Aa}:Ll d=(Dm d).flatMap fun b=>Dh (Cn d b):=by
 unfold Ll
 rw[List.flatMap_def,List.flatMap_def]
 congr 1
 exact Xbs _ _ fun x h1 h2=>by rw[h2];rfl
theorem Xa{d:Aa}:Em d=(Dm d).map fun b=>(Ca (Cn d b)).1.version_:=by
 unfold Em Dm
 rw[List.map_map]
 refine List.map_congr_left fun x hx=>?_
 obtain⟨h1,h2,s,h3⟩:=Mk rfl hx
 obtain⟨hh,h4,_⟩:=Ox h3
 show x.scan_.head_.version_=(Ca (Cn d x.base_)).1.version_
 rw[h2,(Wk h4).1,h4]
theorem XfI:∀(k:Nat) {h:Bp} {b:ByteArray} {n:Nat} {p:Int},(b.size - p).toNat≤k→0≤p∧p≤b.size→∀r∈(Fy h b n p).1,r.size≤60
 |k,h,b,n,p,hk,hp=>by
  cases hm:D9 h.version_ (h.base_+n) b p
  ·rcases hf:Az h.version_ (h.base_+n) b p with⟨r,q,ok⟩
   cases ok
   ·rw[Me hm hf];simp
   ·have h2:=Hd hf
    rw[Mi hm hf]
    cases k with
    |zero=>omega
    |succ k=>
     have ih:=XfI k (h:=h) (b:=b) (n:=n+1) (p:=q) (by omega) (by omega)
     intro x hx
     rcases List.mem_cons.1 hx with rfl|hx
     ·omega
     ·exact ih x hx
  ·rw[Mm hm];simp
theorem Y9{b:ByteArray}:∀r∈(As b).records_,r.size≤60:=by
 unfold As
 split
 ·rename_i h e
  have h2:=F4 e
  exact XfI _ (h:=h) (b:=b) (n:=0) (p:=24) (Nat.le_refl _) (by omega)
 ·simp
theorem Q2{α β:Type}{f:α→β}{l:List α}{k:Nat}(h:k<l.length):(l.take (k+1)).map f=(l.take k).map f++[f l[k]]:=by rw[List.take_succ_eq_append_getElem h,List.map_append];rfl
theorem Gl{α β:Type}{f:α→List β}{l:List α}{k:Nat}(h:k<l.length):(l.take (k+1)).flatMap f=(l.take k).flatMap f++f l[k]:=by rw[List.take_succ_eq_append_getElem h,List.flatMap_append];simp
variable {Ae:List Be} {A3 A2 A1 A4 xo:List (List D)} {Ag Ah:List Ad} {Af:List ByteArray} {Aj Ai base o link:Int} {b r:ByteArray}
theorem Xfs{o:ByteArray}(Ak:Ae.map A8=A3)(Al:Ag.map Ac=A2)(Ao:Ah.map Ac=A1)(An:Af.map cS=A4)(hd:okD ⟨Ae,Ag,Ah,Af,Aj,Ai⟩)(hr:Cn (⟨Ae,Ag,Ah,Af,Aj,Ai⟩:Aa) base=o):Fn Tryz.prog 198 [.agg [.d (.row 3 A3),.d (.row 2 A2),.d (.row 2 A1),.d (.row 1 A4),I Aj,I Ai],I base] [] ⟨S o,[],[]⟩:=by
 refine Fn.go F8 Tryz.func198 fun P hP Q hQ=>?_
 conv=>cbv
 generalize aa:Ap base=r1
 refine .dd hP (Ha aa) ?_
 conv=>cbv
 rcases ab:G6 (⟨Ae,Ag,Ah,Af,Aj,Ai⟩:Aa) r1 with⟨ac,ad⟩
 refine .dd hP (Xgu Ak Al Ao An hd ab) ?_
 conv=>cbv
 have e:ac=Cn (⟨Ae,Ag,Ah,Af,Aj,Ai⟩:Aa) base:=(by unfold Cn;rw[aa,ab])
 rw[hr]at e
 subst e
 exact hQ _ _ (.s rfl rfl)
theorem Q7{o:ByteArray}(Ak:Ae.map A8=A3)(Al:Ag.map Ac=A2)(Ao:Ah.map Ac=A1)(An:Af.map cS=A4)(hd:okD ⟨Ae,Ag,Ah,Af,Aj,Ai⟩)(hr:Cn (⟨Ae,Ag,Ah,Af,Aj,Ai⟩:Aa) base=o):Fn Tryz.prog 99 [.agg [.d (.row 3 A3),.d (.row 2 A2),.d (.row 2 A1),.d (.row 1 A4),I Aj,I Ai],I base] [] ⟨S o,[],[]⟩:=by
 refine Fn.go F8 Tryz.func99 fun P hP Q hQ=>?_
 conv=>cbv
 generalize aa:Ap base=r1
 refine .dd hP (If aa) ?_
 conv=>cbv
 rcases ab:G6 (⟨Ae,Ag,Ah,Af,Aj,Ai⟩:Aa) r1 with⟨ac,ad⟩
 refine .dd hP (Xgm Ak Al Ao An hd ab) ?_
 conv=>cbv
 have e:ac=Cn (⟨Ae,Ag,Ah,Af,Aj,Ai⟩:Aa) base:=(by unfold Cn;rw[aa,ab])
 rw[hr]at e
 subst e
 exact hQ _ _ (.s rfl rfl)
theorem XjU{o:Bool}(hs:b.size<2^47)(hr:D1 b base link=o):Fn Tryz.prog 200 [S b,I base,I link] [] ⟨B o,[],[]⟩:=by
 refine Fn.go F8 Tryz.func200 fun P hP Q hQ=>?_
 conv=>cbv
 rcases aa:Ca b with⟨⟨ab,ac,ad,ae⟩,af⟩
 refine .dd hP (Yd (by omega) aa) ?_
 conv=>cbv
 cases af
 conv=>cbv
 have e:false=D1 b base link:=(by unfold D1;rw[aa];rfl)
 rw[hr]at e
 subst e
 exact hQ _ _ (.b rfl rfl)
 conv=>cbv
 refine .eql (fun h2=>?_) fun h2=>?_
 conv=>cbv
 refine .eql (fun h3=>?_) fun h3=>?_
 conv=>cbv
 have e:true=D1 b base link:=(by unfold D1;rw[aa];simp[h2,h3])
 rw[hr]at e
 subst e
 exact hQ _ _ (.b rfl rfl)
 conv=>cbv
 have e:false=D1 b base link:=(by unfold D1;rw[aa];simp[h2,h3])
 rw[hr]at e
 subst e
 exact hQ _ _ (.b rfl rfl)
 conv=>cbv
 have e:false=D1 b base link:=(by unfold D1;rw[aa];simp[h2])
 rw[hr]at e
 subst e
 exact hQ _ _ (.b rfl rfl)
theorem XgL(hb:r.size<2^40)(hr:Ir link r=o):Fn Tryz.prog 265 [I link,S r] [] ⟨I o,[],[]⟩:=by
 refine Fn.go F8 Tryz.func265 fun P hP Q hQ=>?_
 conv=>cbv
 refine .go fun v1 ac=>?_
 conv=>cbv
 generalize aa:Av v1 4=r2
 have zr2:=Cm aa
 refine .dd hP (Fs (by omega) aa) ?_
 conv=>cbv
 refine .go fun s3 ad ae=>?_
 conv=>cbv
 generalize ab:Gp link s3=r4
 have zr4:=O8 ab
 refine .dd hP (XaR (by omega) ab) ?_
 conv=>cbv
 have e:r4=Ir link r:=(by subst_vars;rfl)
 rw[hr]at e
 subst e
 exact hQ _ _ (.i rfl rfl)
theorem Xju{o:Bool}(hs:b.size<2^47)(hr:D1 b base link=o):Fn Tryz.prog 184 [S b,I base,I link] [] ⟨B o,[],[]⟩:=by
 refine Fn.go F8 Tryz.func184 fun P hP Q hQ=>?_
 conv=>cbv
 rcases aa:Ca b with⟨⟨ab,ac,ad,ae⟩,af⟩
 refine .dd hP (Tb (by omega) aa) ?_
 conv=>cbv
 cases af
 conv=>cbv
 have e:false=D1 b base link:=(by unfold D1;rw[aa];rfl)
 rw[hr]at e
 subst e
 exact hQ _ _ (.b rfl rfl)
 conv=>cbv
 refine .eql (fun h2=>?_) fun h2=>?_
 conv=>cbv
 refine .eql (fun h3=>?_) fun h3=>?_
 conv=>cbv
 have e:true=D1 b base link:=(by unfold D1;rw[aa];simp[h2,h3])
 rw[hr]at e
 subst e
 exact hQ _ _ (.b rfl rfl)
 conv=>cbv
 have e:false=D1 b base link:=(by unfold D1;rw[aa];simp[h2,h3])
 rw[hr]at e
 subst e
 exact hQ _ _ (.b rfl rfl)
 conv=>cbv
 have e:false=D1 b base link:=(by unfold D1;rw[aa];simp[h2])
 rw[hr]at e
 subst e
 exact hQ _ _ (.b rfl rfl)
theorem XgW(hb:r.size<2^40)(hr:Ir link r=o):Fn Tryz.prog 255 [I link,S r] [] ⟨I o,[],[]⟩:=by
 refine Fn.go F8 Tryz.func255 fun P hP Q hQ=>?_
 conv=>cbv
 refine .go fun v1 ac=>?_
 conv=>cbv
 generalize aa:Av v1 4=r2
 have zr2:=Cm aa
 refine .dd hP (Fe (by omega) aa) ?_
 conv=>cbv
 refine .go fun s3 ad ae=>?_
 conv=>cbv
 generalize ab:Gp link s3=r4
 have zr4:=O8 ab
 refine .dd hP (Xdb (by omega) ab) ?_
 conv=>cbv
 have e:r4=Ir link r:=(by subst_vars;rfl)
 rw[hr]at e
 subst e
 exact hQ _ _ (.i rfl rfl)
theorem Xi1{l:List ByteArray}{xl:List (List D)}(hl:l.map cS=xl)(hn:l.length<2^40)(hb:∀r∈l,r.size≤60)(hr:Gq link l=o):Fn Tryz.prog 201 [I link,.d (.row 1 xl)] [] ⟨I o,[],[]⟩:=by
 refine Fn.go F8 Tryz.func201 fun P hP Q hQ=>?_
 conv=>cbv
 refine .go hl fun v1 ad=>?_
 conv=>cbv
 refine LoopW.lp (κ:=Int×Int) F8 hP [] [7,8] (fun(i0,i9)=>[(0,I i0),(9,I i9)]) (fun(i0,i9)=>[])
  (fun(i0,i9)=>0≤i9∧i9≤l.length∧i0=Gq link (l.take i9.toNat))
  (fun(i0,i9)=>(l.length - i9).toNat) (link,0) ⟨by omega,by omega,rfl⟩ ⟨rfl,rfl,trivial⟩ rfl ?_
 rintro⟨i0,i9⟩ J ⟨h0,h1,hx⟩ hJ
 conv=>cbv
 refine .lss (fun h2=>?_) fun h2=>?_
 conv=>cbv
 refine .go i9.toNat hl fun aa e3 ab=>?_
 conv=>cbv
 have zb:=hb e3 (ab▸List.getElem_mem _)
 generalize ac:Ir i0 e3=r4
 refine .dd hP (XgL (by omega) ac) ?_
 conv=>cbv
 refine .add fun v5 ae=>?_
 conv=>cbv
 exact .go [] (r4,v5) (hJ _ ⟨by omega,by omega,by rw[show v5.toNat=i9.toNat+1 by omega,List.take_succ_eq_append_getElem aa,Gq,List.foldl_append,←ab];show r4=Ir (Gq link (l.take i9.toNat)) e3;rw[←hx,ac]⟩ mlt)
 conv=>cbv
 have e:i0=Gq link l:=(by rw[hx,List.take_of_length_le (by omega)])
 rw[hr]at e
 subst e
 exact hQ _ _ (.i rfl rfl)
theorem Wb{o:List ByteArray}(hs:b.size<2^47)(hr:Dh b=o)(ho:o.map cS=xo):Fn Tryz.prog 138 [S b] [] ⟨.d (.row 1 xo),[],[]⟩:=by
 refine Fn.go F8 Tryz.func138 fun P hP Q hQ=>?_
 conv=>cbv
 rcases ai:As b with⟨an,⟨ae,af,ag,ah⟩,ab,ad,al,am⟩
 generalize aa:ab.map cS=aj
 generalize ac:ad.map cI=ak
 refine .dd hP (Md (by omega) ai aa ac) ?_
 conv=>cbv
 have e:ab=Dh b:=(by unfold Dh;rw[ai])
 rw[hr]at e
 subst e
 exact hQ _ _ (.d rfl (by rw[←aa,←ho]))
theorem Xdw(hs:b.size<2^40)(hr:Ja b=o):Fn Tryz.prog 185 [S b] [] ⟨I o,[],[]⟩:=by
 refine Fn.go F8 Tryz.func185 fun P hP Q hQ=>?_
 conv=>cbv
 rcases ae:As b with⟨aq,⟨ag,ah,ai,aa⟩,ab,af,ao,ap⟩
 generalize ac:ab.map cS=am
 generalize ad:af.map cI=an
 refine .dd hP (Md (by omega) ae ac ad) ?_
 conv=>cbv
 refine LoopW.lp (κ:=Int×Int) F8 hP [] [3] (fun(i4,i5)=>[(4,I i4),(5,I i5)]) (fun(i4,i5)=>[])
  (fun(i4,i5)=>0≤i5∧i5≤ab.length∧i4=Gq aa (ab.take i5.toNat))
  (fun(i4,i5)=>(ab.length - i5).toNat) (aa,0) ⟨by omega,by omega,rfl⟩ ⟨rfl,rfl,trivial⟩ rfl ?_
 rintro⟨i4,i5⟩ J ⟨h0,h1,hx⟩ hJ
 have zs:=Y9 (b:=b)
 have zl:=Gi (b:=b)
 rw[ae]at zs zl
 simp only[]at zs zl
 conv=>cbv
 refine .go ac fun v2 ar=>?_
 conv=>cbv
 refine .lss (fun h3=>?_) fun h3=>?_
 conv=>cbv
 refine .go i5.toNat ac fun aj e4 ak=>?_
 conv=>cbv
 have zb:=zs e4 (ak▸List.getElem_mem _)
 generalize al:Ir i4 e4=r5
 refine .dd hP (XgW (by omega) al) ?_
 conv=>cbv
 refine .add fun v6 au=>?_
 conv=>cbv
 exact .go [] (r5,v6) (hJ _ ⟨by omega,by omega,by rw[show v6.toNat=i5.toNat+1 by omega,List.take_succ_eq_append_getElem aj,Gq,List.foldl_append,←ak];show r5=Ir (Gq aa (ab.take i5.toNat)) e4;rw[←hx,al]⟩ mlt)
 conv=>cbv
 have e:i4=Ja b:=(by unfold Ja;rw[ae,hx,List.take_of_length_le (by omega)])
 rw[hr]at e
 subst e
 exact hQ _ _ (.i rfl rfl)
theorem Xah{o:List Td}(Ak:Ae.map A8=A3)(Al:Ag.map Ac=A2)(Ao:Ah.map Ac=A1)(An:Af.map cS=A4)(hd:okD ⟨Ae,Ag,Ah,Af,Aj,Ai⟩)(hr:J0 (⟨Ae,Ag,Ah,Af,Aj,Ai⟩:Aa)=o)(ho:o.map XgB=xo):Fn Tryz.prog 108 [.agg [.d (.row 3 A3),.d (.row 2 A2),.d (.row 2 A1),.d (.row 1 A4),I Aj,I Ai]] [] ⟨.d (.row 11 xo),[],[]⟩:=by
 refine Fn.go F8 Tryz.func108 fun P hP Q hQ=>?_
 conv=>cbv
 refine LoopW.lp (κ:=Int×Int×(List (List D))×Nat) F8 hP [2] [1] (fun(i4,i5,af,ac)=>[(3,.ref 3 0 ac),(4,I i4),(5,I i5)]) (fun(i4,i5,af,ac)=>[(3,.row 11 false af)])
  (fun(i4,i5,af,ac)=>∃(w3:List Td),w3.map XgB=af∧ac=w3.length∧(w3.length≤16∧0≤i4∧i4≤2000000000)∧J0 (⟨Ae,Ag,Ah,Af,Aj,Ai⟩:Aa)=w3++Jz (⟨Ae,Ag,Ah,Af,Aj,Ai⟩:Aa) (16 - w3.length) i4 i5)
  (fun(i4,i5,af,ac)=>16 - ac) (0,0,[],0) ⟨[],rfl,rfl,by simp,rfl⟩ ⟨rfl,rfl,rfl,trivial⟩ rfl ?_
 rintro⟨i4,i5,af,ac⟩ J ⟨w3,ad,a8,hb,hI⟩ hJ
 conv=>cbv
 refine .go fun v1 bb=>?_
 conv=>cbv
 refine .lss (fun h2=>?_) fun h2=>?_
 conv=>cbv
 generalize ak:Cn (⟨Ae,Ag,Ah,Af,Aj,Ai⟩:Aa) i4=r3
 refine .dd hP (Xfs Ak Al Ao An hd ak) ?_
 conv=>cbv
 have z3:=Gk hd ak
 rcases am:As r3 with⟨au,⟨ag,ah,ai,aj⟩,ab,al,ap,aq⟩
 generalize aa:ab.map cS=ax
 generalize ae:al.map cI=ay
 refine .dd hP (Pk (by omega) am aa ae) ?_
 conv=>cbv
 have zr:=Gi (b:=r3)
 have zq:=Y9 (b:=r3)
 rw[am]at zr zq
 simp only[]at zr zq
 have rq:Dh r3=ab:=by unfold Dh;rw[am]
 generalize an:D1 r3 i4 i5=r5
 refine .dd hP (XjU (by omega) an) ?_
 cases r5
 conv=>cbv
 have e:w3=J0 (⟨Ae,Ag,Ah,Af,Aj,Ai⟩:Aa):=(by rw[hI,Si ak (.inl an),List.append_nil])
 rw[hr]at e
 subst e
 exact hQ _ _ (.r rfl rfl (by rw[←ad,List.length_map];first|omega|(simp;omega)) (by rw[←ad,←ho]))
 conv=>cbv
 refine .go aa fun v6 ar=>?_
 conv=>cbv
 refine .eql (fun h7=>?_) fun h7=>?_
 conv=>cbv
 have e:w3=J0 (⟨Ae,Ag,Ah,Af,Aj,Ai⟩:Aa):=(by rw[hI,Si ak (.inr (by rw[rq];exact List.eq_nil_of_length_eq_zero (by omega))),List.append_nil])
 rw[hr]at e
 subst e
 exact hQ _ _ (.r rfl rfl (by rw[←ad,List.length_map];first|omega|(simp;omega)) (by rw[←ad,←ho]))
 conv=>cbv
 have hg:=Ox an
 obtain⟨hh,g1,g2,g3,g4,g5⟩:=hg
 have hne:ab≠[]:=by intro e;rw[e]at ar;simp at ar;exact h7 ar
 refine .one (⟨i4,r3,⟨au,⟨ag,ah,ai,aj⟩,ab,al,ap,aq⟩⟩:Td) ad (by rw[←aa,←ae];rfl) fun az z8 ba a1=>?_
 conv=>cbv
 refine .go aa fun v9 a2=>?_
 conv=>cbv
 refine .add fun a6 aw=>?_
 conv=>cbv
 generalize ao:Gq i5 ab=a7
 refine .dd hP (Xi1 aa (by omega) zq ao) ?_
 conv=>cbv
 exact .go [10] (a6,a7,z8,az) (hJ _ ⟨_,a1,Gw,by rw[List.length_append];simp;omega,by rw[hI,show 16 - w3.length=(15 - w3.length)+1 by omega,V7 ak an (by rw[rq];exact hne),List.append_assoc,am,List.length_append,rq,ao,←a2,←aw];simp only[List.length_singleton];rw[show 16 - (w3.length+1)=15 - w3.length by omega];rfl⟩ mlt)
 conv=>cbv
 have e:w3=J0 (⟨Ae,Ag,Ah,Af,Aj,Ai⟩:Aa):=(by rw[hI,show 16 - w3.length=0 by omega];simp[Jz])
 rw[hr]at e
 subst e
 exact hQ _ _ (.r rfl rfl (by rw[←ad,List.length_map];first|omega|(simp;omega)) (by rw[←ad,←ho]))
theorem V8{o:List Int}(Ak:Ae.map A8=A3)(Al:Ag.map Ac=A2)(Ao:Ah.map Ac=A1)(An:Af.map cS=A4)(hd:okD ⟨Ae,Ag,Ah,Af,Aj,Ai⟩)(hr:Dm (⟨Ae,Ag,Ah,Af,Aj,Ai⟩:Aa)=o)(ho:o.map cI=xo):Fn Tryz.prog 98 [.agg [.d (.row 3 A3),.d (.row 2 A2),.d (.row 2 A1),.d (.row 1 A4),I Aj,I Ai]] [] ⟨.d (.row 1 xo),[],[]⟩:=by
 refine Fn.go F8 Tryz.func98 fun P hP Q hQ=>?_
 conv=>cbv
 refine LoopW.lp (κ:=Int×Int×(List (List D))×Nat) F8 hP [2] [1] (fun(i4,i5,ac,aa)=>[(3,.ref 3 0 aa),(4,I i4),(5,I i5)]) (fun(i4,i5,ac,aa)=>[(3,.row 1 false ac)])
  (fun(i4,i5,ac,aa)=>∃(w3:List Int),w3.map cI=ac∧aa=w3.length∧(w3.length≤16∧0≤i4∧i4≤2000000000)∧Dm (⟨Ae,Ag,Ah,Af,Aj,Ai⟩:Aa)=w3++(Jz (⟨Ae,Ag,Ah,Af,Aj,Ai⟩:Aa) (16 - w3.length) i4 i5).map (·.base_))
  (fun(i4,i5,ac,aa)=>16 - aa) (0,0,[],0) ⟨[],rfl,rfl,by simp,rfl⟩ ⟨rfl,rfl,rfl,trivial⟩ rfl ?_
 rintro⟨i4,i5,ac,aa⟩ J ⟨w3,ab,an,hb,hI⟩ hJ
 conv=>cbv
 refine .go fun v1 ap=>?_
 conv=>cbv
 refine .lss (fun h2=>?_) fun h2=>?_
 conv=>cbv
 generalize ae:Cn (⟨Ae,Ag,Ah,Af,Aj,Ai⟩:Aa) i4=r3
 refine .dd hP (Q7 Ak Al Ao An hd ae) ?_
 conv=>cbv
 have z3:=Gk hd ae
 generalize ad:Dh r3=l4
 generalize ah:l4.map cS=aq
 refine .dd hP (Wb (by omega) ad ah) ?_
 conv=>cbv
 refine .go ah fun v5 ag=>?_
 conv=>cbv
 refine .eql (fun h6=>?_) fun h6=>?_
 conv=>cbv
 have e:w3=Dm (⟨Ae,Ag,Ah,Af,Aj,Ai⟩:Aa):=(by rw[hI,Si ae (.inr (by rw[ad];exact List.eq_nil_of_length_eq_zero (by omega)))];simp)
 rw[hr]at e
 subst e
 exact hQ _ _ (.r rfl rfl (by rw[←ab,List.length_map];first|omega|(simp;omega)) (by rw[←ab,←ho]))
 conv=>cbv
 generalize af:D1 r3 i4 i5=r7
 refine .dd hP (Xju (by omega) af) ?_
 cases r7
 conv=>cbv
 have e:w3=Dm (⟨Ae,Ag,Ah,Af,Aj,Ai⟩:Aa):=(by rw[hI,Si ae (.inl af)];simp)
 rw[hr]at e
 subst e
 exact hQ _ _ (.r rfl rfl (by rw[←ab,List.length_map];first|omega|(simp;omega)) (by rw[←ab,←ho]))
 conv=>cbv
 have hg:=Ox af
 obtain⟨hh,g1,g2,g3,g4,g5⟩:=hg
 have hne:l4≠[]:=by intro e;rw[e]at ag;simp at ag;exact h6 ag
 have zr:=Gi (b:=r3)
 have rq:(As r3).records_=l4:=ad
 rw[rq]at zr
 refine .one i4 ab rfl fun ak z8 ao al=>?_
 conv=>cbv
 generalize ai:Ja r3=r9
 refine .dd hP (Xdw (by omega) ai) ?_
 conv=>cbv
 refine .add fun am aj=>?_
 conv=>cbv
 exact .go [5] (am,r9,z8,ak) (hJ _ ⟨_,al,Gw,by rw[List.length_append];simp;omega,by rw[hI,show 16 - w3.length=(15 - w3.length)+1 by omega,V7 ae af (by rw[ad];exact hne),ad,List.map_cons,List.append_assoc,List.length_append,←Sy af ad,ai,←ag,←aj];simp only[List.length_singleton];rw[show 16 - (w3.length+1)=15 - w3.length by omega];rfl⟩ mlt)
 conv=>cbv
 have e:w3=Dm (⟨Ae,Ag,Ah,Af,Aj,Ai⟩:Aa):=(by rw[hI,show 16 - w3.length=0 by omega];simp[Jz])
 rw[hr]at e
 subst e
 exact hQ _ _ (.r rfl rfl (by rw[←ab,List.length_map];first|omega|(simp;omega)) (by rw[←ab,←ho]))
theorem Xhv{o:List ByteArray}(Ak:Ae.map A8=A3)(Al:Ag.map Ac=A2)(Ao:Ah.map Ac=A1)(An:Af.map cS=A4)(hd:okD ⟨Ae,Ag,Ah,Af,Aj,Ai⟩)(hr:Ll (⟨Ae,Ag,Ah,Af,Aj,Ai⟩:Aa)=o)(ho:o.map cS=xo):Fn Tryz.prog 67 [.agg [.d (.row 3 A3),.d (.row 2 A2),.d (.row 2 A1),.d (.row 1 A4),I Aj,I Ai]] [] ⟨.d (.row 1 xo),[],[]⟩:=by
 refine Fn.go F8 Tryz.func67 fun P hP Q hQ=>?_
 conv=>cbv
 generalize ap:J0 (⟨Ae,Ag,Ah,Af,Aj,Ai⟩:Aa)=l1
 generalize ar:l1.map XgB=bd
 refine .dd hP (Xah Ak Al Ao An hd ap ar) ?_
 conv=>cbv
 refine .go ar fun v2 be=>?_
 conv=>cbv
 refine LoopW.lp (κ:=Int×(List (List D))×Nat) F8 hP [2] [8,9] (fun(ae,am,an)=>[(3,.ref 3 0 an),(10,I ae)]) (fun(ae,am,an)=>[(3,.row 1 false am)])
  (fun(ae,am,an)=>∃(w3:List ByteArray),w3.map cS=am∧an=w3.length∧0≤ae∧ae≤l1.length∧w3.length≤1000000000*ae.toNat∧w3=(l1.take ae.toNat).flatMap fun x=>x.scan_.records_)
  (fun(ae,am,an)=>(l1.length - ae).toNat) (0,[],0) ⟨[],rfl,rfl,by omega,by omega,by simp,by simp⟩ ⟨rfl,rfl,trivial⟩ rfl ?_
 rintro⟨ae,am,an⟩ J ⟨w3,au,ba,h0,h1,hb,hw⟩ hJ
 have bb:=Jb ap
 conv=>cbv
 refine .lss (fun h3=>?_) fun h3=>?_
 conv=>cbv
 refine .goX ae.toNat ar fun az ⟨ao,ak,⟨aj,⟨aa,ab,ac,ad⟩,af,ag,ah,ai⟩⟩ fe4 a1 hfe4=>?_
 replace hfe4:[.sc (.int .i64 ao),.sc (.string ak),.sc (.bool aj),.sc (.int .i64 aa),.sc (.int .i64 ab),.sc (.int .i64 ac),.sc (.int .i64 ad),.row 1 (af.map cS),.row 1 (ag.map cI),.sc (.int .i64 ah),.sc (.bool ai)]=fe4:=hfe4
 generalize al:af.map cS=aw at hfe4
 generalize ax:ag.map cI=ay at hfe4
 subst hfe4
 conv=>cbv
 have hm:=Mk ap (x:=⟨ao,ak,⟨aj,⟨aa,ab,ac,ad⟩,af,ag,ah,ai⟩⟩) (by rw[a1];exact List.getElem_mem _)
 obtain⟨aq,a2,s9,a6⟩:=hm
 simp only[]at aq a2 a6
 have hz:=Gk hd aq.symm
 have zr:=Gi (b:=ak)
 rw[aq,←a2]at zr
 simp only[]at zr
 rw[←aq]at zr
 refine .row au al fun a7 z5 bc a8=>?_
 conv=>cbv
 refine .add fun v6 bf=>?_
 conv=>cbv
 exact .go [7] (v6,z5,a7) (hJ _ ⟨_,a8,Gw,by omega,by omega,by rw[List.length_append,show v6.toNat=ae.toNat+1 by omega];omega,by rw[hw,show v6.toNat=ae.toNat+1 by omega,Gl az,←a1]⟩ mlt)
 conv=>cbv
 have e:w3=Ll (⟨Ae,Ag,Ah,Af,Aj,Ai⟩:Aa):=(by unfold Ll;rw[hw,ap,List.take_of_length_le (by omega)])
 rw[hr]at e
 subst e
 exact hQ _ _ (.r rfl rfl (by rw[←au,List.length_map];first|omega|(simp;omega)) (by rw[←au,←ho]))
theorem XiR{o:List ByteArray}(Ak:Ae.map A8=A3)(Al:Ag.map Ac=A2)(Ao:Ah.map Ac=A1)(An:Af.map cS=A4)(hd:okD ⟨Ae,Ag,Ah,Af,Aj,Ai⟩)(hr:Ll (⟨Ae,Ag,Ah,Af,Aj,Ai⟩:Aa)=o)(ho:o.map cS=xo):Fn Tryz.prog 58 [.agg [.d (.row 3 A3),.d (.row 2 A2),.d (.row 2 A1),.d (.row 1 A4),I Aj,I Ai]] [] ⟨.d (.row 1 xo),[],[]⟩:=by
 refine Fn.go F8 Tryz.func58 fun P hP Q hQ=>?_
 conv=>cbv
 generalize ac:Dm (⟨Ae,Ag,Ah,Af,Aj,Ai⟩:Aa)=l1
 generalize ad:l1.map cI=ap
 refine .dd hP (V8 Ak Al Ao An hd ac ad) ?_
 conv=>cbv
 refine LoopW.lp (κ:=Int×(List (List D))×Nat) F8 hP [2] [1,4] (fun(i5,aa,ab)=>[(3,.ref 3 0 ab),(5,I i5)]) (fun(i5,aa,ab)=>[(3,.row 1 false aa)])
  (fun(i5,aa,ab)=>∃(w3:List ByteArray),w3.map cS=aa∧ab=w3.length∧0≤i5∧i5≤l1.length∧w3.length≤1000000000*i5.toNat∧w3=(l1.take i5.toNat).flatMap fun b=>Dh (Cn (⟨Ae,Ag,Ah,Af,Aj,Ai⟩:Aa) b))
  (fun(i5,aa,ab)=>(l1.length - i5).toNat) (0,[],0) ⟨[],rfl,rfl,by omega,by omega,by simp,by simp⟩ ⟨rfl,rfl,trivial⟩ rfl ?_
 rintro⟨i5,aa,ab⟩ J ⟨w3,ae,am,h0,h1,hb,hw⟩ hJ
 have an:=Gh ac
 conv=>cbv
 refine .go ad fun v2 aq=>?_
 conv=>cbv
 refine .lss (fun h3=>?_) fun h3=>?_
 conv=>cbv
 refine .go i5.toNat ad fun ah e4 aj=>?_
 conv=>cbv
 generalize af:Cn (⟨Ae,Ag,Ah,Af,Aj,Ai⟩:Aa) e4=r5
 refine .dd hP (Q7 Ak Al Ao An hd af) ?_
 conv=>cbv
 have z5:=Gk hd af
 generalize ag:Dh r5=l6
 generalize ai:l6.map cS=ar
 refine .dd hP (Wb (by omega) ag ai) ?_
 conv=>cbv
 have zr:=Gi (b:=r5)
 have rq:(As r5).records_=l6:=ag
 rw[rq]at zr
 refine .row ae ai fun ak z7 ao al=>?_
 conv=>cbv
 refine .add fun v8 au=>?_
 conv=>cbv
 exact .go [4] (v8,z7,ak) (hJ _ ⟨_,al,Gw,by omega,by omega,by rw[List.length_append,show v8.toNat=i5.toNat+1 by omega];omega,by rw[hw,show v8.toNat=i5.toNat+1 by omega,Gl ah,←aj,af,ag]⟩ mlt)
 conv=>cbv
 have e:w3=Ll (⟨Ae,Ag,Ah,Af,Aj,Ai⟩:Aa):=(by rw[Vl,ac,hw,List.take_of_length_le (by omega)])
 rw[hr]at e
 subst e
 exact hQ _ _ (.r rfl rfl (by rw[←ae,List.length_map];first|omega|(simp;omega)) (by rw[←ae,←ho]))
end
end Go.Proofs.YtgdmjbcllgmepaaGreatDoor.Ab
