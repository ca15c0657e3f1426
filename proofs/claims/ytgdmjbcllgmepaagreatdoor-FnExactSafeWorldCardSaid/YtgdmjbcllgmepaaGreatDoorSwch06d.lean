/- What functions of the program come to, for all arguments in the given bounds. -/
import Derived.Test.YtgdmjbcllgmepaaGreatDoorSwch01d
import Derived.Test.YtgdmjbcllgmepaaGreatDoorSwZ9
set_option linter.unusedVariables false
set_option linter.unusedSimpArgs false
namespace Go.Proofs.YtgdmjbcllgmepaaGreatDoor.Ab
section
open Go Go.Proofs
set_option maxRecDepth 20000
set_option maxHeartbeats 4000000
def Nu:List (Nat×TyRow):=[ty3,ty9,XfP,Xdv,Xco,XbX,Z6]
theorem X0:Ce Tryz.prog Nu:=Ce.of (by kernel_rfl)
theorem Lq:Setup Tryz.prog Nu:=⟨X0,mixed⟩
theorem Xb9{a b:ByteArray}:a.toList=b.toList↔a=b:=⟨fun e=>K4 e,fun e=>by rw[e]⟩
theorem AggW.eSI{a c:ByteArray}{b d:Int}{K:Bool→Prop}(h1:a=c∧b=d→K true)(h2:¬(a=c∧b=d)→K false):AggW [.str,.int] [.d (.sc (.string a)),.d (.sc (.int .i64 b))] [.d (.sc (.string c)),.d (.sc (.int .i64 d))] K:=by
 by_cases h:a=c∧b=d
 ·refine⟨true,?_,h1 h⟩
  simp[Mb,Xgc,h.1,h.2]
 ·refine⟨false,?_,h2 h⟩
  simp only[Mb,Xgc,if_true,Option.bind_some,Option.map_some,Option.some.injEq,Bool.and_true]
  simpa[Bool.and_eq_false_iff,Xb9]using h
instance decEntry:DecidableEq Aa:=fun a b=>match a,b with
 |⟨n,i⟩,⟨m,j⟩=>decidable_of_iff (n=m∧i=j) (by simp)
def okL(l:List Aa):Prop:=∀e∈l,e.name_.size≤1000000000
def okS(l:List ByteArray):Prop:=∀s∈l,s.size≤1000000000
def W4(d:Ad):Prop:=okD d∧okL d.old_∧okS d.steps_
def Hb(d:Ad):Int:=XgF (fun n:Bb=>(n.text_.size:Int)) d.nodes_
def nd(d:Ad)(i:Nat):Bb:=d.nodes_.getD i ⟨0,tx [],0⟩
def Dq(d:Ad)(i:Nat):Bool:=decide ((0<i→(nd d (i - 1)).id_<(nd d i).id_)∧(1≤(nd d i).id_∧(nd d i).id_≤d.next_ - 1)∧0≤(nd d i).sure_∧(nd d i).sure_≤(nd d i).text_.size)
def Dl(d:Ad):Bool:=(List.range d.nodes_.length).all (Dq d)&&decide (d.nodes_.length≤64)
def en(l:List Aa)(i:Nat):Aa:=l.getD i ⟨tx [],0⟩
def Ek(d:Ad)(l:List Aa)(i:Nat):Bool:=(decide (i=0)|| !(ltB (en l i).name_ (en l (i - 1)).name_||decide ((en l i).name_=(en l (i - 1)).name_)))&&Bq (en l i).name_&&decide (0≤G8 d (en l i).id_)
def A4(d:Ad)(l:List Aa):Bool:=(List.range l.length).all (Ek d l)&&decide (l.length≤16)
theorem X4{p:Nat→Bool}{n:Nat}(h:∀i,i<n→p i=true):(List.range n).all p=true:=List.all_eq_true.2 fun i hi=>h i (List.mem_range.1 hi)
theorem Wb{p:Nat→Bool}{n i:Nat}(hi:i<n)(h:p i=false):(List.range n).all p=false:=by
 rw[Bool.eq_false_iff]
 intro ha
 have:=List.all_eq_true.1 ha i (List.mem_range.2 hi)
 rw[h]at this
 cases this
theorem Hn{d:Ad}{i:Nat}(hi:i<d.nodes_.length)(h:Dq d i=false):false=Dl d:=by unfold Dl;rw[Wb hi h];rfl
theorem Rn{d:Ad}{b:Bool}(h:∀i,i<d.nodes_.length→Dq d i=true)(hb:b=decide (d.nodes_.length≤64)):b=Dl d:=by unfold Dl;rw[X4 h,hb];rfl
theorem Lg{d:Ad}{l:List Aa}{i:Nat}(hi:i<l.length)(h:Ek d l i=false):false=A4 d l:=by unfold A4;rw[Wb hi h];rfl
theorem Pq{d:Ad}{l:List Aa}{b:Bool}(h:∀i,i<l.length→Ek d l i=true)(hb:b=decide (l.length≤16)):b=A4 d l:=by unfold A4;rw[X4 h,hb];rfl
theorem Vi{d:Ad}{l:List Aa}(h:A4 d l=true):l.length≤16:=by
 unfold A4 at h
 rw[Bool.and_eq_true,decide_eq_true_eq]at h
 exact h.2
theorem XcL{d:Ad}{k:Nat}{x:Bb}(hk:k<d.nodes_.length)(h:x=d.nodes_[k]):nd d k=x:=by rw[h,gD hk];rfl
theorem Yj{l:List Aa}{k:Nat}{x:Aa}(hk:k<l.length)(h:x=l[k]):en l k=x:=by rw[h,gD hk];rfl
def Dr(d:Ad):List Aa→List ByteArray→Bool
 |now,[]=>A4 d now&&El now d.entries_
 |now,s::ss=>A4 d now&&(As now s).2&&Dr d (As now s).1 ss
def B0(d:Ad):Bool:=Bg d.room_&&Ba d.next_ 1 1000000000&&Dl d&&decide (Hb d≤d.room_)&&Dr d d.old_ d.steps_
theorem XcW{l:List Aa}{n:ByteArray}{i:Int}(h:okL l)(hn:n.size≤1000000000):okL (R5 l n i):=by
 intro e he
 unfold R5 Gx at he
 split at he
 ·rename_i h0
  have hlt:=(Gt (rfl:A7 l n=_)).2
  rcases List.mem_or_eq_of_mem_set he with he|rfl
  ·exact h e he
  ·have hk:(A7 l n).toNat<l.length:=by omega
   show(l.getD (A7 l n).toNat ⟨tx [],0⟩).name_.size≤_
   rw[←gD hk]
   exact h _ (List.getElem_mem hk)
 ·simp only[List.append_assoc,List.mem_append,List.mem_cons,List.not_mem_nil,or_false,List.cons_append,List.nil_append]at he
  rcases he with he|rfl|he
  ·exact h e (List.mem_of_mem_take he)
  ·exact hn
  ·exact h e (List.mem_of_mem_drop he)
theorem Xbq{l a:List Aa}{n:ByteArray}{b:Bool}(h:okL l)(e:Ga l n=(a,b)):okL a:=by
 unfold Ga K8 at e
 split at e
 ·simp only[Prod.mk.injEq]at e
  rw[←e.1];intro x hx;cases hx
 ·simp only[Prod.mk.injEq]at e
  rw[←e.1]
  intro x hx
  exact h x (List.mem_of_mem_eraseIdx hx)
theorem XaW{l a:List Aa}{s:ByteArray}{b:Bool}(h:okL l)(hs:s.size≤1000000000)(e:As l s=(a,b)):okL a:=by
 have h0:∀{b:Bool},(([]:List Aa),false)=(a,b)→okL a:=fun h=>by
  simp only[Prod.mk.injEq]at h
  rw[←h.1];intro x hx;cases hx
 have hz:(s.extract 1 s.size).size≤s.size:=by rw[ByteArray.size_extract];omega
 obtain⟨x,y,c,hc⟩:∃x y c,Jk (s.extract 1 s.size)=(x,y,c):=⟨_,_,_,rfl⟩
 have hcb:=Xcq hc
 unfold As at e
 rw[hc]at e
 split at e
 ·exact h0 e
 ·dsimp only at e
  split at e
  ·split at e
   ·exact h0 e
   ·simp only[Prod.mk.injEq]at e
    rw[←e.1]
    exact XcW h (by omega)
  ·split at e
   ·exact Xbq h e
   ·split at e
    ·split at e
     ·exact h0 e
     ·simp only[Prod.mk.injEq]at e
      rw[←e.1]
      exact XcW (Xbq h (b:=(Ga l x).2) rfl) (by omega)
    ·exact h0 e
variable {A6:List Bb} {Cs Cx Cw Cy:List (List D)} {Bf Bd:List Aa} {A8:List ByteArray} {Bj Bh:Int} {o:Bool}
theorem XeG{o:Int}(B9:A6.map Ci=Cs)(Cu:Bf.map Ac=Cx)(Ct:Bd.map Ac=Cw)(Cm:A8.map cS=Cy)(hd:okD ⟨A6,Bf,Bd,A8,Bj,Bh⟩)(hr:Hb (⟨A6,Bf,Bd,A8,Bj,Bh⟩:Ad)=o):Fn Tryz.prog 175 [.agg [.d (.row 3 Cs),.d (.row 2 Cx),.d (.row 2 Cw),.d (.row 1 Cy),I Bj,I Bh]] [] ⟨I o,[],[]⟩:=by
 refine Fn.go Lq Tryz.func175 fun P hP Q hQ=>?_
 conv=>cbv
 refine .go B9 fun v1 ag=>?_
 conv=>cbv
 refine LoopW.lp (κ:=Int×Int) Lq hP [] [7,8] (fun(i3,i9)=>[(3,I i3),(9,I i9)]) (fun(i3,i9)=>[])
  (fun(i3,i9)=>0≤i9∧i9≤A6.length∧i3=XgF (fun n:Bb=>(n.text_.size:Int)) (A6.take i9.toNat)∧0≤i3∧i3≤1000000000*i9)
  (fun(i3,i9)=>(A6.length - i9).toNat) (0,0) ⟨by omega,by omega,rfl,by omega,by omega⟩ ⟨rfl,rfl,trivial⟩ rfl ?_
 rintro⟨i3,i9⟩ J ⟨h0,h1,hx,hx0,hx1⟩ hJ
 have ah:A6.length≤1000000000:=hd.1
 have ac:∀n∈A6,n.text_.size≤1000000000:=hd.2.1
 conv=>cbv
 refine .lss (fun h2=>?_) fun h2=>?_
 conv=>cbv
 refine .go i9.toNat B9 fun aa ⟨af,ad,ae⟩ ab=>?_
 conv=>cbv
 have hz:=ac _ (List.getElem_mem aa)
 rw[←ab]at hz
 simp only[]at hz
 refine .go fun v4 ai=>?_
 conv=>cbv
 refine .add fun v5 aj=>?_
 conv=>cbv
 refine .add fun v6 ak=>?_
 conv=>cbv
 exact .go [] (v5,v6) (hJ _ ⟨by omega,by omega,by rw[show v6.toNat=i9.toNat+1 by omega,Vt aa,←hx,←ab];simp only[];omega,by omega,by omega⟩ mlt)
 conv=>cbv
 have e:i3=Hb (⟨A6,Bf,Bd,A8,Bj,Bh⟩:Ad):=(by unfold Hb;rw[hx,List.take_of_length_le (by omega)])
 rw[hr]at e
 subst e
 exact hQ _ _ (.i rfl rfl)
theorem Ib:Setup Tryz.prog ((3000004,Eg Tryz.prog 3000004)::Nu):=(Setup.mark 3000004 Lq)
theorem Rg(B9:A6.map Ci=Cs)(Cu:Bf.map Ac=Cx)(Ct:Bd.map Ac=Cw)(Cm:A8.map cS=Cy)(hd:okD ⟨A6,Bf,Bd,A8,Bj,Bh⟩)(hx: -9223372036854775807≤Bh∧Bh≤9223372036854775807)(hr:Dl (⟨A6,Bf,Bd,A8,Bj,Bh⟩:Ad)=o):Fn Tryz.prog 174 [.agg [.d (.row 3 Cs),.d (.row 2 Cx),.d (.row 2 Cw),.d (.row 1 Cy),I Bj,I Bh]] [] ⟨B o,[],[]⟩:=by
 refine Fn.go Ib Tryz.func174 fun P hP Q hQ=>?_
 conv=>cbv
 refine .go B9 fun v1 ax=>?_
 conv=>cbv
 refine LoopW.lp (κ:=Int) Ib hP [] [1,6,7] (fun i8=>[(8,I i8)]) (fun i8=>[])
  (fun i8=>0≤i8∧i8≤A6.length∧∀j:Nat,j<i8.toNat→Dq (⟨A6,Bf,Bd,A8,Bj,Bh⟩:Ad) j=true)
  (fun i8=>(A6.length - i8).toNat) (0) ⟨by omega,by omega,fun j h=>by simp at h⟩ ⟨rfl,trivial⟩ rfl ?_
 rintro i8 J ⟨h0,h1,hb⟩ hJ
 have ay:A6.length≤1000000000:=hd.1
 conv=>cbv
 refine .lss (fun h2=>?_) fun h2=>?_
 conv=>cbv
 refine .go i8.toNat B9 fun aa ⟨ad,ai,ab⟩ aj=>?_
 conv=>cbv
 have hnd:=XcL (d:=(⟨A6,Bf,Bd,A8,Bj,Bh⟩:Ad)) aa aj
 refine .gtr (fun h4=>?_) fun h4=>?_
 conv=>cbv
 refine .sub fun v5 ak=>?_
 conv=>cbv
 refine .go v5.toNat B9 fun ah ⟨ar,al,am⟩ an=>?_
 conv=>cbv
 have hpd:=XcL (d:=(⟨A6,Bf,Bd,A8,Bj,Bh⟩:Ad)) ah an
 rw[show v5.toNat=i8.toNat - 1 by omega]at hpd
 refine .leq (fun h7=>?_) fun h7=>?_
 conv=>cbv
 refine .go2 (by kernel_rfl) ?_
 conv=>cbv
 have e:false=Dl (⟨A6,Bf,Bd,A8,Bj,Bh⟩:Ad):=(by exact Hn (d:=(⟨A6,Bf,Bd,A8,Bj,Bh⟩:Ad)) aa (by unfold Dq;rw[decide_eq_false_iff_not,hnd];simp only[];rw[hpd];simp only[];omega))
 rw[hr]at e
 subst e
 exact hQ _ _ (.b rfl rfl)
 conv=>cbv
 refine .sub fun v8 az=>?_
 conv=>cbv
 generalize ae:Ba ad 1 v8=r9
 refine .dd hP (D6 ae) ?_
 cases r9
 simp only[Ba,decide_eq_true_eq,decide_eq_false_iff_not]at ae
 conv=>cbv
 refine .go2 (by kernel_rfl) ?_
 conv=>cbv
 have e:false=Dl (⟨A6,Bf,Bd,A8,Bj,Bh⟩:Ad):=(by exact Hn (d:=(⟨A6,Bf,Bd,A8,Bj,Bh⟩:Ad)) aa (by unfold Dq;rw[decide_eq_false_iff_not,hnd];simp only[];omega))
 rw[hr]at e
 subst e
 exact hQ _ _ (.b rfl rfl)
 simp only[Ba,decide_eq_true_eq,decide_eq_false_iff_not]at ae
 conv=>cbv
 refine .go fun ao au=>?_
 conv=>cbv
 generalize ac:Ba ab 0 ao=ap
 refine .dd hP (D6 ac) ?_
 cases ap
 simp only[Ba,decide_eq_true_eq,decide_eq_false_iff_not]at ac
 conv=>cbv
 refine .go2 (by kernel_rfl) ?_
 conv=>cbv
 have e:false=Dl (⟨A6,Bf,Bd,A8,Bj,Bh⟩:Ad):=(by exact Hn (d:=(⟨A6,Bf,Bd,A8,Bj,Bh⟩:Ad)) aa (by unfold Dq;rw[decide_eq_false_iff_not,hnd];simp only[];omega))
 rw[hr]at e
 subst e
 exact hQ _ _ (.b rfl rfl)
 simp only[Ba,decide_eq_true_eq,decide_eq_false_iff_not]at ac
 conv=>cbv
 refine .go2 (by kernel_rfl) ?_
 conv=>cbv
 refine .add fun aq aw=>?_
 conv=>cbv
 exact .go [] (aq) (hJ _ ⟨by omega,by omega,fun j h=>if e:j=i8.toNat then by subst e;unfold Dq;rw[decide_eq_true_eq,hnd,hpd];simp only[];omega else hb j (by omega)⟩ mlt)
 conv=>cbv
 refine .sub fun v5 ak=>?_
 conv=>cbv
 generalize af:Ba ad 1 v5=r6
 refine .dd hP (D6 af) ?_
 cases r6
 simp only[Ba,decide_eq_true_eq,decide_eq_false_iff_not]at af
 conv=>cbv
 refine .go2 (by kernel_rfl) ?_
 conv=>cbv
 have e:false=Dl (⟨A6,Bf,Bd,A8,Bj,Bh⟩:Ad):=(by exact Hn (d:=(⟨A6,Bf,Bd,A8,Bj,Bh⟩:Ad)) aa (by unfold Dq;rw[decide_eq_false_iff_not,hnd];simp only[];omega))
 rw[hr]at e
 subst e
 exact hQ _ _ (.b rfl rfl)
 simp only[Ba,decide_eq_true_eq,decide_eq_false_iff_not]at af
 conv=>cbv
 refine .go fun v7 a0=>?_
 conv=>cbv
 generalize ag:Ba ab 0 v7=r8
 refine .dd hP (D6 ag) ?_
 cases r8
 simp only[Ba,decide_eq_true_eq,decide_eq_false_iff_not]at ag
 conv=>cbv
 refine .go2 (by kernel_rfl) ?_
 conv=>cbv
 have e:false=Dl (⟨A6,Bf,Bd,A8,Bj,Bh⟩:Ad):=(by exact Hn (d:=(⟨A6,Bf,Bd,A8,Bj,Bh⟩:Ad)) aa (by unfold Dq;rw[decide_eq_false_iff_not,hnd];simp only[];omega))
 rw[hr]at e
 subst e
 exact hQ _ _ (.b rfl rfl)
 simp only[Ba,decide_eq_true_eq,decide_eq_false_iff_not]at ag
 conv=>cbv
 refine .go2 (by kernel_rfl) ?_
 conv=>cbv
 refine .add fun v9 a1=>?_
 conv=>cbv
 exact .go [] (v9) (hJ _ ⟨by omega,by omega,fun j h=>if e:j=i8.toNat then by subst e;unfold Dq;rw[decide_eq_true_eq,hnd];simp only[];omega else hb j (by omega)⟩ mlt)
 conv=>cbv
 refine .go B9 fun v3 a2=>?_
 conv=>cbv
 refine .leq (fun h4=>?_) fun h4=>?_
 conv=>cbv
 have e:true=Dl (⟨A6,Bf,Bd,A8,Bj,Bh⟩:Ad):=(by exact Rn (d:=(⟨A6,Bf,Bd,A8,Bj,Bh⟩:Ad)) (fun j hj=>hb j (by simp only[]at hj;omega)) (by symm;rw[decide_eq_true_eq];simp only[];omega))
 rw[hr]at e
 subst e
 exact hQ _ _ (.b rfl rfl)
 conv=>cbv
 have e:false=Dl (⟨A6,Bf,Bd,A8,Bj,Bh⟩:Ad):=(by exact Rn (d:=(⟨A6,Bf,Bd,A8,Bj,Bh⟩:Ad)) (fun j hj=>hb j (by simp only[]at hj;omega)) (by symm;rw[decide_eq_false_iff_not];simp only[];omega))
 rw[hr]at e
 subst e
 exact hQ _ _ (.b rfl rfl)
theorem G7:Setup Tryz.prog ((3000004,Eg Tryz.prog 3000004)::Nu):=(Setup.mark 3000004 Lq)
theorem Om{list:List Aa}{xlist:List (List D)}(B9:A6.map Ci=Cs)(Cu:Bf.map Ac=Cx)(Ct:Bd.map Ac=Cw)(Cm:A8.map cS=Cy)(hlist:list.map Ac=xlist)(hd:okD ⟨A6,Bf,Bd,A8,Bj,Bh⟩)(hl:okL list)(hln:list.length≤1000000000)(hr:A4 (⟨A6,Bf,Bd,A8,Bj,Bh⟩:Ad) list=o):Fn Tryz.prog 177 [.agg [.d (.row 3 Cs),.d (.row 2 Cx),.d (.row 2 Cw),.d (.row 1 Cy),I Bj,I Bh],.d (.row 2 xlist)] [] ⟨B o,[],[]⟩:=by
 refine Fn.go G7 Tryz.func177 fun P hP Q hQ=>?_
 conv=>cbv
 refine .go hlist fun v1 ap=>?_
 conv=>cbv
 refine LoopW.lp (κ:=Int) G7 hP [] [1,2,7,8] (fun i9=>[(9,I i9)]) (fun i9=>[])
  (fun i9=>0≤i9∧i9≤list.length∧∀j:Nat,j<i9.toNat→Ek (⟨A6,Bf,Bd,A8,Bj,Bh⟩:Ad) list j=true)
  (fun i9=>(list.length - i9).toNat) (0) ⟨by omega,by omega,fun j h=>by simp at h⟩ ⟨rfl,trivial⟩ rfl ?_
 rintro i9 J ⟨h0,h1,hb⟩ hJ
 conv=>cbv
 refine .lss (fun h2=>?_) fun h2=>?_
 conv=>cbv
 refine .go i9.toNat hlist fun aa ⟨ab,ac⟩ ah=>?_
 conv=>cbv
 have hnd:=Yj aa ah
 have hzn:ab.size≤1000000000:=by have:=hl _ (List.getElem_mem aa);rw[←ah]at this;exact this
 refine .gtr (fun h4=>?_) fun h4=>?_
 conv=>cbv
 refine .sub fun v5 aq=>?_
 conv=>cbv
 refine .go v5.toNat hlist fun ai ⟨ak,an⟩ al=>?_
 conv=>cbv
 have hpd:=Yj ai al
 rw[show v5.toNat=i9.toNat - 1 by omega]at hpd
 refine .leq fun b7 aj=>?_
 conv=>cbv
 cases b7
 conv=>cbv
 generalize ad:Bq ab=r8
 refine .dd hP (Ni (by omega) ad) ?_
 cases r8
 conv=>cbv
 refine .go2 (by kernel_rfl) ?_
 conv=>cbv
 have e:false=A4 (⟨A6,Bf,Bd,A8,Bj,Bh⟩:Ad) list:=(by exact Lg (d:=(⟨A6,Bf,Bd,A8,Bj,Bh⟩:Ad)) aa (by unfold Ek;rw[hnd];simp only[];rw[ad,Bool.and_false];rfl))
 rw[hr]at e
 subst e
 exact hQ _ _ (.b rfl rfl)
 conv=>cbv
 generalize ae:G8 (⟨A6,Bf,Bd,A8,Bj,Bh⟩:Ad) ac=r9
 refine .dd hP (Kc B9 Cu Ct Cm (by have:=hd.1;simp only[]at this;omega) ae) ?_
 conv=>cbv
 refine .lss (fun h10=>?_) fun h10=>?_
 conv=>cbv
 refine .go2 (by kernel_rfl) ?_
 conv=>cbv
 have e:false=A4 (⟨A6,Bf,Bd,A8,Bj,Bh⟩:Ad) list:=(by exact Lg (d:=(⟨A6,Bf,Bd,A8,Bj,Bh⟩:Ad)) aa (by unfold Ek;rw[hnd];simp only[];rw[ae,decide_eq_false (show¬0≤r9 by omega),Bool.and_false]))
 rw[hr]at e
 subst e
 exact hQ _ _ (.b rfl rfl)
 conv=>cbv
 refine .go2 (by kernel_rfl) ?_
 conv=>cbv
 refine .add fun am ao=>?_
 conv=>cbv
 exact .go [] (am) (hJ _ ⟨by omega,by omega,fun j h=>if e:j=i9.toNat then by subst e;unfold Ek;rw[hnd,hpd];simp only[];rw[←aj,ad,ae,decide_eq_true (show 0≤r9 by omega),decide_eq_false (show¬i9.toNat=0 by omega)];rfl else hb j (by omega)⟩ mlt)
 conv=>cbv
 refine .go2 (by kernel_rfl) ?_
 conv=>cbv
 have e:false=A4 (⟨A6,Bf,Bd,A8,Bj,Bh⟩:Ad) list:=(by exact Lg (d:=(⟨A6,Bf,Bd,A8,Bj,Bh⟩:Ad)) aa (by unfold Ek;rw[hnd];simp only[];rw[hpd];simp only[];rw[←aj,decide_eq_false (show¬i9.toNat=0 by omega)];rfl))
 rw[hr]at e
 subst e
 exact hQ _ _ (.b rfl rfl)
 conv=>cbv
 generalize af:Bq ab=r5
 refine .dd hP (Ni (by omega) af) ?_
 cases r5
 conv=>cbv
 refine .go2 (by kernel_rfl) ?_
 conv=>cbv
 have e:false=A4 (⟨A6,Bf,Bd,A8,Bj,Bh⟩:Ad) list:=(by exact Lg (d:=(⟨A6,Bf,Bd,A8,Bj,Bh⟩:Ad)) aa (by unfold Ek;rw[hnd];simp only[];rw[af,Bool.and_false];rfl))
 rw[hr]at e
 subst e
 exact hQ _ _ (.b rfl rfl)
 conv=>cbv
 generalize ag:G8 (⟨A6,Bf,Bd,A8,Bj,Bh⟩:Ad) ac=r6
 refine .dd hP (Kc B9 Cu Ct Cm (by have:=hd.1;simp only[]at this;omega) ag) ?_
 conv=>cbv
 refine .lss (fun h7=>?_) fun h7=>?_
 conv=>cbv
 refine .go2 (by kernel_rfl) ?_
 conv=>cbv
 have e:false=A4 (⟨A6,Bf,Bd,A8,Bj,Bh⟩:Ad) list:=(by exact Lg (d:=(⟨A6,Bf,Bd,A8,Bj,Bh⟩:Ad)) aa (by unfold Ek;rw[hnd];simp only[];rw[ag,decide_eq_false (show¬0≤r6 by omega),Bool.and_false]))
 rw[hr]at e
 subst e
 exact hQ _ _ (.b rfl rfl)
 conv=>cbv
 refine .go2 (by kernel_rfl) ?_
 conv=>cbv
 refine .add fun v8 ar=>?_
 conv=>cbv
 exact .go [] (v8) (hJ _ ⟨by omega,by omega,fun j h=>if e:j=i9.toNat then by subst e;unfold Ek;rw[hnd];simp only[];rw[af,ag,decide_eq_true (show 0≤r6 by omega),decide_eq_true (show i9.toNat=0 by omega)];rfl else hb j (by omega)⟩ mlt)
 conv=>cbv
 refine .go hlist fun v3 au=>?_
 conv=>cbv
 refine .leq (fun h4=>?_) fun h4=>?_
 conv=>cbv
 have e:true=A4 (⟨A6,Bf,Bd,A8,Bj,Bh⟩:Ad) list:=(by exact Pq (l:=list) (fun j hj=>hb j (by omega)) (by symm;rw[decide_eq_true_eq];omega))
 rw[hr]at e
 subst e
 exact hQ _ _ (.b rfl rfl)
 conv=>cbv
 have e:false=A4 (⟨A6,Bf,Bd,A8,Bj,Bh⟩:Ad) list:=(by exact Pq (l:=list) (fun j hj=>hb j (by omega)) (by symm;rw[decide_eq_false_iff_not];omega))
 rw[hr]at e
 subst e
 exact hQ _ _ (.b rfl rfl)
theorem Ig{a:List Aa}{xa:List (List D)}{b:List Aa}{xb:List (List D)}(ha:a.map Ac=xa)(hb:b.map Ac=xb)(aj:a.length<2^40)(hr:El a b=o):Fn Tryz.prog 178 [.d (.row 2 xa),.d (.row 2 xb)] [] ⟨B o,[],[]⟩:=by
 refine Fn.go Lq Tryz.func178 fun P hP Q hQ=>?_
 conv=>cbv
 refine .go ha fun v1 ak=>?_
 conv=>cbv
 refine .go hb fun v2 al=>?_
 conv=>cbv
 refine .neq (fun h3=>?_) fun h3=>?_
 conv=>cbv
 have e:false=El a b:=(by unfold El;symm;rw[decide_eq_false_iff_not];intro h;subst h;omega)
 rw[hr]at e
 subst e
 exact hQ _ _ (.b rfl rfl)
 conv=>cbv
 refine .go ha fun v4 am=>?_
 conv=>cbv
 refine LoopW.lp (κ:=Int) Lq hP [] [0,1,12] (fun aa=>[(13,I aa)]) (fun aa=>[])
  (fun aa=>0≤aa∧aa≤a.length∧∀(j:Nat) (p:j<a.length) (q:j<b.length),j<aa.toNat→a[j]=b[j])
  (fun aa=>(a.length - aa).toNat) (0) ⟨by omega,by omega,fun j p q h=>by simp at h⟩ ⟨rfl,trivial⟩ rfl ?_
 rintro aa J ⟨h0,h1,hs⟩ hJ
 conv=>cbv
 refine .lss (fun h5=>?_) fun h5=>?_
 conv=>cbv
 refine .go aa.toNat ha fun af ⟨ad,ag⟩ ab=>?_
 conv=>cbv
 refine .go aa.toNat hb fun ah ⟨ae,ai⟩ ac=>?_
 conv=>cbv
 refine .eSI (fun h8=>?_) fun h8=>?_
 conv=>cbv
 refine .add fun v9 an=>?_
 conv=>cbv
 exact .go [] (v9) (hJ _ ⟨by omega,by omega,fun j p q h=>if e:j=aa.toNat then by subst e;rw[←ab,←ac,Aa.mk.injEq];exact h8 else hs j p q (by omega)⟩ mlt)
 conv=>cbv
 have e:false=El a b:=(by unfold El;symm;rw[decide_eq_false_iff_not];intro h;subst h;have:=ab.trans ac.symm;rw[Aa.mk.injEq]at this;exact h8 this)
 rw[hr]at e
 subst e
 exact hQ _ _ (.b rfl rfl)
 conv=>cbv
 have e:true=El a b:=(by unfold El;symm;rw[decide_eq_true_eq];exact List.ext_getElem (show a.length=b.length by omega) fun j p q=>hs j p q (by omega))
 rw[hr]at e
 subst e
 exact hQ _ _ (.b rfl rfl)
end
section
open Go Go.Proofs
set_option maxRecDepth 20000
set_option maxHeartbeats 4000000
def Q9:List (Nat×TyRow):=[ty3,ty9,XfP,Xdv,Xco,XbX,Z6]
theorem X7:Ce Tryz.prog Q9:=Ce.of (by kernel_rfl)
theorem Hr:Setup Tryz.prog Q9:=⟨X7,mixed⟩
theorem Jv:∀a b:List UInt8,Op.bytesLess a b=true→Op.bytesLess b a=false
 |_,[],h=>by simp[Op.bytesLess]at h
 |[],_::_,_=>by simp[Op.bytesLess]
 |a::x,b::y,h=>by
  simp only[Op.bytesLess,Bool.or_eq_true,decide_eq_true_eq,Bool.and_eq_true,beq_iff_eq]at h
  simp only[Op.bytesLess,Bool.or_eq_false_iff,decide_eq_false_iff_not,Bool.and_eq_false_iff,beq_eq_false_iff_ne]
  rcases h with h|⟨h1,h2⟩
  ·exact⟨fun h3=>absurd (UInt8.lt_trans h h3) (UInt8.lt_irrefl _),.inl fun e=>by subst e;exact UInt8.lt_irrefl _ h⟩
  ·subst h1
   exact⟨UInt8.lt_irrefl _,.inr (Jv x y h2)⟩
theorem Pz:∀a b:List UInt8,Op.bytesLess a b=false→a≠b→Op.bytesLess b a=true
 |[],[],_,h=>absurd rfl h
 |[],_::_,h,_=>by simp[Op.bytesLess]at h
 |_::_,[],_,_=>by simp[Op.bytesLess]
 |a::x,b::y,h,hn=>by
  simp only[Op.bytesLess,Bool.or_eq_false_iff,decide_eq_false_iff_not,Bool.and_eq_false_iff,beq_eq_false_iff_ne]at h
  simp only[Op.bytesLess,Bool.or_eq_true,decide_eq_true_eq,Bool.and_eq_true,beq_iff_eq]
  by_cases e:a=b
  ·subst e
   right
   refine⟨rfl,Pz x y (h.2.resolve_left fun h=>h rfl) fun e=>hn (by rw[e])⟩
  ·left
   exact(UInt8.lt_or_lt_of_ne e).resolve_left h.1
theorem Yk(a b:ByteArray):(!(ltB a b))=(ltB b a||decide (b=a)):=by
 unfold ltB
 cases h:Op.bytesLess a.toList b.toList with
 |true=>
  rw[Jv _ _ h]
  have:¬b=a:=by
   rintro rfl
   have:=Jv _ _ h
   rw[h]at this
   cases this
  rw[decide_eq_false this];rfl
 |false=>
  by_cases e:b=a
  ·rw[decide_eq_true e,Bool.or_true];rfl
  ·rw[Pz _ _ h fun e2=>e (K4 e2.symm),decide_eq_false e];rfl
def F1(d:Ad)(l:List Aa):Bool:=A4 d l
def I0(a b:List Aa):Bool:=El a b
def Dp(l:List Aa)(name:ByteArray):List Aa:=l.filter fun x=>!decide (x.name_=name)
def Pc(e:Aa):List Aa→Bool→List Aa
 |[],done=>if done=true then[]else[e]
 |x::l,done=>(if done=false∧ltB x.name_ e.name_=false then[e]else[])++((if x.name_=e.name_ then[]else[x])++Pc e l (done|| !(ltB x.name_ e.name_)))
def Ed(l:List Aa)(e:Aa):List Aa:=Pc e l false
theorem L5{e x:Aa}{l:List Aa}{i:Nat}{b:Bool}{w:List Aa}{r:List Aa}(hi:i<l.length)(hx:x=l[i])(h:w++Pc e (l.drop i) b=r):
  w++((if b=false∧ltB x.name_ e.name_=false then[e]else[])++((if x.name_=e.name_ then[]else[x])++Pc e (l.drop (i+1)) (b|| !(ltB x.name_ e.name_))))=r:=by
 rw[List.drop_eq_getElem_cons hi,←hx]at h
 exact h
variable {A6:List Bb} {Cs Cx Cw Cy xl xo:List (List D)} {Bf Bd l:List Aa} {A8:List ByteArray} {Bj Bh:Int} {o:Bool}
theorem Xfv{o:Int}(B9:A6.map Ci=Cs)(Cu:Bf.map Ac=Cx)(Ct:Bd.map Ac=Cw)(Cm:A8.map cS=Cy)(hd:okD ⟨A6,Bf,Bd,A8,Bj,Bh⟩)(hr:Hb (⟨A6,Bf,Bd,A8,Bj,Bh⟩:Ad)=o):Fn Tryz.prog 170 [.agg [.d (.row 3 Cs),.d (.row 2 Cx),.d (.row 2 Cw),.d (.row 1 Cy),I Bj,I Bh]] [] ⟨I o,[],[]⟩:=by
 refine Fn.go Hr Tryz.func170 fun P hP Q hQ=>?_
 conv=>cbv
 refine LoopW.lp (κ:=Int×Int) Hr hP [] [1] (fun(i3,i4)=>[(3,I i3),(4,I i4)]) (fun(i3,i4)=>[])
  (fun(i3,i4)=>0≤i4∧i4≤A6.length∧i3=XgF (fun n:Bb=>(n.text_.size:Int)) (A6.take i4.toNat)∧0≤i3∧i3≤1000000000*i4)
  (fun(i3,i4)=>(A6.length - i4).toNat) (0,0) ⟨by omega,by omega,rfl,by omega,by omega⟩ ⟨rfl,rfl,trivial⟩ rfl ?_
 rintro⟨i3,i4⟩ J ⟨h0,h1,hx,hx0,hx1⟩ hJ
 have ag:A6.length≤1000000000:=hd.1
 have ac:∀n∈A6,n.text_.size≤1000000000:=hd.2.1
 conv=>cbv
 refine .go B9 fun v1 ah=>?_
 conv=>cbv
 refine .lss (fun h2=>?_) fun h2=>?_
 conv=>cbv
 refine .go i4.toNat B9 fun aa ⟨af,ad,ae⟩ ab=>?_
 conv=>cbv
 have hz:=ac _ (List.getElem_mem aa)
 rw[←ab]at hz
 simp only[]at hz
 refine .go fun v4 ai=>?_
 conv=>cbv
 refine .add fun v5 aj=>?_
 conv=>cbv
 refine .add fun v6 ak=>?_
 conv=>cbv
 exact .go [] (v5,v6) (hJ _ ⟨by omega,by omega,by rw[show v6.toNat=i4.toNat+1 by omega,Vt aa,←hx,←ab];simp only[];omega,by omega,by omega⟩ mlt)
 conv=>cbv
 have e:i3=Hb (⟨A6,Bf,Bd,A8,Bj,Bh⟩:Ad):=(by unfold Hb;rw[hx,List.take_of_length_le (by omega)])
 rw[hr]at e
 subst e
 exact hQ _ _ (.i rfl rfl)
theorem Kq:Setup Tryz.prog ((3000004,Eg Tryz.prog 3000004)::Q9):=(Setup.mark 3000004 Hr)
theorem Xl{list:List Aa}{xlist:List (List D)}(B9:A6.map Ci=Cs)(Cu:Bf.map Ac=Cx)(Ct:Bd.map Ac=Cw)(Cm:A8.map cS=Cy)(hlist:list.map Ac=xlist)(hd:okD ⟨A6,Bf,Bd,A8,Bj,Bh⟩)(hl:okL list)(hln:list.length≤1000000000)(hr:F1 (⟨A6,Bf,Bd,A8,Bj,Bh⟩:Ad) list=o):Fn Tryz.prog 171 [.agg [.d (.row 3 Cs),.d (.row 2 Cx),.d (.row 2 Cw),.d (.row 1 Cy),I Bj,I Bh],.d (.row 2 xlist)] [] ⟨B o,[],[]⟩:=by
 refine Fn.go Kq Tryz.func171 fun P hP Q hQ=>?_
 conv=>cbv
 refine LoopW.lp (κ:=Int) Kq hP [] [1,2] (fun i5=>[(5,I i5)]) (fun i5=>[])
  (fun i5=>0≤i5∧i5≤list.length∧∀j:Nat,j<i5.toNat→Ek (⟨A6,Bf,Bd,A8,Bj,Bh⟩:Ad) list j=true)
  (fun i5=>(list.length - i5).toNat) (0) ⟨by omega,by omega,fun j h=>by simp at h⟩ ⟨rfl,trivial⟩ rfl ?_
 rintro i5 J ⟨h0,h1,hb⟩ hJ
 conv=>cbv
 refine .go hlist fun v1 a1=>?_
 conv=>cbv
 refine .lss (fun h2=>?_) fun h2=>?_
 conv=>cbv
 refine .go i5.toNat hlist fun aa ⟨ab,am⟩ aj=>?_
 conv=>cbv
 have hnd:=Yj aa aj
 have hzn:ab.size≤1000000000:=by have:=hl _ (List.getElem_mem aa);rw[←aj]at this;exact this
 generalize ag:Bq ab=r4
 refine .dd hP (Nb (by omega) ag) ?_
 cases r4
 conv=>cbv
 refine .go2 (by kernel_rfl) ?_
 conv=>cbv
 have e:false=F1 (⟨A6,Bf,Bd,A8,Bj,Bh⟩:Ad) list:=(by exact Lg (d:=(⟨A6,Bf,Bd,A8,Bj,Bh⟩:Ad)) aa (by unfold Ek;rw[hnd];simp only[];rw[ag,Bool.and_false];rfl))
 rw[hr]at e
 subst e
 exact hQ _ _ (.b rfl rfl)
 conv=>cbv
 refine .go i5.toNat hlist fun az ⟨ae,ac⟩ an=>?_
 conv=>cbv
 generalize ao:Is (⟨A6,Bf,Bd,A8,Bj,Bh⟩:Ad) ac=r6
 refine .dd hP (Xs B9 Cu Ct Cm (by have:=hd.1;simp only[]at this;omega) ao) ?_
 conv=>cbv
 obtain⟨rfl,rfl⟩:ae=ab∧ac=am:=by have:=an.trans aj.symm;rw[Aa.mk.injEq]at this;exact this
 have af:G8 (⟨A6,Bf,Bd,A8,Bj,Bh⟩:Ad) ac=r6:=ao
 refine .lss (fun h7=>?_) fun h7=>?_
 conv=>cbv
 refine .go2 (by kernel_rfl) ?_
 conv=>cbv
 have e:false=F1 (⟨A6,Bf,Bd,A8,Bj,Bh⟩:Ad) list:=(by exact Lg (d:=(⟨A6,Bf,Bd,A8,Bj,Bh⟩:Ad)) aa (by unfold Ek;rw[hnd];simp only[];rw[af,decide_eq_false (show¬0≤r6 by omega),Bool.and_false]))
 rw[hr]at e
 subst e
 exact hQ _ _ (.b rfl rfl)
 conv=>cbv
 refine .gtr (fun h8=>?_) fun h8=>?_
 conv=>cbv
 refine .sub fun v9 ar=>?_
 conv=>cbv
 refine .go v9.toNat hlist fun ak ⟨ah,au⟩ ap=>?_
 conv=>cbv
 refine .go i5.toNat hlist fun aw ⟨ad,al⟩ aq=>?_
 conv=>cbv
 obtain⟨rfl,rfl⟩:ad=ae∧al=ac:=by have:=aq.trans an.symm;rw[Aa.mk.injEq]at this;exact this
 have hpd:=Yj ak ap
 rw[show v9.toNat=i5.toNat - 1 by omega]at hpd
 have hgq:=(Yk ah ad).symm
 refine .geq fun ax ai=>?_
 conv=>cbv
 refine .go2 (by kernel_rfl) ?_
 conv=>cbv
 cases ax
 conv=>cbv
 refine .add fun ay a0=>?_
 conv=>cbv
 exact .go [] (ay) (hJ _ ⟨by omega,by omega,fun j h=>if e:j=i5.toNat then by subst e;unfold Ek;rw[hnd,hpd];simp only[];rw[hgq,←ai,ag,af,decide_eq_true (show 0≤r6 by omega),decide_eq_false (show¬i5.toNat=0 by omega)];rfl else hb j (by omega)⟩ mlt)
 conv=>cbv
 have e:false=F1 (⟨A6,Bf,Bd,A8,Bj,Bh⟩:Ad) list:=(by exact Lg (d:=(⟨A6,Bf,Bd,A8,Bj,Bh⟩:Ad)) aa (by unfold Ek;rw[hnd];simp only[];rw[hpd];simp only[];rw[hgq,←ai,decide_eq_false (show¬i5.toNat=0 by omega)];rfl))
 rw[hr]at e
 subst e
 exact hQ _ _ (.b rfl rfl)
 conv=>cbv
 refine .go2 (by kernel_rfl) ?_
 conv=>cbv
 refine .add fun v9 ar=>?_
 conv=>cbv
 exact .go [] (v9) (hJ _ ⟨by omega,by omega,fun j h=>if e:j=i5.toNat then by subst e;unfold Ek;rw[hnd];simp only[];rw[ag,af,decide_eq_true (show 0≤r6 by omega),decide_eq_true (show i5.toNat=0 by omega)];rfl else hb j (by omega)⟩ mlt)
 conv=>cbv
 refine .go hlist fun v3 a2=>?_
 conv=>cbv
 refine .leq (fun h4=>?_) fun h4=>?_
 conv=>cbv
 have e:true=F1 (⟨A6,Bf,Bd,A8,Bj,Bh⟩:Ad) list:=(by exact Pq (l:=list) (fun j hj=>hb j (by omega)) (by symm;rw[decide_eq_true_eq];omega))
 rw[hr]at e
 subst e
 exact hQ _ _ (.b rfl rfl)
 conv=>cbv
 have e:false=F1 (⟨A6,Bf,Bd,A8,Bj,Bh⟩:Ad) list:=(by exact Pq (l:=list) (fun j hj=>hb j (by omega)) (by symm;rw[decide_eq_false_iff_not];omega))
 rw[hr]at e
 subst e
 exact hQ _ _ (.b rfl rfl)
theorem Xc7{a:List Aa}{xa:List (List D)}{b:List Aa}{xb:List (List D)}(ha:a.map Ac=xa)(hb:b.map Ac=xb)(ai:a.length<2^40)(hr:I0 a b=o):Fn Tryz.prog 172 [.d (.row 2 xa),.d (.row 2 xb)] [] ⟨B o,[],[]⟩:=by
 refine Fn.go Hr Tryz.func172 fun P hP Q hQ=>?_
 conv=>cbv
 refine .go ha fun v1 aj=>?_
 conv=>cbv
 refine .go hb fun v2 ak=>?_
 conv=>cbv
 refine .neq (fun h3=>?_) fun h3=>?_
 conv=>cbv
 have e:false=I0 a b:=(by unfold I0 El;symm;rw[decide_eq_false_iff_not];intro h;subst h;omega)
 rw[hr]at e
 subst e
 exact hQ _ _ (.b rfl rfl)
 conv=>cbv
 refine LoopW.lp (κ:=Int) Hr hP [] [0,1] (fun i5=>[(5,I i5)]) (fun i5=>[])
  (fun i5=>0≤i5∧i5≤a.length∧∀(j:Nat) (p:j<a.length) (q:j<b.length),j<i5.toNat→a[j]=b[j])
  (fun i5=>(a.length - i5).toNat) (0) ⟨by omega,by omega,fun j p q h=>by simp at h⟩ ⟨rfl,trivial⟩ rfl ?_
 rintro i5 J ⟨h0,h1,hs⟩ hJ
 conv=>cbv
 refine .go ha fun v4 al=>?_
 conv=>cbv
 refine .lss (fun h5=>?_) fun h5=>?_
 conv=>cbv
 refine .go i5.toNat ha fun ae ⟨ac,af⟩ aa=>?_
 conv=>cbv
 refine .go i5.toNat hb fun ag ⟨ad,ah⟩ ab=>?_
 conv=>cbv
 refine .eSI (fun h8=>?_) fun h8=>?_
 conv=>cbv
 refine .add fun v9 am=>?_
 conv=>cbv
 exact .go [] (v9) (hJ _ ⟨by omega,by omega,fun j p q h=>if e:j=i5.toNat then by subst e;rw[←aa,←ab,Aa.mk.injEq];exact h8 else hs j p q (by omega)⟩ mlt)
 conv=>cbv
 have e:false=I0 a b:=(by unfold I0 El;symm;rw[decide_eq_false_iff_not];intro h;subst h;have:=aa.trans ab.symm;rw[Aa.mk.injEq]at this;exact h8 this)
 rw[hr]at e
 subst e
 exact hQ _ _ (.b rfl rfl)
 conv=>cbv
 have e:true=I0 a b:=(by unfold I0 El;symm;rw[decide_eq_true_eq];exact List.ext_getElem (show a.length=b.length by omega) fun j p q=>hs j p q (by omega))
 rw[hr]at e
 subst e
 exact hQ _ _ (.b rfl rfl)
theorem Nf{name:ByteArray}{o:List Aa}(hl:l.map Ac=xl)(hn:l.length≤4000000000)(hr:Dp l name=o)(ho:o.map Ac=xo):Fn Tryz.prog 243 [.d (.row 2 xl),S name] [] ⟨.d (.row 2 xo),[],[]⟩:=by
 refine Fn.go Hr Tryz.func243 fun P hP Q hQ=>?_
 conv=>cbv
 refine LoopW.lp (κ:=Int×(List (List D))×Nat) Hr hP [1] [0,1] (fun(i6,aa,ab)=>[(5,.ref 2 0 ab),(6,I i6)]) (fun(i6,aa,ab)=>[(2,.row 2 false aa)])
  (fun(i6,aa,ab)=>∃(w2:List Aa),w2.map Ac=aa∧ab=w2.length∧0≤i6∧i6≤l.length∧w2=(l.take i6.toNat).filter (fun x=>!decide (x.name_=name))∧w2.length≤i6)
  (fun(i6,aa,ab)=>(l.length - i6).toNat) (0,[],0) ⟨[],rfl,rfl,by omega,by omega,rfl,by simp⟩ ⟨rfl,rfl,trivial⟩ rfl ?_
 rintro⟨i6,aa,ab⟩ J ⟨w2,ac,al,h0,h1,hx,hxl⟩ hJ
 conv=>cbv
 refine .go hl fun v1 ap=>?_
 conv=>cbv
 refine .lss (fun h2=>?_) fun h2=>?_
 conv=>cbv
 refine .go i6.toNat hl fun ad ⟨ah,am⟩ ae=>?_
 conv=>cbv
 refine .neq (fun h4=>?_) fun h4=>?_
 conv=>cbv
 refine .go i6.toNat hl fun an ⟨af,ag⟩ ai=>?_
 conv=>cbv
 refine .one (⟨af,ag⟩:Aa) ac rfl fun aj z6 ao ak=>?_
 conv=>cbv
 refine .add fun v7 aq=>?_
 conv=>cbv
 exact .go [4] (v7,z6,aj) (hJ _ ⟨_,ak,Oq,by omega,by omega,by rw[show v7.toNat=i6.toNat+1 by omega,F2 ad,←hx,←ae];simp only[];rw[decide_eq_false h4,ai,←ae];rfl,by rw[List.length_append,List.length_singleton];omega⟩ mlt)
 conv=>cbv
 refine .add fun v5 ar=>?_
 conv=>cbv
 exact .go [2] (v5,aa,ab) (hJ _ ⟨_,ac,Oq,by omega,by omega,by rw[show v5.toNat=i6.toNat+1 by omega,F2 ad,←hx,←ae];simp only[];rw[decide_eq_true h4];simp,by omega⟩ mlt)
 conv=>cbv
 have e:w2=Dp l name:=(by unfold Dp;rw[hx,List.take_of_length_le (by omega)])
 rw[hr]at e
 subst e
 exact hQ _ _ (.r rfl rfl (by rw[←ac,List.length_map];first|omega|(simp;omega)) (by rw[←ac,←ho]))
theorem Ii{enam:ByteArray}{eid:Int}{o:List Aa}(hl:l.map Ac=xl)(hn:l.length≤4000000000)(hr:Ed l (⟨enam,eid⟩:Aa)=o)(ho:o.map Ac=xo):Fn Tryz.prog 244 [.d (.row 2 xl),.agg [S enam,I eid]] [] ⟨.d (.row 2 xo),[],[]⟩:=by
 refine Fn.go Hr Tryz.func244 fun P hP Q hQ=>?_
 conv=>cbv
 refine LoopW.lp (κ:=Bool×Int×(List (List D))×Nat) Hr hP [2] [0,3] (fun(b6,i7,ad,ae)=>[(5,.ref 3 0 ae),(6,B b6),(7,I i7)]) (fun(b6,i7,ad,ae)=>[(3,.row 2 false ad)])
  (fun(b6,i7,ad,ae)=>∃(w3:List Aa),w3.map Ac=ad∧ae=w3.length∧0≤i7∧i7≤l.length∧w3++Pc (⟨enam,eid⟩:Aa) (l.drop i7.toNat) b6=Ed l (⟨enam,eid⟩:Aa)∧w3.length≤2*i7)
  (fun(b6,i7,ad,ae)=>(l.length - i7).toNat) (false,0,[],0) ⟨[],rfl,rfl,by omega,by omega,rfl,by simp⟩ ⟨rfl,rfl,rfl,trivial⟩ rfl ?_
 rintro⟨b6,i7,ad,ae⟩ J ⟨w3,af,a9,h0,h1,hx,hxl⟩ hJ
 conv=>cbv
 refine .go hl fun v1 bj=>?_
 conv=>cbv
 refine .lss (fun h2=>?_) fun h2=>?_
 conv=>cbv
 cases b6
 conv=>cbv
 refine .go i7.toNat hl fun aq ⟨ac,ak⟩ ab=>?_
 conv=>cbv
 refine .geq fun b4 al=>?_
 conv=>cbv
 cases b4
 conv=>cbv
 refine .go i7.toNat hl fun ar ⟨aa,ag⟩ am=>?_
 conv=>cbv
 obtain⟨rfl,rfl⟩:aa=ac∧ag=ak:=by have:=am.trans ab.symm;rw[Aa.mk.injEq]at this;exact this
 refine .neq (fun h6=>?_) fun h6=>?_
 conv=>cbv
 refine .go i7.toNat hl fun ba ⟨ah,an⟩ az=>?_
 conv=>cbv
 obtain⟨rfl,rfl⟩:ah=aa∧an=ag:=by have:=az.trans am.symm;rw[Aa.mk.injEq]at this;exact this
 refine .one (⟨ah,an⟩:Aa) af rfl fun a0 z8 bb a1=>?_
 conv=>cbv
 refine .add fun v9 bk=>?_
 conv=>cbv
 have hlt:ltB ah enam=true:=by simpa using al
 have hps:=L5 (show i7.toNat<l.length by omega) ab hx
 simp only[]at hps
 rw[hlt,if_neg (by simp),if_neg h6,List.nil_append,←List.append_assoc]at hps
 exact .go [5] (false,v9,z8,a0) (hJ _ ⟨_,a1,Oq,by omega,by omega,by rw[show v9.toNat=i7.toNat+1 by omega];exact hps,by first|omega|(simp;omega)⟩ mlt)
 conv=>cbv
 refine .add fun v7 a2=>?_
 conv=>cbv
 have hlt:ltB aa enam=true:=by simpa using al
 have hps:=L5 (show i7.toNat<l.length by omega) ab hx
 simp only[]at hps
 rw[hlt,if_neg (by simp),if_pos h6,List.nil_append,List.nil_append]at hps
 exact .go [3] (false,v7,ad,ae) (hJ _ ⟨_,af,Oq,by omega,by omega,by rw[show v7.toNat=i7.toNat+1 by omega];exact hps,by first|omega|(simp;omega)⟩ mlt)
 conv=>cbv
 refine .one (⟨enam,eid⟩:Aa) af rfl fun a3 z5 bc au=>?_
 conv=>cbv
 refine .go i7.toNat hl fun bd ⟨ai,ao⟩ aw=>?_
 conv=>cbv
 obtain⟨rfl,rfl⟩:ai=ac∧ao=ak:=by have:=aw.trans ab.symm;rw[Aa.mk.injEq]at this;exact this
 refine .neq (fun h7=>?_) fun h7=>?_
 conv=>cbv
 refine .go i7.toNat hl fun be ⟨aj,ap⟩ a4=>?_
 conv=>cbv
 obtain⟨rfl,rfl⟩:aj=ai∧ap=ao:=by have:=a4.trans aw.symm;rw[Aa.mk.injEq]at this;exact this
 refine .one (⟨aj,ap⟩:Aa) au rfl fun a5 z9 bf a6=>?_
 conv=>cbv
 refine .add fun ax bg=>?_
 conv=>cbv
 have hlt:ltB aj enam=false:=by simpa using al
 have hps:=L5 (show i7.toNat<l.length by omega) ab hx
 simp only[]at hps
 rw[hlt,if_pos (by simp),if_neg h7,←List.append_assoc,←List.append_assoc]at hps
 exact .go [7] (true,ax,z9,a5) (hJ _ ⟨_,a6,Oq,by omega,by omega,by rw[show ax.toNat=i7.toNat+1 by omega];exact hps,by first|omega|(simp;omega)⟩ mlt)
 conv=>cbv
 refine .add fun v8 bl=>?_
 conv=>cbv
 have hlt:ltB ai enam=false:=by simpa using al
 have hps:=L5 (show i7.toNat<l.length by omega) ab hx
 simp only[]at hps
 rw[hlt,if_pos (by simp),if_pos h7,List.nil_append,←List.append_assoc]at hps
 exact .go [5] (true,v8,z5,a3) (hJ _ ⟨_,au,Oq,by omega,by omega,by rw[show v8.toNat=i7.toNat+1 by omega];exact hps,by first|omega|(simp;omega)⟩ mlt)
 conv=>cbv
 refine .go i7.toNat hl fun aq ⟨ac,ak⟩ ab=>?_
 conv=>cbv
 refine .neq (fun h4=>?_) fun h4=>?_
 conv=>cbv
 refine .go i7.toNat hl fun ar ⟨aa,ag⟩ am=>?_
 conv=>cbv
 obtain⟨rfl,rfl⟩:aa=ac∧ag=ak:=by have:=am.trans ab.symm;rw[Aa.mk.injEq]at this;exact this
 refine .one (⟨aa,ag⟩:Aa) af rfl fun a7 z6 bh a8=>?_
 conv=>cbv
 refine .add fun v7 a2=>?_
 conv=>cbv
 have hps:=L5 (show i7.toNat<l.length by omega) ab hx
 simp only[]at hps
 rw[if_neg (by simp),if_neg h4,List.nil_append,←List.append_assoc]at hps
 exact .go [5] (true,v7,z6,a7) (hJ _ ⟨_,a8,Oq,by omega,by omega,by rw[show v7.toNat=i7.toNat+1 by omega];exact hps,by first|omega|(simp;omega)⟩ mlt)
 conv=>cbv
 refine .add fun v5 bm=>?_
 conv=>cbv
 have hps:=L5 (show i7.toNat<l.length by omega) ab hx
 simp only[]at hps
 rw[if_neg (by simp),if_pos h4,List.nil_append,List.nil_append]at hps
 exact .go [3] (true,v5,ad,ae) (hJ _ ⟨_,af,Oq,by omega,by omega,by rw[show v5.toNat=i7.toNat+1 by omega];exact hps,by first|omega|(simp;omega)⟩ mlt)
 conv=>cbv
 cases b6
 conv=>cbv
 refine .one (⟨enam,eid⟩:Aa) af rfl fun bn z3 bi ay=>?_
 conv=>cbv
 have e:(w3++[(⟨enam,eid⟩:Aa)])=Ed l (⟨enam,eid⟩:Aa):=(by rw[List.drop_of_length_le (by omega)]at hx;exact hx)
 rw[hr]at e
 subst e
 exact hQ _ _ (.r rfl rfl (by rw[←ay,List.length_map];first|omega|(simp;omega)) (by rw[←ay,←ho]))
 conv=>cbv
 have e:w3=Ed l (⟨enam,eid⟩:Aa):=(by rw[List.drop_of_length_le (by omega)]at hx;simpa[Pc]using hx)
 rw[hr]at e
 subst e
 exact hQ _ _ (.r rfl rfl (by rw[←af,List.length_map];first|omega|(simp;omega)) (by rw[←af,←ho]))
end
section
open Go Go.Proofs
set_option maxRecDepth 20000
set_option maxHeartbeats 4000000
def Q7:List (Nat×TyRow):=[ty3,ty9,Xcl,Xdv,Xco]
theorem Xa:Ce Tryz.prog Q7:=Ce.of (by kernel_rfl)
theorem U2:Setup Tryz.prog Q7:=⟨Xa,mixed⟩
theorem diskOk_iff{d:Ad}:B0 d=true↔(0≤d.room_∧d.room_≤1000000000)∧(1≤d.next_∧d.next_≤1000000000)∧Dl d=true∧Hb d≤d.room_∧Dr d d.old_ d.steps_=true:=by
 unfold B0 Bg Ba
 simp only[Bool.and_eq_true,decide_eq_true_eq,and_assoc]
theorem Dd{d:Ad}(h:¬B0 d=true):false=B0 d:=by
 symm
 rw[Bool.eq_false_iff]
 exact h
theorem Su{d:Ad}{now:List Aa}{l:List ByteArray}(h:A4 d now=false):Dr d now l=false:=by
 cases l with
 |nil=>unfold Dr;rw[h];rfl
 |cons=>unfold Dr;rw[h];rfl
def Gz:List Aa→List ByteArray→List Aa×Bool
 |now,[]=>(now,true)
 |now,s::ss=>if(As now s).2=false then([],false)else Gz (As now s).1 ss
def Ch(old:List Aa)(steps:List ByteArray)(n:Int):List Aa×Bool:=Gz old (steps.take (Cc n 0 steps.length).toNat)
theorem O6:Setup Tryz.prog ((3000001,Eg Tryz.prog 3000001)::Q7):=(Setup.mark 3000001 U2)
theorem Xbp{A6:List Bb}{Cs:List (List D)}{Bf:List Aa}{Cx:List (List D)}{Bd:List Aa}{Cw:List (List D)}{A8:List ByteArray}{Cy:List (List D)}{Bj:Int}{Bh:Int}{o:Bool}(B9:A6.map Ci=Cs)(Cu:Bf.map Ac=Cx)(Ct:Bd.map Ac=Cw)(Cm:A8.map cS=Cy)(ab:W4 ⟨A6,Bf,Bd,A8,Bj,Bh⟩)(hr:B0 (⟨A6,Bf,Bd,A8,Bj,Bh⟩:Ad)=o):Fn Tryz.prog 87 [.agg [.d (.row 3 Cs),.d (.row 2 Cx),.d (.row 2 Cw),.d (.row 1 Cy),I Bj,I Bh]] [] ⟨B o,[],[]⟩:=by
 refine Fn.go O6 Tryz.func87 fun P hP Q hQ=>?_
 conv=>cbv
 generalize ad:Bg Bj=r1
 refine .dd hP (Fo ad) ?_
 cases r1
 simp only[Bg,decide_eq_true_eq,decide_eq_false_iff_not]at ad
 conv=>cbv
 refine .go2 (by kernel_rfl) ?_
 conv=>cbv
 have e:false=B0 (⟨A6,Bf,Bd,A8,Bj,Bh⟩:Ad):=(by exact Dd fun h=>by rw[diskOk_iff]at h;exact ad h.1)
 rw[hr]at e
 subst e
 exact hQ _ _ (.b rfl rfl)
 simp only[Bg,decide_eq_true_eq,decide_eq_false_iff_not]at ad
 conv=>cbv
 generalize ae:Ba Bh 1 1000000000=r2
 refine .dd hP (D6 ae) ?_
 cases r2
 simp only[Ba,decide_eq_true_eq,decide_eq_false_iff_not]at ae
 conv=>cbv
 refine .go2 (by kernel_rfl) ?_
 conv=>cbv
 have e:false=B0 (⟨A6,Bf,Bd,A8,Bj,Bh⟩:Ad):=(by exact Dd fun h=>by rw[diskOk_iff]at h;exact ae h.2.1)
 rw[hr]at e
 subst e
 exact hQ _ _ (.b rfl rfl)
 simp only[Ba,decide_eq_true_eq,decide_eq_false_iff_not]at ae
 conv=>cbv
 generalize am:Dl (⟨A6,Bf,Bd,A8,Bj,Bh⟩:Ad)=r3
 refine .dd hP (Rg B9 Cu Ct Cm ab.1 (by omega) am) ?_
 cases r3
 conv=>cbv
 refine .go2 (by kernel_rfl) ?_
 conv=>cbv
 have e:false=B0 (⟨A6,Bf,Bd,A8,Bj,Bh⟩:Ad):=(by exact Dd fun h=>by rw[diskOk_iff]at h;have:=h.2.2.1;rw[am]at this;cases this)
 rw[hr]at e
 subst e
 exact hQ _ _ (.b rfl rfl)
 conv=>cbv
 generalize an:Hb (⟨A6,Bf,Bd,A8,Bj,Bh⟩:Ad)=r4
 refine .dd hP (XeG B9 Cu Ct Cm ab.1 an) ?_
 conv=>cbv
 refine .gtr (fun h5=>?_) fun h5=>?_
 conv=>cbv
 refine .go2 (by kernel_rfl) ?_
 conv=>cbv
 have e:false=B0 (⟨A6,Bf,Bd,A8,Bj,Bh⟩:Ad):=(by exact Dd fun h=>by rw[diskOk_iff]at h;have:=h.2.2.2.1;rw[an]at this;simp only[]at this;omega)
 rw[hr]at e
 subst e
 exact hQ _ _ (.b rfl rfl)
 conv=>cbv
 refine .go2 (by kernel_rfl) ?_
 conv=>cbv
 have hdo:Bd.length≤1000000000:=ab.1.2.2.2.2.1
 have hds:A8.length≤1000000000:=ab.1.2.2.2.2.2
 generalize aq:E9 Bd=l6
 generalize ar:l6.map Ac=az
 refine .dd hP (Cp Ct (by omega) aq ar) ?_
 conv=>cbv
 have af:l6=Bd:=aq.symm
 refine LoopW.lp (κ:=(List (List D))×Int) O6 hP [] [1] (fun(ac,i4)=>[(3,.d (.row 2 ac)),(4,I i4)]) (fun(ac,i4)=>[])
  (fun(ac,i4)=>∃(u3:List Aa),u3.map Ac=ac∧0≤i4∧i4≤A8.length∧Dr (⟨A6,Bf,Bd,A8,Bj,Bh⟩:Ad) Bd A8=Dr (⟨A6,Bf,Bd,A8,Bj,Bh⟩:Ad) u3 (A8.drop i4.toNat)∧okL u3∧u3.length≤1000000000)
  (fun(ac,i4)=>(A8.length - i4).toNat) (az,0) ⟨l6,ar,by omega,by omega,by rw[af];rfl,by rw[af];exact ab.2.1,by rw[af];omega⟩ ⟨rfl,rfl,trivial⟩ rfl ?_
 rintro⟨ac,i4⟩ J ⟨u3,ao,h0,h1,hio,hul,hun⟩ hJ
 conv=>cbv
 generalize ag:A4 (⟨A6,Bf,Bd,A8,Bj,Bh⟩:Ad) u3=r7
 refine .dd hP (Om B9 Cu Ct Cm ao ab.1 hul (by omega) ag) ?_
 cases r7
 conv=>cbv
 have e:false=B0 (⟨A6,Bf,Bd,A8,Bj,Bh⟩:Ad):=(by exact Dd fun h=>by rw[diskOk_iff]at h;have hk:=h.2.2.2.2;simp only[]at hk;rw[hio]at hk;rw[Su ag]at hk;cases hk)
 rw[hr]at e
 subst e
 exact hQ _ _ (.b rfl rfl)
 conv=>cbv
 have a1:=Vi ag
 refine .go Cm fun v8 a3=>?_
 conv=>cbv
 refine .eql (fun h9=>?_) fun h9=>?_
 conv=>cbv
 generalize ah:El u3 Bf=a0
 refine .dd hP (Ig ao Cu (by omega) ah) ?_
 cases a0
 conv=>cbv
 have e:false=B0 (⟨A6,Bf,Bd,A8,Bj,Bh⟩:Ad):=(by exact Dd fun h=>by rw[diskOk_iff]at h;have hk:=h.2.2.2.2;simp only[]at hk;rw[hio]at hk;rw[List.drop_of_length_le (by omega)]at hk;unfold Dr at hk;rw[ah,Bool.and_false]at hk;cases hk)
 rw[hr]at e
 subst e
 exact hQ _ _ (.b rfl rfl)
 conv=>cbv
 have e:true=B0 (⟨A6,Bf,Bd,A8,Bj,Bh⟩:Ad):=(by symm;rw[diskOk_iff];refine⟨ad,ae,am,by rw[an];exact h5,?_⟩;simp only[];rw[hio,List.drop_of_length_le (by omega)];unfold Dr;rw[ag,ah];rfl)
 rw[hr]at e
 subst e
 exact hQ _ _ (.b rfl rfl)
 conv=>cbv
 refine .go i4.toNat Cm fun ai aj al=>?_
 conv=>cbv
 have au:aj.size≤1000000000:=al▸ab.2.2 _ (List.getElem_mem ai)
 have hdc:A8.drop i4.toNat=aj::A8.drop (i4.toNat+1):=by rw[List.drop_eq_getElem_cons ai,←al]
 rw[hdc]at hio
 rcases aa:As u3 aj with⟨aw,ax⟩
 generalize ak:aw.map Ac=ap
 refine .dd hP (S5 ao (by omega) (by omega) aa ak) ?_
 conv=>cbv
 have hsl:=M4 aa
 have hso:=XaW hul au aa
 cases ax
 conv=>cbv
 have e:false=B0 (⟨A6,Bf,Bd,A8,Bj,Bh⟩:Ad):=(by exact Dd fun h=>by rw[diskOk_iff]at h;have hk:=h.2.2.2.2;simp only[]at hk;rw[hio]at hk;unfold Dr at hk;rw[aa,Bool.and_false]at hk;cases hk)
 rw[hr]at e
 subst e
 exact hQ _ _ (.b rfl rfl)
 conv=>cbv
 refine .add fun ay a2=>?_
 conv=>cbv
 exact .go [] (ap,ay) (hJ _ ⟨_,ak,by omega,by omega,by rw[hio,show ay.toNat=i4.toNat+1 by omega];show(A4 _ _&&(As u3 aj).2&&Dr _ (As u3 aj).1 _)=_;rw[ag,aa];rfl,hso,by omega⟩ mlt)
theorem Z7{old:List Aa}{xold:List (List D)}{steps:List ByteArray}{xsteps:List (List D)}{n:Int}{oa:List Aa}{xoa:List (List D)}{ob:Bool}(hold:old.map Ac=xold)(hsteps:steps.map cS=xsteps)(hol:old.length≤1000000000)(hsl:steps.length≤1000000000)(hss:okS steps)(hr:Ch old steps n=(oa,ob))(hoa:oa.map Ac=xoa):Fn Tryz.prog 245 [.d (.row 2 xold),.d (.row 1 xsteps),I n] [] ⟨.tup [.d (.row 2 xoa),B ob],[],[]⟩:=by
 refine Fn.go U2 Tryz.func245 fun P hP Q hQ=>?_
 conv=>cbv
 generalize ah:E9 old=l1
 generalize ai:l1.map Ac=am
 refine .dd hP (Cp hold (by omega) ah ai) ?_
 conv=>cbv
 refine .go hsteps fun v2 an=>?_
 conv=>cbv
 generalize ag:Cc n 0 v2=r3
 refine .dd hP (Xk ag) ?_
 conv=>cbv
 have hbr:0≤r3∧r3≤steps.length:=by rw[←ag];unfold Cc;split<;>(try split)<;>omega
 refine .hi hsteps fun x4 hx4=>?_
 conv=>cbv
 refine .go hx4 fun v5 aq=>?_
 conv=>cbv
 have ad:l1=old:=ah.symm
 refine LoopW.lp (κ:=(List (List D))×Int) U2 hP [] [20,21] (fun(ab,aa)=>[(8,.d (.row 2 ab)),(22,I aa)]) (fun(ab,aa)=>[])
  (fun(ab,aa)=>∃(u8:List Aa),u8.map Ac=ab∧0≤aa∧aa≤(steps.take r3.toNat).length∧Ch old steps n=Gz u8 ((steps.take r3.toNat).drop aa.toNat)∧u8.length≤old.length+aa)
  (fun(ab,aa)=>((steps.take r3.toNat).length - aa).toNat) (am,0) ⟨l1,ai,by omega,by omega,by unfold Ch;rw[←an,ag,ad];rfl,by rw[ad];omega⟩ ⟨rfl,rfl,trivial⟩ rfl ?_
 rintro⟨ab,aa⟩ J ⟨u8,aj,h0,h1,hio,hun⟩ hJ
 have htl:(steps.take r3.toNat).length≤steps.length:=by rw[List.length_take];omega
 conv=>cbv
 refine .lss (fun h6=>?_) fun h6=>?_
 conv=>cbv
 refine .go aa.toNat hx4 fun ae e7 ak=>?_
 conv=>cbv
 have ar:e7.size≤1000000000:=by have hm:e7∈steps.take r3.toNat:=ak▸List.getElem_mem ae;exact hss _ (List.mem_of_mem_take hm)
 have hdc:(steps.take r3.toNat).drop aa.toNat=e7::(steps.take r3.toNat).drop (aa.toNat+1):=by rw[List.drop_eq_getElem_cons ae,←ak]
 rw[hdc]at hio
 rcases ac:As u8 e7 with⟨ao,ap⟩
 generalize af:ao.map Ac=al
 refine .dd hP (S5 aj (by omega) (by omega) ac af) ?_
 conv=>cbv
 have hsl8:=M4 ac
 cases ap
 conv=>cbv
 have e:([],false)=Ch old steps n:=(by rw[hio];show _=(if(As u8 e7).2=false then _ else _);rw[ac];rfl)
 rw[hr]at e
 simp only[Prod.mk.injEq]at e
 obtain⟨rfl,rfl⟩:=e
 refine hQ _ _ ?_
 exact .many (.inl rfl) rfl rfl (.ref rfl rfl (by rw[←hoa];rfl) (.d rfl rfl (.nil)))
 conv=>cbv
 refine .add fun v9 au=>?_
 conv=>cbv
 exact .go [] (al,v9) (hJ _ ⟨_,af,by omega,by omega,by rw[hio,show v9.toNat=aa.toNat+1 by omega];show(if(As u8 e7).2=false then _ else _)=_;rw[ac];rfl,by omega⟩ mlt)
 conv=>cbv
 have e:(u8,true)=Ch old steps n:=(by rw[hio,List.drop_of_length_le (by omega)];rfl)
 rw[hr]at e
 simp only[Prod.mk.injEq]at e
 obtain⟨rfl,rfl⟩:=e
 refine hQ _ _ ?_
 exact .many (.inl rfl) rfl rfl (.d rfl (Mq aj hoa) (.d rfl rfl (.nil)))
end
section
open Go Go.Proofs
set_option maxRecDepth 20000
set_option maxHeartbeats 4000000
def Qh:List (Nat×TyRow):=[ty3,ty5,ty9]
theorem Vv:Ce Tryz.prog Qh:=Ce.of (by kernel_rfl)
theorem Xfp:Setup Tryz.prog Qh:=⟨Vv,mixed⟩
theorem T3{a b:ByteArray}(h:a.data.toList=b.data.toList):a=b:=ByteArray.ext (Array.toList_inj.1 h)
theorem D9(s:ByteArray)(a b:Nat):(s.extract a b).data.toList=(s.data.toList.take b).drop a:=by
 rw[ByteArray.data_extract,Array.toList_extract,List.extract_eq_take_drop,List.drop_take]
theorem O0{c:UInt8}:∀(l:List UInt8) (k:Nat),l[k]? =some c→(∀j,j<k→∀x,l[j]? =some x→x≠c)→Lib.indexByte l c=k
 |[],k,h,_=>by simp at h
 |b::l,0,h,_=>by
  simp at h
  simp[Lib.indexByte,h]
 |b::l,k+1,h,hb=>by
  have h0:=hb 0 (by omega) b rfl
  have ih:=O0 l k (by simpa using h) (fun j hj x hx=>hb (j+1) (by omega) x (by simpa using hx))
  unfold Lib.indexByte
  rw[if_neg (by simpa using h0),ih,if_neg (by simp)]
  omega
theorem Ov{c:UInt8}:∀(l:List UInt8),(∀(j:Nat) x,l[j]? =some x→x≠c)→Lib.indexByte l c= -1
 |[],_=>rfl
 |b::l,hb=>by
  have h0:=hb 0 b rfl
  have ih:=Ov l (fun j x hx=>hb (j+1) x (by simpa using hx))
  unfold Lib.indexByte
  rw[if_neg (by simpa using h0),ih,if_pos (by rfl)]
theorem u8_58{x:UInt8}:x≠58↔x.toNat≠58:=⟨fun h e=>h (UInt8.toNat_inj.1 e),fun h e=>h (by rw[e];rfl)⟩
theorem Xav{s:ByteArray}{j:Nat}{x:UInt8}(h:(s.extract 1 s.size).data.toList[j]? =some x):∃hj:j+1<s.size,s[j+1]=x:=by
 rw[D9,List.getElem?_drop,List.take_of_length_le (by rw[Array.length_toList];exact Nat.le_refl _)]at h
 have hl:1+j<s.size:=by
  have:=(List.getElem?_eq_some_iff.1 h).1
  rwa[Array.length_toList]at this
 refine⟨by omega,?_⟩
 rw[show 1+j=j+1 by omega,J9 (show j+1<s.size by omega)]at h
 exact Option.some.inj h
theorem Of{s:ByteArray}{i:Nat}(h1:1≤i)(hi:i<s.size)(h:(s[i]).toNat=58)(hb:∀j,1≤j→j<i→∀hj:j<s.size,(s[j]).toNat≠58):Jk (s.extract 1 s.size)=(s.extract 1 i,s.extract (i+1) s.size,true):=by
 obtain⟨k,rfl⟩:∃k,i=k+1:=⟨i - 1,by omega⟩
 have hsz:(s.extract 1 s.size).size=s.size - 1:=by rw[ByteArray.size_extract];omega
 have e:Ja (s.extract 1 s.size)=(k:Int):=by
  refine O0 _ k ?_ ?_
  ·rw[D9,List.getElem?_drop,List.take_of_length_le (by rw[Array.length_toList];exact Nat.le_refl _),show 1+k=k+1 by omega,J9 hi]
   exact congrArg some (UInt8.toNat_inj.1 h)
  ·intro j hj x hx
   obtain⟨aa,rfl⟩:=Xav hx
   exact u8_58.2 (hb (j+1) (by omega) (by omega) aa)
 unfold Jk
 rw[e,if_pos (by omega),Int.toNat_natCast,hsz]
 have a1:(s.extract 1 s.size).extract 0 k=s.extract 1 (k+1):=by
  apply T3
  rw[D9,D9,D9,List.drop_zero,List.take_of_length_le (l:=s.data.toList) (by rw[Array.length_toList];exact Nat.le_refl _),List.drop_take,Nat.add_sub_cancel]
 have a2:(s.extract 1 s.size).extract (k+1) (s.size - 1)=s.extract (k+1+1) s.size:=by
  apply T3
  rw[D9,D9,D9,List.take_of_length_le (l:=s.data.toList) (by rw[Array.length_toList];exact Nat.le_refl _),List.take_of_length_le (by rw[List.length_drop,Array.length_toList];exact Nat.le_refl _),List.drop_drop]
  congr 1
  omega
 rw[a1,a2]
theorem Xfl{s:ByteArray}(hb:∀j,1≤j→∀hj:j<s.size,(s[j]).toNat≠58):(Jk (s.extract 1 s.size)).2.2=false:=by
 have e:Ja (s.extract 1 s.size)= -1:=by
  refine Ov _ ?_
  intro j x hx
  obtain⟨aa,rfl⟩:=Xav hx
  exact u8_58.2 (hb (j+1) (by omega) aa)
 unfold Jk
 rw[e,if_neg (by omega)]
def Bi(s:ByteArray):ByteArray×ByteArray×Int×Bool:=
 if s.size<2∨(s.data.toList.head?≠some 43∧s.data.toList.head?≠some 45∧s.data.toList.head?≠some 62)then(tx [],tx [],0,false)
 else if s.data.toList.head?=some 45 then(s.extract 1 s.size,tx [],0,true)
 else if(Jk (s.extract 1 s.size)).2.2=false then(tx [],tx [],0,false)
 else if s.data.toList.head?=some 62 then((Jk (s.extract 1 s.size)).1,(Jk (s.extract 1 s.size)).2.1,0,Bq (Jk (s.extract 1 s.size)).2.1&& !decide ((Jk (s.extract 1 s.size)).1=(Jk (s.extract 1 s.size)).2.1))
 else((Jk (s.extract 1 s.size)).1,tx [],(A5 (Jk (s.extract 1 s.size)).2.1).1,(A5 (Jk (s.extract 1 s.size)).2.1).2&&Bq (Jk (s.extract 1 s.size)).1)
theorem Hz{s:ByteArray}{v:Int}{n:Nat}(h0:0<s.size)(hv:v=((s[0]).toNat:Int))(h:v≠(n:Int))(hn:n<256):s.data.toList.head?≠some (UInt8.ofNat n):=by
 rw[Iv h0]
 intro e
 exact Xet hv h hn (Option.some.inj e)
theorem I9{s:ByteArray}{v:Int}{n:Nat}(h0:0<s.size)(hv:v=((s[0]).toNat:Int))(h:v=(n:Int))(hn:n<256):s.data.toList.head?=some (UInt8.ofNat n):=(Iv h0).trans (congrArg some (XeP hv h hn))
section
variable {s a b:ByteArray}
theorem Tr(h:s.size<2∨(s.data.toList.head?≠some 43∧s.data.toList.head?≠some 45∧s.data.toList.head?≠some 62)):(tx [],tx [],0,false)=Bi s:=by unfold Bi;rw[if_pos h]
theorem Vs(h2:2≤s.size)(h:s.data.toList.head?=some 45):(s.extract 1 s.size,tx [],0,true)=Bi s:=by
 unfold Bi
 rw[if_neg (by rw[h];rintro(h|h);omega;exact h.2.1 rfl),if_pos h]
theorem Us(h2:2≤s.size)(hh:s.data.toList.head?=some 43∨s.data.toList.head?=some 45∨s.data.toList.head?=some 62)(h45:s.data.toList.head?≠some 45)(hc:(Jk (s.extract 1 s.size)).2.2=false):(tx [],tx [],0,false)=Bi s:=by
 unfold Bi
 rw[if_neg (by rintro(h|⟨k1,k2,k3⟩);omega;rcases hh with h|h|h;exact k1 h;exact k2 h;exact k3 h),if_neg h45,if_pos hc]
theorem Ph(h2:2≤s.size)(h:s.data.toList.head?=some 62)(hc:Jk (s.extract 1 s.size)=(a,b,true)):Bi s=(a,b,0,Bq b&& !decide (a=b)):=by
 unfold Bi
 rw[if_neg (by rw[h];rintro(h|h);omega;exact h.2.2 rfl),if_neg (by rw[h];decide),hc,if_neg (by simp),if_pos h]
theorem Pk(h2:2≤s.size)(h:s.data.toList.head?=some 43)(hc:Jk (s.extract 1 s.size)=(a,b,true)):Bi s=(a,tx [],(A5 b).1,(A5 b).2&&Bq a):=by
 unfold Bi
 rw[if_neg (by rw[h];rintro(h|h);omega;exact h.1 rfl),if_neg (by rw[h];decide),hc,if_neg (by simp),if_neg (by rw[h];decide)]
end
theorem Jt:Setup Tryz.prog ((3000009,Eg Tryz.prog 3000009)::((3000012,Eg Tryz.prog 3000012)::((1000026,Eg Tryz.prog 1000026)::Qh))):=(Setup.mark 3000009 (Setup.mark 3000012 (Setup.mark 1000026 Xfp)))
theorem XcS{step:ByteArray}{oa:ByteArray}{ob:ByteArray}{oc:Int}{od:Bool}(hs:step.size≤1000000000)(hr:Bi step=(oa,ob,oc,od)):Fn Tryz.prog 241 [S step] [] ⟨.tup [S oa,S ob,I oc,B od],[],[]⟩:=by
 refine Fn.go Jt Tryz.func241 fun P hP Q hQ=>?_
 conv=>cbv
 refine JoinW.jn (κ:=Unit) Jt hP [] [0] (fun()=>[]) (fun()=>[])
  (fun()=>2≤step.size∧(step.data.toList.head?=some 43∨step.data.toList.head?=some 45∨step.data.toList.head?=some 62)) (fun Jj hJj=>?_) ?_
 conv=>cbv
 refine .go fun v1 an=>?_
 conv=>cbv
 refine .lss (fun h2=>?_) fun h2=>?_
 conv=>cbv
 have e:((tx []),(tx []),0,false)=Bi step:=(by exact Tr (.inl (by omega)))
 rw[hr]at e
 simp only[Prod.mk.injEq]at e
 obtain⟨rfl,rfl,rfl,rfl⟩:=e
 refine hQ _ _ ?_
 exact .many (.inl rfl) rfl rfl (.d rfl rfl (.d rfl rfl (.d rfl rfl (.d rfl rfl (.nil)))))
 conv=>cbv
 refine .go 0 fun hjv3 v3 aw bv3=>?_
 conv=>cbv
 refine .neq (fun h4=>?_) fun h4=>?_
 conv=>cbv
 refine .go 0 fun hjv5 v5 ax bv5=>?_
 conv=>cbv
 refine .neq (fun h6=>?_) fun h6=>?_
 conv=>cbv
 refine .go 0 fun hjv7 v7 ac bv7=>?_
 conv=>cbv
 refine .neq (fun h8=>?_) fun h8=>?_
 conv=>cbv
 have e:((tx []),(tx []),0,false)=Bi step:=(by exact Tr (.inr ⟨(Hz (n:=43) (show 0<step.size by omega) aw (by omega) (by decide)),(Hz (n:=45) (show 0<step.size by omega) ax (by omega) (by decide)),(Hz (n:=62) (show 0<step.size by omega) ac (by omega) (by decide))⟩))
 rw[hr]at e
 simp only[Prod.mk.injEq]at e
 obtain⟨rfl,rfl,rfl,rfl⟩:=e
 refine hQ _ _ ?_
 exact .many (.inl rfl) rfl rfl (.d rfl rfl (.d rfl rfl (.d rfl rfl (.d rfl rfl (.nil)))))
 conv=>cbv
 exact .go [] (()) (hJj _ ⟨by omega,.inr (.inr (I9 (n:=62) (show 0<step.size by omega) ac (by omega) (by decide)))⟩)
 conv=>cbv
 exact .go [] (()) (hJj _ ⟨by omega,.inr (.inl (I9 (n:=45) (show 0<step.size by omega) ax (by omega) (by decide)))⟩)
 conv=>cbv
 exact .go [] (()) (hJj _ ⟨by omega,.inl (I9 (n:=43) (show 0<step.size by omega) aw (by omega) (by decide))⟩)
 rintro⟨⟩ ⟨ag,hh0⟩
 conv=>cbv
 refine .go 0 fun hjv1 v1 an bv1=>?_
 conv=>cbv
 refine .eql (fun h2=>?_) fun h2=>?_
 conv=>cbv
 refine .lo fun s3 be=>?_
 conv=>cbv
 have e:(s3,(tx []),0,true)=Bi step:=(by rw[be];exact Vs ag (I9 (n:=45) (show 0<step.size by omega) an (by omega) (by decide)))
 rw[hr]at e
 simp only[Prod.mk.injEq]at e
 obtain⟨rfl,rfl,rfl,rfl⟩:=e
 refine hQ _ _ ?_
 exact .many (.inl rfl) rfl rfl (.d rfl rfl (.d rfl rfl (.d rfl rfl (.d rfl rfl (.nil)))))
 conv=>cbv
 refine LoopW.lp (κ:=Int) Jt hP [] [0] (fun i6=>[(6,I i6)]) (fun i6=>[])
  (fun i6=>1≤i6∧i6≤step.size∧∀j,1≤j→j<i6.toNat→∀hj:j<step.size,(step[j]).toNat≠58)
  (fun i6=>(step.size - i6).toNat) (1) ⟨by omega,by omega,fun j h1 h2=>by omega⟩ ⟨rfl,trivial⟩ rfl ?_
 rintro i6 J1 ⟨h0,h1,hb⟩ bf
 conv=>cbv
 refine .go fun v3 aw=>?_
 conv=>cbv
 refine .lss (fun h4=>?_) fun h4=>?_
 conv=>cbv
 refine .go i6.toNat fun hjv5 v5 ax bv5=>?_
 conv=>cbv
 refine .eql (fun h6=>?_) fun h6=>?_
 conv=>cbv
 refine .go 0 fun hjv7 v7 ac bv7=>?_
 conv=>cbv
 refine .eql (fun h8=>?_) fun h8=>?_
 conv=>cbv
 refine .lohi fun s9 ay=>?_
 conv=>cbv
 refine .add fun az bh=>?_
 conv=>cbv
 refine .lo fun a0 ao=>?_
 conv=>cbv
 refine .add fun a1 bi=>?_
 conv=>cbv
 refine .lo fun ah ad=>?_
 conv=>cbv
 have a6:ah.size≤step.size:=by rw[ad,ByteArray.size_extract];omega
 generalize aa:Bq ah=a2
 refine .dd hP (Nb (by omega) aa) ?_
 cases a2
 conv=>cbv
 refine .go2 (by kernel_rfl) ?_
 conv=>cbv
 have e:(s9,a0,0,false)=Bi step:=(by have hm:=Ph ag (I9 (n:=62) (show 0<step.size by omega) ac (by omega) (by decide)) (Of (s:=step) (i:=i6.toNat) (by omega) (by omega) (by omega) hb);have ai:ah=step.extract (i6.toNat+1) step.size:=(by rw[ad,show a1.toNat=i6.toNat+1 by omega]);rw[ai]at aa;rw[hm,ay,ao,aa,show az.toNat=i6.toNat+1 by omega];rfl)
 rw[hr]at e
 simp only[Prod.mk.injEq]at e
 obtain⟨rfl,rfl,rfl,rfl⟩:=e
 refine hQ _ _ ?_
 exact .many (.inl rfl) rfl rfl (.d rfl rfl (.d rfl rfl (.d rfl rfl (.d rfl rfl (.nil)))))
 conv=>cbv
 refine .lohi fun a3 ae=>?_
 conv=>cbv
 refine .add fun a7 bj=>?_
 conv=>cbv
 refine .lo fun bo au=>?_
 conv=>cbv
 refine .neq (fun h18=>?_) fun h18=>?_
 conv=>cbv
 refine .go2 (by kernel_rfl) ?_
 conv=>cbv
 have e:(s9,a0,0,true)=Bi step:=(by have hm:=Ph ag (I9 (n:=62) (show 0<step.size by omega) ac (by omega) (by decide)) (Of (s:=step) (i:=i6.toNat) (by omega) (by omega) (by omega) hb);have ai:ah=step.extract (i6.toNat+1) step.size:=(by rw[ad,show a1.toNat=i6.toNat+1 by omega]);rw[ai]at aa;rw[hm,ay,ao,aa,show az.toNat=i6.toNat+1 by omega,decide_eq_false (show¬step.extract 1 i6.toNat=step.extract (i6.toNat+1) step.size from fun e=>h18 (by rw[ae,au,show a7.toNat=i6.toNat+1 by omega];exact e))];rfl)
 rw[hr]at e
 simp only[Prod.mk.injEq]at e
 obtain⟨rfl,rfl,rfl,rfl⟩:=e
 refine hQ _ _ ?_
 exact .many (.inl rfl) rfl rfl (.d rfl rfl (.d rfl rfl (.d rfl rfl (.d rfl rfl (.nil)))))
 conv=>cbv
 refine .go2 (by kernel_rfl) ?_
 conv=>cbv
 have e:(s9,a0,0,false)=Bi step:=(by have hm:=Ph ag (I9 (n:=62) (show 0<step.size by omega) ac (by omega) (by decide)) (Of (s:=step) (i:=i6.toNat) (by omega) (by omega) (by omega) hb);have ai:ah=step.extract (i6.toNat+1) step.size:=(by rw[ad,show a1.toNat=i6.toNat+1 by omega]);rw[ai]at aa;rw[hm,ay,ao,aa,show az.toNat=i6.toNat+1 by omega,decide_eq_true (show step.extract 1 i6.toNat=step.extract (i6.toNat+1) step.size from by rw[ae,au,show a7.toNat=i6.toNat+1 by omega]at h18;exact h18)];rfl)
 rw[hr]at e
 simp only[Prod.mk.injEq]at e
 obtain⟨rfl,rfl,rfl,rfl⟩:=e
 refine hQ _ _ ?_
 exact .many (.inl rfl) rfl rfl (.d rfl rfl (.d rfl rfl (.d rfl rfl (.d rfl rfl (.nil)))))
 conv=>cbv
 refine .go i6.toNat fun hjv9 v9 a8 bv9=>?_
 conv=>cbv
 refine .eql (fun h10=>?_) fun h10=>?_
 conv=>cbv
 refine .add fun a4 bk=>?_
 conv=>cbv
 refine .lo fun af aj=>?_
 conv=>cbv
 have bl:af.size≤step.size:=by rw[aj,ByteArray.size_extract];omega
 rcases ab:A5 af with⟨ap,a9⟩
 refine .dd hP (Nk (by omega) ab) ?_
 conv=>cbv
 refine .lohi fun a5 aq=>?_
 conv=>cbv
 cases a9
 conv=>cbv
 refine .go2 (by kernel_rfl) ?_
 conv=>cbv
 have e:(a5,(tx []),ap,false)=Bi step:=(by have hm:=Pk ag (hh0.elim id fun h=>h.elim (fun h=>absurd h (Hz (n:=45) (show 0<step.size by omega) an (by omega) (by decide))) fun h=>absurd h (Hz (n:=62) (show 0<step.size by omega) ac (by omega) (by decide))) (Of (s:=step) (i:=i6.toNat) (by omega) (by omega) (by omega) hb);have ak:af=step.extract (i6.toNat+1) step.size:=(by rw[aj,show a4.toNat=i6.toNat+1 by omega]);rw[ak]at ab;rw[hm,aq,ab];rfl)
 rw[hr]at e
 simp only[Prod.mk.injEq]at e
 obtain⟨rfl,rfl,rfl,rfl⟩:=e
 refine hQ _ _ ?_
 exact .many (.inl rfl) rfl rfl (.d rfl rfl (.d rfl rfl (.d rfl rfl (.d rfl rfl (.nil)))))
 conv=>cbv
 refine .lohi fun a3 ae=>?_
 conv=>cbv
 have bm:a3.size≤step.size:=by rw[ae,ByteArray.size_extract];omega
 generalize al:Bq a3=bg
 refine .dd hP (Nb (by omega) al) ?_
 cases bg
 conv=>cbv
 refine .go2 (by kernel_rfl) ?_
 conv=>cbv
 have e:(a5,(tx []),ap,false)=Bi step:=(by have hm:=Pk ag (hh0.elim id fun h=>h.elim (fun h=>absurd h (Hz (n:=45) (show 0<step.size by omega) an (by omega) (by decide))) fun h=>absurd h (Hz (n:=62) (show 0<step.size by omega) ac (by omega) (by decide))) (Of (s:=step) (i:=i6.toNat) (by omega) (by omega) (by omega) hb);have ak:af=step.extract (i6.toNat+1) step.size:=(by rw[aj,show a4.toNat=i6.toNat+1 by omega]);rw[ak]at ab;rw[ae]at al;have am:=(show Bq (step.extract 1 i6.toNat)=_ from al);rw[hm,aq,ab,am];rfl)
 rw[hr]at e
 simp only[Prod.mk.injEq]at e
 obtain⟨rfl,rfl,rfl,rfl⟩:=e
 refine hQ _ _ ?_
 exact .many (.inl rfl) rfl rfl (.d rfl rfl (.d rfl rfl (.d rfl rfl (.d rfl rfl (.nil)))))
 conv=>cbv
 refine .go2 (by kernel_rfl) ?_
 conv=>cbv
 have e:(a5,(tx []),ap,true)=Bi step:=(by have hm:=Pk ag (hh0.elim id fun h=>h.elim (fun h=>absurd h (Hz (n:=45) (show 0<step.size by omega) an (by omega) (by decide))) fun h=>absurd h (Hz (n:=62) (show 0<step.size by omega) ac (by omega) (by decide))) (Of (s:=step) (i:=i6.toNat) (by omega) (by omega) (by omega) hb);have ak:af=step.extract (i6.toNat+1) step.size:=(by rw[aj,show a4.toNat=i6.toNat+1 by omega]);rw[ak]at ab;rw[ae]at al;have am:=(show Bq (step.extract 1 i6.toNat)=_ from al);rw[hm,aq,ab,am];rfl)
 rw[hr]at e
 simp only[Prod.mk.injEq]at e
 obtain⟨rfl,rfl,rfl,rfl⟩:=e
 refine hQ _ _ ?_
 exact .many (.inl rfl) rfl rfl (.d rfl rfl (.d rfl rfl (.d rfl rfl (.d rfl rfl (.nil)))))
 exfalso;omega
 conv=>cbv
 refine .go i6.toNat fun hjv7 v7 ac bv7=>?_
 conv=>cbv
 refine .eql (fun h8=>?_) fun h8=>?_
 conv=>cbv
 refine .add fun v9 a8=>?_
 conv=>cbv
 refine .lo fun ba bb=>?_
 conv=>cbv
 have bn:ba.size≤step.size:=by rw[bb,ByteArray.size_extract];omega
 rcases bc:A5 ba with⟨ar,bd⟩
 refine .dd hP (Nk (by omega) bc) ?_
 conv=>cbv
 refine .lohi fun af aj=>?_
 conv=>cbv
 cases bd
 conv=>cbv
 refine .go2 (by kernel_rfl) ?_
 conv=>cbv
 have e:(af,(tx []),ar,false)=Bi step:=(by exfalso;omega)
 rw[hr]at e
 simp only[Prod.mk.injEq]at e
 obtain⟨rfl,rfl,rfl,rfl⟩:=e
 refine hQ _ _ ?_
 exact .many (.inl rfl) rfl rfl (.d rfl rfl (.d rfl rfl (.d rfl rfl (.d rfl rfl (.nil)))))
 conv=>cbv
 refine .lohi fun ah ad=>?_
 conv=>cbv
 have a6:ah.size≤step.size:=by rw[ad,ByteArray.size_extract];omega
 generalize aa:Bq ah=a2
 refine .dd hP (Nb (by omega) aa) ?_
 cases a2
 conv=>cbv
 refine .go2 (by kernel_rfl) ?_
 conv=>cbv
 have e:(af,(tx []),ar,false)=Bi step:=(by exfalso;omega)
 rw[hr]at e
 simp only[Prod.mk.injEq]at e
 obtain⟨rfl,rfl,rfl,rfl⟩:=e
 refine hQ _ _ ?_
 exact .many (.inl rfl) rfl rfl (.d rfl rfl (.d rfl rfl (.d rfl rfl (.d rfl rfl (.nil)))))
 conv=>cbv
 refine .go2 (by kernel_rfl) ?_
 conv=>cbv
 have e:(af,(tx []),ar,true)=Bi step:=(by exfalso;omega)
 rw[hr]at e
 simp only[Prod.mk.injEq]at e
 obtain⟨rfl,rfl,rfl,rfl⟩:=e
 refine hQ _ _ ?_
 exact .many (.inl rfl) rfl rfl (.d rfl rfl (.d rfl rfl (.d rfl rfl (.d rfl rfl (.nil)))))
 conv=>cbv
 refine .add fun v9 a8=>?_
 conv=>cbv
 exact .go [] (v9) (bf _ ⟨by omega,by omega,fun j k1 k2 hj=>if e:j=i6.toNat then by subst e;omega else hb j k1 (by omega) hj⟩ mlt)
 conv=>cbv
 have e:((tx []),(tx []),0,false)=Bi step:=(by exact Us ag hh0 (Hz (n:=45) (show 0<step.size by omega) an (by omega) (by decide)) (Xfl fun j k1 hj=>hb j k1 (by omega) hj))
 rw[hr]at e
 simp only[Prod.mk.injEq]at e
 obtain⟨rfl,rfl,rfl,rfl⟩:=e
 refine hQ _ _ ?_
 exact .many (.inl rfl) rfl rfl (.d rfl rfl (.d rfl rfl (.d rfl rfl (.d rfl rfl (.nil)))))
end
section
open Go Go.Proofs
set_option maxRecDepth 20000
set_option maxHeartbeats 4000000
def V6:List (Nat×TyRow):=[ty3,ty5,ty9,Xcl,Xdv,Z6]
theorem Wx:Ce Tryz.prog V6:=Ce.of (by kernel_rfl)
theorem XaX:Setup Tryz.prog V6:=⟨Wx,mixed⟩
def Du(l:List Aa)(s:ByteArray):List Aa×Bool:=
 if(Bi s).2.2.2=false∨Bq (Bi s).1=false∨(s.data.toList.head?≠some 43∧Fj l (Bi s).1=false)then([],false)
 else if s.data.toList.head?=some 43 then(Ed l ⟨(Bi s).1,(Bi s).2.2.1⟩,true)
 else if s.data.toList.head?=some 62 then(Ed (Dp l (Bi s).1) ⟨(Bi s).2.1,C3 l (Bi s).1⟩,true)
 else(Dp l (Bi s).1,true)
def B5:List Aa→List ByteArray→List Aa×Bool
 |now,[]=>(now,true)
 |now,s::ss=>if(Du now s).2=false then([],false)else B5 (Du now s).1 ss
def Di(old:List Aa)(steps:List ByteArray)(n:Int):List Aa×Bool:=B5 old (steps.take (Cc n 0 steps.length).toNat)
theorem Xc3{s a b:ByteArray}{c:Int}{d:Bool}(e:Bi s=(a,b,c,d)):(a.size≤s.size∧b.size≤s.size)∧(d=true→2≤s.size∧(s.data.toList.head?=some 43∨s.data.toList.head?=some 45∨s.data.toList.head?=some 62)):=by
 have hz:(s.extract 1 s.size).size≤s.size:=by rw[ByteArray.size_extract];omega
 obtain⟨x,y,z,hc⟩:∃x y z,Jk (s.extract 1 s.size)=(x,y,z):=⟨_,_,_,rfl⟩
 have hcb:=Xcq hc
 have h0:(tx []).size≤s.size:=by rw[D4];exact Nat.zero_le _
 unfold Bi at e
 rw[hc]at e
 by_cases h1:s.size<2∨(s.data.toList.head?≠some 43∧s.data.toList.head?≠some 45∧s.data.toList.head?≠some 62)
 ·rw[if_pos h1]at e
  simp only[Prod.mk.injEq]at e
  obtain⟨rfl,rfl,rfl,rfl⟩:=e
  exact⟨⟨h0,h0⟩,fun h=>by cases h⟩
 ·rw[if_neg h1]at e
  have hd:2≤s.size∧(s.data.toList.head?=some 43∨s.data.toList.head?=some 45∨s.data.toList.head?=some 62):=by
   refine⟨by omega,?_⟩
   by_cases k1:s.data.toList.head?=some 43
   ·exact .inl k1
   ·by_cases k2:s.data.toList.head?=some 45
    ·exact .inr (.inl k2)
    ·by_cases k3:s.data.toList.head?=some 62
     ·exact .inr (.inr k3)
     ·exact absurd (.inr ⟨k1,k2,k3⟩) h1
  refine⟨?_,fun _=>hd⟩
  split at e
  ·simp only[Prod.mk.injEq]at e
   obtain⟨rfl,rfl,_⟩:=e
   exact⟨hz,h0⟩
  ·split at e
   ·simp only[Prod.mk.injEq]at e
    obtain⟨rfl,rfl,_⟩:=e
    exact⟨h0,h0⟩
   ·split at e
    ·simp only[Prod.mk.injEq]at e
     obtain⟨rfl,rfl,_⟩:=e
     exact⟨by omega,by omega⟩
    ·simp only[Prod.mk.injEq]at e
     obtain⟨rfl,rfl,_⟩:=e
     exact⟨by omega,h0⟩
theorem Vu(e:Aa):∀(l:List Aa) (b:Bool),(Pc e l b).length≤l.length+(if b=true then 0 else 1)
 |[],b=>by cases b<;>simp[Pc]
 |x::l,b=>by
  have ih:=Vu e l (b|| !(ltB x.name_ e.name_))
  unfold Pc
  rw[List.length_append,List.length_append,List.length_cons]
  cases b<;>cases h:ltB x.name_ e.name_<;>simp only[h,Bool.not_true,Bool.not_false,Bool.or_true,Bool.or_false,Bool.true_or,if_true,Bool.false_eq_true,if_false,true_and,false_and,reduceCtorEq]at ih⊢<;>split<;>simp<;>omega
theorem E6{l o:List Aa}{e:Aa}(h:Ed l e=o):o.length≤l.length+1:=by
 rw[←h]
 exact Vu e l false
theorem H8{l o:List Aa}{n:ByteArray}(h:Dp l n=o):o.length≤l.length:=by
 rw[←h]
 exact List.length_filter_le _ _
theorem u8_h{s:ByteArray}{n:Nat}(h:0<s.size)(e:s.data.toList.head?=some (UInt8.ofNat n))(hn:n<256):(s[0]).toNat=n:=by
 rw[Iv h]at e
 rw[Option.some.inj e,UInt8.toNat_ofNat',Nat.mod_eq_of_lt (by omega)]
section
variable {l:List Aa} {s a b:ByteArray} {c:Int} {d:Bool}
theorem D7(e:Bi s=(a,b,c,d))(h:d=false∨Bq a=false∨(s.data.toList.head?≠some 43∧Fj l a=false)):Du l s=([],false):=by
 unfold Du
 rw[e,if_pos h]
theorem Ti(e:Bi s=(a,b,c,true))(hn:Bq a=true)(h:s.data.toList.head?=some 43):Du l s=(Ed l ⟨a,c⟩,true):=by
 unfold Du
 rw[e,if_neg (by rw[hn,h];simp),if_pos h]
theorem Sj(e:Bi s=(a,b,c,true))(hn:Bq a=true)(hh:Fj l a=true)(h:s.data.toList.head?=some 62):Du l s=(Ed (Dp l a) ⟨b,C3 l a⟩,true):=by
 unfold Du
 rw[e,if_neg (by rw[hn,hh];simp),if_neg (by rw[h];decide),if_pos h]
theorem Q2(e:Bi s=(a,b,c,true))(hn:Bq a=true)(hh:Fj l a=true)(h:s.data.toList.head?=some 45):Du l s=(Dp l a,true):=by
 unfold Du
 rw[e,if_neg (by rw[hn,hh];simp),if_neg (by rw[h];decide),if_neg (by rw[h];decide)]
end
theorem Mt{old:List Aa}{xold:List (List D)}{steps:List ByteArray}{xsteps:List (List D)}{n:Int}{oa:List Aa}{xoa:List (List D)}{ob:Bool}(hold:old.map Ac=xold)(hsteps:steps.map cS=xsteps)(hol:old.length≤1000000000)(hsl:steps.length≤1000000000)(hss:okS steps)(hr:Di old steps n=(oa,ob))(hoa:oa.map Ac=xoa):Fn Tryz.prog 163 [.d (.row 2 xold),.d (.row 1 xsteps),I n] [] ⟨.tup [.d (.row 2 xoa),B ob],[],[]⟩:=by
 refine Fn.go XaX Tryz.func163 fun P hP Q hQ=>?_
 conv=>cbv
 refine .row0 hold fun c8 z1 c0 bq=>?_
 conv=>cbv
 refine .go hsteps fun v2 cf=>?_
 conv=>cbv
 generalize bn:Cc n 0 v2=r3
 refine .dd hP (Ya bn) ?_
 conv=>cbv
 have hbr:0≤r3∧r3≤steps.length:=by rw[←bn];unfold Cc;split<;>(try split)<;>omega
 refine .frz 2 [8] rfl rfl (by rw[←bq,List.length_map];first|omega|(simp;omega)) ?_
 refine LoopW.lp (κ:=(List (List D))×Int) XaX hP [] [1,2] (fun(aj,i9)=>[(8,.d (.row 2 aj)),(9,I i9)]) (fun(aj,i9)=>[])
  (fun(aj,i9)=>∃(u8:List Aa),u8.map Ac=aj∧0≤i9∧i9≤r3∧Di old steps n=B5 u8 ((steps.take r3.toNat).drop i9.toNat)∧u8.length≤old.length+i9)
  (fun(aj,i9)=>(r3 - i9).toNat) (z1,0) ⟨old,bq,by omega,by omega,by unfold Di;rw[←cf,bn];rfl,by omega⟩ ⟨rfl,rfl,trivial⟩ rfl ?_
 rintro⟨aj,i9⟩ J ⟨u8,ab,h0,h1,hio,hun⟩ hJ
 conv=>cbv
 refine .lss (fun h4=>?_) fun h4=>?_
 conv=>cbv
 refine .go i9.toNat hsteps fun bs e5 aa=>?_
 conv=>cbv
 have c9:e5.size≤1000000000:=aa▸hss _ (List.getElem_mem bs)
 have hdc:(steps.take r3.toNat).drop i9.toNat=e5::(steps.take r3.toNat).drop (i9.toNat+1):=by rw[List.drop_eq_getElem_cons (by rw[List.length_take];omega),List.getElem_take,←aa]
 rw[hdc]at hio
 rcases am:Bi e5 with⟨ag,bf,bg,cg⟩
 refine .dd hP (XcS (by omega) am) ?_
 conv=>cbv
 have hlf:=Xc3 am
 cases cg
 conv=>cbv
 have e:([],false)=Di old steps n:=(by rw[hio];show _=(if(Du u8 e5).2=false then _ else _);rw[D7 am (.inl rfl)];rfl)
 rw[hr]at e
 simp only[Prod.mk.injEq]at e
 obtain⟨rfl,rfl⟩:=e
 refine hQ _ _ ?_
 exact .many (.inl rfl) rfl rfl (.ref rfl rfl (by rw[←hoa];rfl) (.d rfl rfl (.nil)))
 conv=>cbv
 obtain⟨h2z,hh0⟩:=hlf.2 rfl
 have h00:0<e5.size:=by omega
 have hh1:(e5[0]).toNat=43∨(e5[0]).toNat=45∨(e5[0]).toNat=62:=hh0.imp (fun h=>u8_h h00 h (by decide)) fun h=>h.imp (fun h=>u8_h h00 h (by decide)) fun h=>u8_h h00 h (by decide)
 generalize az:Bq ag=r7
 refine .dd hP (Nb (by omega) az) ?_
 cases r7
 conv=>cbv
 have e:([],false)=Di old steps n:=(by rw[hio];show _=(if(Du u8 e5).2=false then _ else _);rw[D7 am (.inr (.inl az))];rfl)
 rw[hr]at e
 simp only[Prod.mk.injEq]at e
 obtain⟨rfl,rfl⟩:=e
 refine hQ _ _ ?_
 exact .many (.inl rfl) rfl rfl (.ref rfl rfl (by rw[←hoa];rfl) (.d rfl rfl (.nil)))
 conv=>cbv
 refine .go i9.toNat hsteps fun c1 e8 ch=>?_
 conv=>cbv
 obtain rfl:e5=e8:=aa.trans ch.symm
 refine .go 0 fun hjv9 v9 bt bv9=>?_
 conv=>cbv
 refine .neq (fun h10=>?_) fun h10=>?_
 conv=>cbv
 generalize aw:Fj u8 ag=ci
 refine .dd hP (Xbe ab (by omega) aw) ?_
 cases ci
 conv=>cbv
 have e:([],false)=Di old steps n:=(by rw[hio];show _=(if(Du u8 e5).2=false then _ else _);rw[D7 am (.inr (.inr ⟨(Hz (n:=43) h00 bt (by omega) (by decide)),aw⟩))];rfl)
 rw[hr]at e
 simp only[Prod.mk.injEq]at e
 obtain⟨rfl,rfl⟩:=e
 refine hQ _ _ ?_
 exact .many (.inl rfl) rfl rfl (.ref rfl rfl (by rw[←hoa];rfl) (.d rfl rfl (.nil)))
 conv=>cbv
 refine .go i9.toNat hsteps fun cj ck bu=>?_
 conv=>cbv
 obtain rfl:e5=ck:=aa.trans bu.symm
 refine .go 0 fun hjv13 da bv bv13=>?_
 conv=>cbv
 refine .eql (fun h14=>?_) fun h14=>?_
 conv=>cbv
 generalize bi:C3 u8 ag=bw
 refine .dd hP (P4 ab (by omega) bi) ?_
 conv=>cbv
 refine .go i9.toNat hsteps fun cm cn bz=>?_
 conv=>cbv
 obtain rfl:e5=cn:=aa.trans bz.symm
 refine .go 0 fun hjv17 db c2 bv17=>?_
 conv=>cbv
 refine .neq (fun h18=>?_) fun h18=>?_
 conv=>cbv
 generalize a0:Dp u8 ag=b0
 have hln19:=H8 a0
 generalize a1:b0.map Ac=b1
 refine .dd hP (Nf ab (by omega) a0 a1) ?_
 conv=>cbv
 refine .go i9.toNat hsteps fun co cp b2=>?_
 conv=>cbv
 obtain rfl:e5=cp:=aa.trans b2.symm
 refine .go 0 fun hjv21 al ax bv21=>?_
 conv=>cbv
 refine .neq (fun h22=>?_) fun h22=>?_
 conv=>cbv
 generalize a2:Ed b0 (⟨bf,bw⟩:Aa)=cq
 have hln23:=E6 a2
 generalize bj:cq.map Ac=b3
 refine .dd hP (Ii a1 (by omega) a2 bj) ?_
 conv=>cbv
 refine .add fun b4 c3=>?_
 conv=>cbv
 exact .go [] (b3,b4) (hJ _ ⟨_,bj,by omega,by omega,by rw[hio,show b4.toNat=i9.toNat+1 by omega];show(if(Du u8 e5).2=false then _ else _)=_;rw[Sj am az aw (I9 (n:=62) h00 bv (by omega) (by decide)),a0,bi,a2];rfl,by omega⟩ mlt)
 conv=>cbv
 refine .add fun au a3=>?_
 conv=>cbv
 exact .go [] (b1,au) (hJ _ ⟨_,a1,by omega,by omega,by exfalso;omega,by exfalso;omega⟩ mlt)
 conv=>cbv
 refine .go i9.toNat hsteps fun a4 a5 an=>?_
 conv=>cbv
 obtain rfl:e5=a5:=aa.trans an.symm
 refine .go 0 fun hjv20 bh ay bv20=>?_
 conv=>cbv
 refine .neq (fun h21=>?_) fun h21=>?_
 conv=>cbv
 generalize ac:Ed u8 (⟨ag,bw⟩:Aa)=a6
 have hln22:=E6 ac
 generalize ad:a6.map Ac=ao
 refine .dd hP (Ii ab (by omega) ac ad) ?_
 conv=>cbv
 refine .add fun au a3=>?_
 conv=>cbv
 exact .go [] (ao,au) (hJ _ ⟨_,ad,by omega,by omega,by exfalso;omega,by exfalso;omega⟩ mlt)
 conv=>cbv
 refine .add fun ah ap=>?_
 conv=>cbv
 exact .go [] (aj,ah) (hJ _ ⟨_,ab,by omega,by omega,by exfalso;omega,by exfalso;omega⟩ mlt)
 conv=>cbv
 refine .go i9.toNat hsteps fun bo bp a7=>?_
 conv=>cbv
 obtain rfl:e5=bp:=aa.trans a7.symm
 refine .go 0 fun hjv16 cr b5 bv16=>?_
 conv=>cbv
 refine .neq (fun h17=>?_) fun h17=>?_
 conv=>cbv
 generalize ak:Dp u8 ag=a8
 have hln18:=H8 ak
 generalize ai:a8.map Ac=a9
 refine .dd hP (Nf ab (by omega) ak ai) ?_
 conv=>cbv
 refine .go i9.toNat hsteps fun a4 a5 an=>?_
 conv=>cbv
 obtain rfl:e5=a5:=aa.trans an.symm
 refine .go 0 fun hjv20 bh ay bv20=>?_
 conv=>cbv
 refine .neq (fun h21=>?_) fun h21=>?_
 conv=>cbv
 generalize ac:Ed a8 (⟨bf,bg⟩:Aa)=a6
 have hln22:=E6 ac
 generalize ad:a6.map Ac=ao
 refine .dd hP (Ii ai (by omega) ac ad) ?_
 conv=>cbv
 refine .add fun au a3=>?_
 conv=>cbv
 exact .go [] (ao,au) (hJ _ ⟨_,ad,by omega,by omega,by exfalso;omega,by exfalso;omega⟩ mlt)
 conv=>cbv
 refine .add fun ah ap=>?_
 conv=>cbv
 exact .go [] (a9,ah) (hJ _ ⟨_,ai,by omega,by omega,by rw[hio,show ah.toNat=i9.toNat+1 by omega];show(if(Du u8 e5).2=false then _ else _)=_;rw[Q2 am az aw (I9 (n:=45) h00 ay (by omega) (by decide)),ak];rfl,by omega⟩ mlt)
 conv=>cbv
 refine .go i9.toNat hsteps fun ba bb aq=>?_
 conv=>cbv
 obtain rfl:e5=bb:=aa.trans aq.symm
 refine .go 0 fun hjv19 b6 bk bv19=>?_
 conv=>cbv
 refine .neq (fun h20=>?_) fun h20=>?_
 conv=>cbv
 generalize ae:Ed u8 (⟨ag,bg⟩:Aa)=bc
 have hln21:=E6 ae
 generalize af:bc.map Ac=ar
 refine .dd hP (Ii ab (by omega) ae af) ?_
 conv=>cbv
 refine .add fun ah ap=>?_
 conv=>cbv
 exact .go [] (ar,ah) (hJ _ ⟨_,af,by omega,by omega,by exfalso;omega,by exfalso;omega⟩ mlt)
 conv=>cbv
 refine .add fun al ax=>?_
 conv=>cbv
 exact .go [] (aj,al) (hJ _ ⟨_,ab,by omega,by omega,by exfalso;omega,by exfalso;omega⟩ mlt)
 conv=>cbv
 refine .go i9.toNat hsteps fun ct cu b7=>?_
 conv=>cbv
 obtain rfl:e5=cu:=aa.trans b7.symm
 refine .go 0 fun hjv12 dc c4 bv12=>?_
 conv=>cbv
 refine .eql (fun h13=>?_) fun h13=>?_
 conv=>cbv
 generalize b8:C3 u8 ag=b9
 refine .dd hP (P4 ab (by omega) b8) ?_
 conv=>cbv
 refine .go i9.toNat hsteps fun bo bp a7=>?_
 conv=>cbv
 obtain rfl:e5=bp:=aa.trans a7.symm
 refine .go 0 fun hjv16 cr b5 bv16=>?_
 conv=>cbv
 refine .neq (fun h17=>?_) fun h17=>?_
 conv=>cbv
 generalize ak:Dp u8 ag=a8
 have hln18:=H8 ak
 generalize ai:a8.map Ac=a9
 refine .dd hP (Nf ab (by omega) ak ai) ?_
 conv=>cbv
 refine .go i9.toNat hsteps fun a4 a5 an=>?_
 conv=>cbv
 obtain rfl:e5=a5:=aa.trans an.symm
 refine .go 0 fun hjv20 bh ay bv20=>?_
 conv=>cbv
 refine .neq (fun h21=>?_) fun h21=>?_
 conv=>cbv
 generalize ac:Ed a8 (⟨bf,b9⟩:Aa)=a6
 have hln22:=E6 ac
 generalize ad:a6.map Ac=ao
 refine .dd hP (Ii ai (by omega) ac ad) ?_
 conv=>cbv
 refine .add fun au a3=>?_
 conv=>cbv
 exact .go [] (ao,au) (hJ _ ⟨_,ad,by omega,by omega,by exfalso;omega,by exfalso;omega⟩ mlt)
 conv=>cbv
 refine .add fun ah ap=>?_
 conv=>cbv
 exact .go [] (a9,ah) (hJ _ ⟨_,ai,by omega,by omega,by exfalso;omega,by exfalso;omega⟩ mlt)
 conv=>cbv
 refine .go i9.toNat hsteps fun ba bb aq=>?_
 conv=>cbv
 obtain rfl:e5=bb:=aa.trans aq.symm
 refine .go 0 fun hjv19 b6 bk bv19=>?_
 conv=>cbv
 refine .neq (fun h20=>?_) fun h20=>?_
 conv=>cbv
 generalize ae:Ed u8 (⟨ag,b9⟩:Aa)=bc
 have hln21:=E6 ae
 generalize af:bc.map Ac=ar
 refine .dd hP (Ii ab (by omega) ae af) ?_
 conv=>cbv
 refine .add fun ah ap=>?_
 conv=>cbv
 exact .go [] (ar,ah) (hJ _ ⟨_,af,by omega,by omega,by exfalso;omega,by exfalso;omega⟩ mlt)
 conv=>cbv
 refine .add fun al ax=>?_
 conv=>cbv
 exact .go [] (aj,al) (hJ _ ⟨_,ab,by omega,by omega,by exfalso;omega,by exfalso;omega⟩ mlt)
 conv=>cbv
 refine .go i9.toNat hsteps fun cv cw ca=>?_
 conv=>cbv
 obtain rfl:e5=cw:=aa.trans ca.symm
 refine .go 0 fun hjv15 de c5 bv15=>?_
 conv=>cbv
 refine .neq (fun h16=>?_) fun h16=>?_
 conv=>cbv
 generalize bl:Dp u8 ag=cb
 have hln17:=H8 bl
 generalize bd:cb.map Ac=cc
 refine .dd hP (Nf ab (by omega) bl bd) ?_
 conv=>cbv
 refine .go i9.toNat hsteps fun ba bb aq=>?_
 conv=>cbv
 obtain rfl:e5=bb:=aa.trans aq.symm
 refine .go 0 fun hjv19 b6 bk bv19=>?_
 conv=>cbv
 refine .neq (fun h20=>?_) fun h20=>?_
 conv=>cbv
 generalize ae:Ed cb (⟨bf,bg⟩:Aa)=bc
 have hln21:=E6 ae
 generalize af:bc.map Ac=ar
 refine .dd hP (Ii bd (by omega) ae af) ?_
 conv=>cbv
 refine .add fun ah ap=>?_
 conv=>cbv
 exact .go [] (ar,ah) (hJ _ ⟨_,af,by omega,by omega,by exfalso;omega,by exfalso;omega⟩ mlt)
 conv=>cbv
 refine .add fun al ax=>?_
 conv=>cbv
 exact .go [] (cc,al) (hJ _ ⟨_,bd,by omega,by omega,by exfalso;omega,by exfalso;omega⟩ mlt)
 conv=>cbv
 refine .go i9.toNat hsteps fun cx cy cd=>?_
 conv=>cbv
 obtain rfl:e5=cy:=aa.trans cd.symm
 refine .go 0 fun hjv18 df c7 bv18=>?_
 conv=>cbv
 refine .neq (fun h19=>?_) fun h19=>?_
 conv=>cbv
 generalize be:Ed u8 (⟨ag,bg⟩:Aa)=cz
 have hln20:=E6 be
 generalize bm:cz.map Ac=ce
 refine .dd hP (Ii ab (by omega) be bm) ?_
 conv=>cbv
 refine .add fun al ax=>?_
 conv=>cbv
 exact .go [] (ce,al) (hJ _ ⟨_,bm,by omega,by omega,by rw[hio,show al.toNat=i9.toNat+1 by omega];show(if(Du u8 e5).2=false then _ else _)=_;rw[Ti am az (I9 (n:=43) h00 bt (by omega) (by decide)),be];rfl,by omega⟩ mlt)
 conv=>cbv
 refine .add fun bh ay=>?_
 conv=>cbv
 exact .go [] (aj,bh) (hJ _ ⟨_,ab,by omega,by omega,by exfalso;omega,by exfalso;omega⟩ mlt)
 conv=>cbv
 have e:(u8,true)=Di old steps n:=(by rw[hio,List.drop_of_length_le (by rw[List.length_take];omega)];rfl)
 rw[hr]at e
 simp only[Prod.mk.injEq]at e
 obtain⟨rfl,rfl⟩:=e
 refine hQ _ _ ?_
 exact .many (.inl rfl) rfl rfl (.d rfl (Mq ab hoa) (.d rfl rfl (.nil)))
end
section
open Go Go.Proofs
set_option maxRecDepth 20000
set_option maxHeartbeats 4000000
def Pv:List (Nat×TyRow):=[ty3,ty9,Xcl,XfP,Xdv,Xco,XbX]
theorem Wk:Ce Tryz.prog Pv:=Ce.of (by kernel_rfl)
theorem Xep:Setup Tryz.prog Pv:=⟨Wk,mixed⟩
theorem V9(a:List UInt8):Op.bytesLess a a=false:=by
 cases h:Op.bytesLess a a with
 |false=>rfl
 |true=>have:=Jv a a h;rw[h]at this;cases this
theorem P6:∀a b c:List UInt8,Op.bytesLess a b=true→Op.bytesLess b c=true→Op.bytesLess a c=true
 |_,[],_,h,_=>by simp[Op.bytesLess]at h
 |_,_::_,[],_,h=>by simp[Op.bytesLess]at h
 |[],_::_,_::_,_,_=>by simp[Op.bytesLess]
 |a::x,b::y,c::z,h1,h2=>by
  simp only[Op.bytesLess,Bool.or_eq_true,decide_eq_true_eq,Bool.and_eq_true,beq_iff_eq]at h1 h2⊢
  rcases h1 with h1|⟨rfl,h1⟩
  ·rcases h2 with h2|⟨rfl,h2⟩
   ·exact .inl (UInt8.lt_trans h1 h2)
   ·exact .inl h1
  ·rcases h2 with h2|⟨rfl,h2⟩
   ·exact .inl h2
   ·exact .inr ⟨rfl,P6 x y z h1 h2⟩
theorem Ts(a:ByteArray):ltB a a=false:=V9 _
theorem Xr{a b c:ByteArray}(h:ltB a b=true)(k:ltB b c=true):ltB a c=true:=P6 _ _ _ h k
theorem Xdr{a b:ByteArray}(h:ltB a b=true):a≠b:=by
 rintro rfl
 rw[Ts]at h
 cases h
theorem Xgb{a b:ByteArray}(h:ltB a b=false)(hn:a≠b):ltB b a=true:=by
 have:=Yk a b
 rw[h]at this
 simp only[Bool.not_false,Bool.true_eq,Bool.or_eq_true,decide_eq_true_eq]at this
 exact this.resolve_right fun e=>hn e.symm
def srt(l:List Aa):Prop:=l.Pairwise fun a b=>ltB a.name_ b.name_=true
theorem X2{α:Type}{p:α→Bool}{x:α}{l:List α}:S8 p (x::l)=if p x=true then 0 else if S8 p l<0 then -1 else S8 p l+1:=by
 unfold S8
 rw[List.findIdx_cons]
 cases hp:p x with
 |true=>simp
 |false=>
  simp only[List.length_cons,cond_false,Bool.false_eq_true,if_false]
  by_cases h:l.findIdx p<l.length
  ·rw[if_pos (show l.findIdx p+1<l.length+1 by omega),if_pos h,if_neg (show¬(l.findIdx p:Int)<0 by omega)]
   omega
  ·rw[if_neg (show¬l.findIdx p+1<l.length+1 by omega),if_neg h,if_pos (by decide)]
theorem L6{x:Aa}{l:List Aa}{n:ByteArray}:A7 (x::l) n=if x.name_=n then 0 else if A7 l n<0 then -1 else A7 l n+1:=by
 show S8 (fun e=>B4 e n) (x::l)=_
 rw[X2]
 unfold B4
 simp only[decide_eq_true_eq]
 rfl
theorem T9{l:List Aa}{n:ByteArray}: -1≤A7 l n:=(Gt rfl).1
theorem Xfh{l:List Aa}{n:ByteArray}(h:∀x∈l,x.name_≠n):A7 l n<0:=by
 have hb:=T9 (l:=l) (n:=n)
 rcases Int.lt_or_le (A7 l n) 0 with k|k
 ·exact k
 ·obtain⟨hi,hp⟩:=Xam (p:=fun e=>B4 e n) (rfl:A7 l n=_) k
  unfold B4 at hp
  rw[decide_eq_true_eq]at hp
  exact absurd hp (h _ (List.getElem_mem hi))
theorem Ut{l:List Aa}{n:ByteArray}{i k:Int}(h:A7 l n=k)(hk:0≤k):R5 l n i=l.set k.toNat ⟨(l.getD k.toNat ⟨tx [],0⟩).name_,i⟩:=by
 subst h
 exact if_pos hk
theorem Nh{l:List Aa}{n:ByteArray}{i k:Int}(h:A7 l n<0)(hk:Bx l n=k):R5 l n i=Gx l (if k<0 then l.length else k) [⟨n,i⟩]:=by
 subst hk
 exact if_neg (by omega)
theorem Xdw{x:Aa}{l:List Aa}{n:ByteArray}{i:Int}:R5 (x::l) n i=if x.name_=n then⟨n,i⟩::l else if A7 l n<0∧Hy x n=true then⟨n,i⟩::x::l else x::R5 l n i:=by
 have hb:=T9 (l:=l) (n:=n)
 by_cases hx:x.name_=n
 ·rw[if_pos hx,Ut (k:=0) (by rw[L6,if_pos hx]) (by decide)]
  simp[hx]
 ·rw[if_neg hx]
  by_cases hp:A7 l n<0
  ·have hpc:A7 (x::l) n<0:=by rw[L6,if_neg hx,if_pos hp];decide
   have hc:Bx (x::l) n=if Hy x n=true then 0 else if Bx l n<0 then -1 else Bx l n+1:=X2 (p:=fun e=>Hy e n)
   by_cases h1:Hy x n=true
   ·rw[if_pos ⟨hp,h1⟩,Nh hpc (k:=0) (by rw[hc,if_pos h1]),if_neg (by decide)]
    simp[Gx]
   ·rw[if_neg (fun h=>h1 h.2)]
    by_cases h2:Bx l n<0
    ·rw[Nh hpc (k:=-1) (by rw[hc,if_neg h1,if_pos h2]),if_pos (by decide),Nh hp rfl,if_pos h2]
     simp[Gx]
    ·rw[Nh hpc (by rw[hc,if_neg h1,if_neg h2]),if_neg (by omega),Nh hp rfl,if_neg h2]
     unfold Gx
     rw[show(Bx l n+1).toNat=(Bx l n).toNat+1 by omega]
     simp
  ·rw[if_neg (fun h=>hp h.1),Ut (k:=A7 l n+1) (by rw[L6,if_neg hx,if_neg hp]) (by omega),Ut (l:=l) rfl (by omega),show(A7 l n+1).toNat=(A7 l n).toNat+1 by omega]
   simp
theorem N6{e:Aa}:∀{l:List Aa},(∀x∈l,x.name_≠e.name_)→Pc e l true=l
 |[],_=>rfl
 |x::l,h=>by
  unfold Pc
  rw[if_neg (by simp),if_neg (h x List.mem_cons_self),Bool.true_or,N6 fun y hy=>h y (List.mem_cons_of_mem _ hy)]
  rfl
theorem XdG{n:ByteArray}{i:Int}:∀{l:List Aa},srt l→Ed l ⟨n,i⟩=R5 l n i
 |[],_=>rfl
 |x::l,h=>by
  have hs:=List.pairwise_cons.1 h
  have ih:=XdG (n:=n) (i:=i) hs.2
  unfold Ed at ih⊢
  rw[Xdw]
  unfold Pc
  by_cases hx:x.name_=n
  ·rw[if_pos hx,hx,Ts,if_pos ⟨rfl,rfl⟩,if_pos rfl,Bool.not_false,Bool.or_true,N6 (fun y hy e=>by
    have:=hs.1 y hy
    rw[hx]at this
    exact Xdr this e.symm)]
   rfl
  ·rw[if_neg hx,if_neg hx]
   cases hl:ltB x.name_ n with
   |true=>
    rw[if_neg (by simp),if_neg (by unfold Hy;rw[hl];simp),Bool.not_true,Bool.or_false,ih]
    rfl
   |false=>
    have hg:=Xgb hl hx
    have hne:∀y∈l,y.name_≠n:=fun y hy e=>Xdr (Xr hg (hs.1 y hy)) e.symm
    rw[if_pos ⟨rfl,rfl⟩,if_pos ⟨Xfh hne,by unfold Hy;rw[hl,decide_eq_false hx];rfl⟩,Bool.not_false,Bool.or_true,N6 hne]
    rfl
theorem Y4{n:ByteArray}:∀{l:List Aa},srt l→0≤A7 l n→Dp l n=l.eraseIdx (A7 l n).toNat
 |[],_,h=>by
  exfalso
  have:A7 [] n= -1:=rfl
  omega
 |x::l,h,hp=>by
  have hs:=List.pairwise_cons.1 h
  have hb:=T9 (l:=l) (n:=n)
  rw[L6]at hp⊢
  unfold Dp
  rw[List.filter_cons]
  by_cases hx:x.name_=n
  ·rw[if_pos hx,decide_eq_true hx]
   have:l.filter (fun x=>!decide (x.name_=n))=l:=by
    rw[List.filter_eq_self]
    intro y hy
    rw[decide_eq_false]
    ·rfl
    ·rintro rfl
     exact Xdr (hs.1 y hy) hx
   simp[this]
  ·rw[if_neg hx]at hp⊢
   rw[decide_eq_false hx]
   by_cases h2:A7 l n<0
   ·rw[if_pos h2]at hp;omega
   ·rw[if_neg h2,show(A7 l n+1).toNat=(A7 l n).toNat+1 by omega,List.eraseIdx_cons_succ,←Y4 hs.2 (by omega)]
    rfl
theorem Xcv{d:Ad}{l:List Aa}(h:A4 d l=true){i:Nat}(hi:i<l.length):Ek d l i=true:=by
 unfold A4 at h
 rw[Bool.and_eq_true]at h
 exact List.all_eq_true.1 h.1 i (List.mem_range.2 hi)
theorem XcC{d:Ad}{l:List Aa}(h:A4 d l=true){i:Nat}(hi:i+1<l.length):ltB l[i].name_ l[i+1].name_=true:=by
 have h1:=Xcv h hi
 unfold Ek at h1
 rw[Yj hi rfl,show i+1 - 1=i by omega,Yj (show i<l.length by omega) rfl,decide_eq_false (show¬i+1=0 by omega),Bool.false_or,←Yk]at h1
 simp only[Bool.not_not,Bool.and_eq_true]at h1
 exact h1.1.1
theorem XfH{d:Ad}{l:List Aa}(h:A4 d l=true):srt l:=by
 have key:∀(k i:Nat) (hk:i+1+k<l.length),ltB l[i].name_ l[i+1+k].name_=true:=by
  intro k
  induction k with
  |zero=>intro i hk;exact XcC h hk
  |succ k ih=>intro i hk;exact Xr (ih i (by omega)) (XcC h (i:=i+1+k) (by omega))
 refine List.pairwise_iff_getElem.2 fun i j hi hj hij=>?_
 have:=key (j - i - 1) i (by omega)
 simpa only[show i+1+(j - i - 1)=j by omega]using this
theorem Xer{l:List Aa}{n:ByteArray}(h:srt l):srt (Dp l n):=List.Pairwise.filter _ h
theorem Rm{l:List Aa}{s:ByteArray}(h:srt l):Du l s=As l s:=by
 by_cases hne:s=tx []
 ·subst hne
  rw[XaJ rfl]
  exact D7 (a:=tx []) (b:=tx []) (c:=0) (d:=false) rfl (.inl rfl)
 have hp:=Xbl hne
 have hhd:=Iv hp
 obtain⟨a,b,c,hc⟩:∃a b c,Jk (s.extract 1 s.size)=(a,b,c):=⟨_,_,_,rfl⟩
 have hlt2:c=true→2≤s.size:=by
  rintro rfl
  unfold Jk at hc
  split at hc
  ·rename_i h0
   have:=(S7 (rfl:Ja (s.extract 1 s.size)=_)).2
   rw[ByteArray.size_extract]at this
   omega
  ·simp at hc
 by_cases h43:s.data.toList.head?=some 43
 ·rw[Li hne h43 hc]
  cases c with
  |false=>
   rw[if_pos (.inl rfl)]
   by_cases aa:s.size<2
   ·exact D7 (Tr (.inl aa)).symm (.inl rfl)
   ·exact D7 (Us (by omega) (.inl h43) (by rw[h43];decide) (by rw[hc])).symm (.inl rfl)
  |true=>
   have hm:=Pk (hlt2 rfl) h43 hc
   cases hr:(A5 b).2 with
   |false=>rw[if_pos (.inr (.inl rfl))];exact D7 hm (.inl (by rw[hr];rfl))
   |true=>
    cases hn:Bq a with
    |false=>rw[if_pos (.inr (.inr rfl))];exact D7 hm (.inr (.inl hn))
    |true=>
     rw[if_neg (by simp)]
     rw[hr,hn]at hm
     rw[Ti hm hn h43,XdG h]
 ·by_cases h45:s.data.toList.head?=some 45
  ·rw[Sr hne h45]
   by_cases aa:s.size<2
   ·have e:s.extract 1 s.size=tx []:=by
     apply T3
     rw[D9,List.drop_of_length_le (by rw[List.length_take,Array.length_toList];show min _ s.size≤1;omega)]
     rfl
    rw[D7 (Tr (.inl aa)).symm (.inl rfl),e]
    unfold Ga
    rw[if_pos (.inr (by decide))]
   ·have hm:=(Vs (by omega) h45).symm
    unfold Ga
    by_cases hpl:A7 l (s.extract 1 s.size)<0
    ·rw[if_pos (.inl hpl)]
     exact D7 hm (.inr (.inr ⟨h43,by unfold Fj;rw[decide_eq_false_iff_not];omega⟩))
    ·cases hn:Bq (s.extract 1 s.size)with
     |false=>rw[if_pos (.inr rfl)];exact D7 hm (.inr (.inl hn))
     |true=>
      rw[if_neg (by rintro(k|k);exact hpl k;cases k),Q2 hm hn (by unfold Fj;rw[decide_eq_true_eq];omega) h45,Y4 h (by omega)]
      rfl
  ·by_cases h62:s.data.toList.head?=some 62
   ·rw[Js hne h62 hc]
    cases c with
    |false=>
     rw[if_pos (.inl rfl)]
     by_cases aa:s.size<2
     ·exact D7 (Tr (.inl aa)).symm (.inl rfl)
     ·exact D7 (Us (by omega) (.inr (.inr h62)) h45 (by rw[hc])).symm (.inl rfl)
    |true=>
     have hm:=Ph (hlt2 rfl) h62 hc
     cases hnb:Bq b with
     |false=>rw[if_pos (.inr (.inr (.inl rfl)))];exact D7 hm (.inl (by rw[hnb];rfl))
     |true=>
      by_cases hab:a=b
      ·rw[if_pos (.inr (.inr (.inr hab)))];exact D7 hm (.inl (by rw[hnb,decide_eq_true hab];rfl))
      ·rw[hnb,decide_eq_false hab]at hm
       by_cases hpl:A7 l a<0
       ·have hd:Ga l a=([],false):=by unfold Ga;rw[if_pos (.inl hpl)]
        rw[hd,if_pos (.inr (.inl rfl))]
        exact D7 hm (.inr (.inr ⟨h43,by unfold Fj;rw[decide_eq_false_iff_not];omega⟩))
       ·cases hn:Bq a with
        |false=>
         have hd:Ga l a=([],false):=by unfold Ga;rw[if_pos (.inr hn)]
         rw[hd,if_pos (.inr (.inl rfl))]
         exact D7 hm (.inr (.inl hn))
        |true=>
         have hd:Ga l a=(Dp l a,true):=by unfold Ga;rw[if_neg (by rw[hn];rintro(k|k);exact hpl k;cases k),Y4 h (by omega)];rfl
         rw[hd,if_neg (by simp;exact hab),Sj hm hn (by unfold Fj;rw[decide_eq_true_eq];omega) h62,XdG (Xer h)]
   ·rw[W5 hne hhd (fun e=>h43 (by rw[hhd,e])) (fun e=>h45 (by rw[hhd,e])) (fun e=>h62 (by rw[hhd,e]))]
    exact D7 (Tr (.inr ⟨h43,h45,h62⟩)).symm (.inl rfl)
def Wf(d:Ad)(k:Nat):Bool:=if(B5 d.old_ (d.steps_.take k)).2=true then Dr d (B5 d.old_ (d.steps_.take k)).1 (d.steps_.drop k)else false
theorem Xah{s:ByteArray}:∀(l:List ByteArray) (now:List Aa),B5 now (l++[s])=if(B5 now l).2=true then(if(Du (B5 now l).1 s).2=false then([],false)else Du (B5 now l).1 s)else([],false)
 |[],now=>by
  show(if(Du now s).2=false then _ else B5 (Du now s).1 [])=if true=true then _ else _
  rw[if_pos rfl]
  cases h:Du now s with
  |mk x b=>cases b<;>simp[B5,h]
 |y::l,now=>by
  show(if(Du now y).2=false then _ else B5 (Du now y).1 (l++[s]))=if(if(Du now y).2=false then _ else B5 (Du now y).1 l).2=true then _ else _
  by_cases h:(Du now y).2=false
  ·rw[if_pos h,if_pos h,if_neg (by decide)]
  ·rw[if_neg h,if_neg h,Xah l]
   have e:B5 now (y::l)=B5 (Du now y).1 l:=if_neg h
   rw[e]
theorem Xaz{d:Ad}{k:Nat}{x:List Aa}(hk:k<d.steps_.length)(h:B5 d.old_ (d.steps_.take k)=(x,true))(hr:A4 d x=true):B5 d.old_ (d.steps_.take (k+1))=if(As x d.steps_[k]).2=false then([],false)else As x d.steps_[k]:=by
 rw[List.take_succ_eq_append_getElem hk,Xah,h,if_pos rfl,Rm (XfH hr)]
theorem Xb6{d:Ad}{k:Nat}{x:List Aa}(hk:k<d.steps_.length)(h:B5 d.old_ (d.steps_.take k)=(x,true))(hr:A4 d x=true):Wf d (k+1)=Wf d k:=by
 obtain⟨y,b,hy⟩:∃y b,As x d.steps_[k]=(y,b):=⟨_,_,rfl⟩
 unfold Wf
 rw[Xaz hk h hr,h,if_pos (show(x,true).2=true from rfl),List.drop_eq_getElem_cons hk]
 show _=(A4 d x&&(As x d.steps_[k]).2&&Dr d (As x d.steps_[k]).1 _)
 rw[hr,hy]
 cases b<;>rfl
theorem W9{old:List Aa}{steps:List ByteArray}{k:Int}(h0:0≤k)(h1:k≤steps.length):Di old steps k=B5 old (steps.take k.toNat):=by
 unfold Di
 rw[show Cc k 0 steps.length=k from by unfold Cc;split<;>(try split)<;>(try split)<;>omega]
def XeQ(d:Ad)(k:Nat):Prop:=Dr d d.old_ d.steps_=Wf d k∧okL (B5 d.old_ (d.steps_.take k)).1∧(B5 d.old_ (d.steps_.take k)).1.length≤1000000000
theorem XbQ{d:Ad}(hd:W4 d):XeQ d 0:=⟨rfl,hd.2.1,hd.1.2.2.2.2.1⟩
theorem XbI{d:Ad}(hd:W4 d){k:Nat}{x:List Aa}(hq:XeQ d k)(hk:k<d.steps_.length)(h:B5 d.old_ (d.steps_.take k)=(x,true))(hr:A4 d x=true):XeQ d (k+1):=by
 obtain⟨h1,h2,h3⟩:=hq
 have hx:=Vi hr
 rw[h]at h2 h3
 refine⟨by rw[h1,Xb6 hk h hr],?_⟩
 rw[Xaz hk h hr]
 obtain⟨y,b,hy⟩:∃y b,As x d.steps_[k]=(y,b):=⟨_,_,rfl⟩
 have hl:=M4 hy
 have ho:=XaW h2 (hd.2.2 _ (List.getElem_mem hk)) hy
 rw[hy]
 cases b
 ·exact⟨fun e he=>(by cases he),Nat.zero_le _⟩
 ·exact⟨ho,by show y.length≤_;omega⟩
theorem K6:Setup Tryz.prog ((3000007,Eg Tryz.prog 3000007)::((3000001,Eg Tryz.prog 3000001)::Pv)):=(Setup.mark 3000007 (Setup.mark 3000001 Xep))
theorem Xbx{A6:List Bb}{Cs:List (List D)}{Bf:List Aa}{Cx:List (List D)}{Bd:List Aa}{Cw:List (List D)}{A8:List ByteArray}{Cy:List (List D)}{Bj:Int}{Bh:Int}{o:Bool}(B9:A6.map Ci=Cs)(Cu:Bf.map Ac=Cx)(Ct:Bd.map Ac=Cw)(Cm:A8.map cS=Cy)(ac:W4 ⟨A6,Bf,Bd,A8,Bj,Bh⟩)(hr:B0 (⟨A6,Bf,Bd,A8,Bj,Bh⟩:Ad)=o):Fn Tryz.prog 84 [.agg [.d (.row 3 Cs),.d (.row 2 Cx),.d (.row 2 Cw),.d (.row 1 Cy),I Bj,I Bh]] [] ⟨B o,[],[]⟩:=by
 refine Fn.go K6 Tryz.func84 fun P hP Q hQ=>?_
 conv=>cbv
 refine .go B9 fun v1 bg=>?_
 conv=>cbv
 have hdo:Bd.length≤1000000000:=ac.1.2.2.2.2.1
 have hds:A8.length≤1000000000:=ac.1.2.2.2.2.2
 refine .gtr (fun h2=>?_) fun h2=>?_
 conv=>cbv
 refine .go2 (by kernel_rfl) ?_
 conv=>cbv
 have e:false=B0 (⟨A6,Bf,Bd,A8,Bj,Bh⟩:Ad):=(by exact Dd fun h=>by rw[diskOk_iff]at h;have:=h.2.2.1;unfold Dl at this;rw[decide_eq_false (by simp only[];omega),Bool.and_false]at this;cases this)
 rw[hr]at e
 subst e
 exact hQ _ _ (.b rfl rfl)
 conv=>cbv
 generalize af:A2 Bj 0 1000000000=r3
 refine .dd hP (Cz af) ?_
 cases r3
 simp only[A2,decide_eq_true_eq,decide_eq_false_iff_not]at af
 conv=>cbv
 refine .go2 (by kernel_rfl) ?_
 conv=>cbv
 have e:false=B0 (⟨A6,Bf,Bd,A8,Bj,Bh⟩:Ad):=(by exact Dd fun h=>by rw[diskOk_iff]at h;exact af h.1)
 rw[hr]at e
 subst e
 exact hQ _ _ (.b rfl rfl)
 simp only[A2,decide_eq_true_eq,decide_eq_false_iff_not]at af
 conv=>cbv
 generalize ag:A2 Bh 1 1000000000=r4
 refine .dd hP (Cz ag) ?_
 cases r4
 simp only[A2,decide_eq_true_eq,decide_eq_false_iff_not]at ag
 conv=>cbv
 refine .go2 (by kernel_rfl) ?_
 conv=>cbv
 have e:false=B0 (⟨A6,Bf,Bd,A8,Bj,Bh⟩:Ad):=(by exact Dd fun h=>by rw[diskOk_iff]at h;exact ag h.2.1)
 rw[hr]at e
 subst e
 exact hQ _ _ (.b rfl rfl)
 simp only[A2,decide_eq_true_eq,decide_eq_false_iff_not]at ag
 conv=>cbv
 generalize aq:Hb (⟨A6,Bf,Bd,A8,Bj,Bh⟩:Ad)=r5
 refine .dd hP (Xfv B9 Cu Ct Cm ac.1 aq) ?_
 conv=>cbv
 refine .gtr (fun h6=>?_) fun h6=>?_
 conv=>cbv
 refine .go2 (by kernel_rfl) ?_
 conv=>cbv
 have e:false=B0 (⟨A6,Bf,Bd,A8,Bj,Bh⟩:Ad):=(by exact Dd fun h=>by rw[diskOk_iff]at h;have:=h.2.2.2.1;rw[aq]at this;simp only[]at this;omega)
 rw[hr]at e
 subst e
 exact hQ _ _ (.b rfl rfl)
 conv=>cbv
 refine .go2 (by kernel_rfl) ?_
 conv=>cbv
 refine LoopW.lp (κ:=Int) K6 hP [] [1] (fun i3=>[(3,I i3)]) (fun i3=>[])
  (fun i3=>0≤i3∧i3≤A6.length∧∀j:Nat,j<i3.toNat→Dq (⟨A6,Bf,Bd,A8,Bj,Bh⟩:Ad) j=true)
  (fun i3=>(A6.length - i3).toNat) (0) ⟨by omega,by omega,fun j h=>by simp at h⟩ ⟨rfl,trivial⟩ rfl ?_
 rintro i3 J ⟨h0,h1,hb⟩ hJ
 have bh:A6.length≤1000000000:=ac.1.1
 conv=>cbv
 refine .go B9 fun v7 bi=>?_
 conv=>cbv
 refine .lss (fun h8=>?_) fun h8=>?_
 conv=>cbv
 refine .go i3.toNat B9 fun ad ⟨aw,a3,ah⟩ a4=>?_
 conv=>cbv
 refine .sub fun a5 be=>?_
 conv=>cbv
 have hnd:=XcL (d:=(⟨A6,Bf,Bd,A8,Bj,Bh⟩:Ad)) ad a4
 generalize ab:A2 aw 1 a5=a6
 refine .dd hP (Cz ab) ?_
 cases a6
 simp only[A2,decide_eq_true_eq,decide_eq_false_iff_not]at ab
 conv=>cbv
 refine .go2 (by kernel_rfl) ?_
 conv=>cbv
 have e:false=B0 (⟨A6,Bf,Bd,A8,Bj,Bh⟩:Ad):=(by exact Dd fun h=>by rw[diskOk_iff]at h;have h3:=h.2.2.1;rw[←Hn (d:=(⟨A6,Bf,Bd,A8,Bj,Bh⟩:Ad)) ad (by unfold Dq;rw[decide_eq_false_iff_not,hnd];simp only[];omega)]at h3;cases h3)
 rw[hr]at e
 subst e
 exact hQ _ _ (.b rfl rfl)
 simp only[A2,decide_eq_true_eq,decide_eq_false_iff_not]at ab
 conv=>cbv
 refine .gtr (fun h12=>?_) fun h12=>?_
 conv=>cbv
 refine .sub fun ai ao=>?_
 conv=>cbv
 refine .go ai.toNat B9 fun ar ⟨a7,a1,a2⟩ ax=>?_
 conv=>cbv
 have hpd:=XcL (d:=(⟨A6,Bf,Bd,A8,Bj,Bh⟩:Ad)) ar ax
 rw[show ai.toNat=i3.toNat - 1 by omega]at hpd
 refine .geq (fun h15=>?_) fun h15=>?_
 conv=>cbv
 refine .go2 (by kernel_rfl) ?_
 conv=>cbv
 have e:false=B0 (⟨A6,Bf,Bd,A8,Bj,Bh⟩:Ad):=(by exact Dd fun h=>by rw[diskOk_iff]at h;have h3:=h.2.2.1;rw[←Hn (d:=(⟨A6,Bf,Bd,A8,Bj,Bh⟩:Ad)) ad (by unfold Dq;rw[decide_eq_false_iff_not,hnd];simp only[];rw[hpd];simp only[];omega)]at h3;cases h3)
 rw[hr]at e
 subst e
 exact hQ _ _ (.b rfl rfl)
 conv=>cbv
 refine .go fun au ay=>?_
 conv=>cbv
 generalize aj:A2 ah 0 au=a8
 refine .dd hP (Cz aj) ?_
 cases a8
 simp only[A2,decide_eq_true_eq,decide_eq_false_iff_not]at aj
 conv=>cbv
 refine .go2 (by kernel_rfl) ?_
 conv=>cbv
 have e:false=B0 (⟨A6,Bf,Bd,A8,Bj,Bh⟩:Ad):=(by exact Dd fun h=>by rw[diskOk_iff]at h;have h3:=h.2.2.1;rw[←Hn (d:=(⟨A6,Bf,Bd,A8,Bj,Bh⟩:Ad)) ad (by unfold Dq;rw[decide_eq_false_iff_not,hnd];simp only[];omega)]at h3;cases h3)
 rw[hr]at e
 subst e
 exact hQ _ _ (.b rfl rfl)
 simp only[A2,decide_eq_true_eq,decide_eq_false_iff_not]at aj
 conv=>cbv
 refine .go2 (by kernel_rfl) ?_
 conv=>cbv
 refine .add fun a9 bf=>?_
 conv=>cbv
 exact .go [] (a9) (hJ _ ⟨by omega,by omega,fun j h=>if e:j=i3.toNat then by subst e;unfold Dq;rw[decide_eq_true_eq,hnd,hpd];simp only[];omega else hb j (by omega)⟩ mlt)
 conv=>cbv
 refine .go fun ai ao=>?_
 conv=>cbv
 generalize ak:A2 ah 0 ai=ba
 refine .dd hP (Cz ak) ?_
 cases ba
 simp only[A2,decide_eq_true_eq,decide_eq_false_iff_not]at ak
 conv=>cbv
 refine .go2 (by kernel_rfl) ?_
 conv=>cbv
 have e:false=B0 (⟨A6,Bf,Bd,A8,Bj,Bh⟩:Ad):=(by exact Dd fun h=>by rw[diskOk_iff]at h;have h3:=h.2.2.1;rw[←Hn (d:=(⟨A6,Bf,Bd,A8,Bj,Bh⟩:Ad)) ad (by unfold Dq;rw[decide_eq_false_iff_not,hnd];simp only[];omega)]at h3;cases h3)
 rw[hr]at e
 subst e
 exact hQ _ _ (.b rfl rfl)
 simp only[A2,decide_eq_true_eq,decide_eq_false_iff_not]at ak
 conv=>cbv
 refine .go2 (by kernel_rfl) ?_
 conv=>cbv
 refine .add fun an az=>?_
 conv=>cbv
 exact .go [] (an) (hJ _ ⟨by omega,by omega,fun j h=>if e:j=i3.toNat then by subst e;unfold Dq;rw[decide_eq_true_eq,hnd];simp only[];omega else hb j (by omega)⟩ mlt)
 conv=>cbv
 refine LoopW.lp (κ:=Int) K6 hP [] [1] (fun i5=>[(5,I i5)]) (fun i5=>[])
  (fun i5=>0≤i5∧i5≤A8.length+1∧(i5≤A8.length→XeQ (⟨A6,Bf,Bd,A8,Bj,Bh⟩:Ad) i5.toNat)∧(i5=A8.length+1→Dr (⟨A6,Bf,Bd,A8,Bj,Bh⟩:Ad) Bd A8=true))
  (fun i5=>(A8.length+1 - i5).toNat) (0) ⟨by omega,by omega,fun _=>XbQ ac,fun h=>by omega⟩ ⟨rfl,trivial⟩ rfl ?_
 rintro i5 J1 ⟨k0,k1,hQk,hQe⟩ a0
 conv=>cbv
 refine .go Cm fun v9 bj=>?_
 conv=>cbv
 refine .leq (fun h10=>?_) fun h10=>?_
 conv=>cbv
 have hq:=hQk (by omega)
 have hS0:=W9 (old:=Bd) (steps:=A8) (k:=i5) (by omega) (by omega)
 rcases ab:Di Bd A8 i5 with⟨aa,ap⟩
 generalize ae:aa.map Ac=bb
 refine .dd hP (Mt Ct Cm (by omega) (by omega) ac.2.2 ab ae) ?_
 conv=>cbv
 have hS:B5 Bd (A8.take i5.toNat)=(aa,ap):=hS0.symm.trans ab
 have hul:okL aa:=by have:=hq.2.1;simp only[]at this;rw[hS]at this;exact this
 have hun:aa.length≤1000000000:=by have:=hq.2.2;simp only[]at this;rw[hS]at this;exact this
 cases ap
 conv=>cbv
 have e:false=B0 (⟨A6,Bf,Bd,A8,Bj,Bh⟩:Ad):=(by exact Dd fun h=>by rw[diskOk_iff]at h;have hk:=h.2.2.2.2;simp only[]at hk;rw[hq.1]at hk;unfold Wf at hk;simp only[]at hk;rw[hS]at hk;cases hk)
 rw[hr]at e
 subst e
 exact hQ _ _ (.b rfl rfl)
 conv=>cbv
 generalize al:F1 (⟨A6,Bf,Bd,A8,Bj,Bh⟩:Ad) aa=bc
 refine .dd hP (Xl B9 Cu Ct Cm ae ac.1 hul (by omega) al) ?_
 cases bc
 conv=>cbv
 have e:false=B0 (⟨A6,Bf,Bd,A8,Bj,Bh⟩:Ad):=(by exact Dd fun h=>by rw[diskOk_iff]at h;have hk:=h.2.2.2.2;simp only[]at hk;rw[hq.1]at hk;unfold Wf at hk;simp only[]at hk;rw[hS]at hk;rw[if_pos rfl,Su (show A4 _ aa=false from al)]at hk;cases hk)
 rw[hr]at e
 subst e
 exact hQ _ _ (.b rfl rfl)
 conv=>cbv
 have hre:A4 (⟨A6,Bf,Bd,A8,Bj,Bh⟩:Ad) aa=true:=al
 refine .go Cm fun ai ao=>?_
 conv=>cbv
 refine .eql (fun h14=>?_) fun h14=>?_
 conv=>cbv
 generalize am:I0 aa Bf=bd
 refine .dd hP (Xc7 ae Cu (by omega) am) ?_
 cases bd
 conv=>cbv
 have e:false=B0 (⟨A6,Bf,Bd,A8,Bj,Bh⟩:Ad):=(by exact Dd fun h=>by rw[diskOk_iff]at h;have hk:=h.2.2.2.2;simp only[]at hk;rw[hq.1]at hk;unfold Wf at hk;simp only[]at hk;rw[hS]at hk;rw[if_pos rfl,List.drop_of_length_le (by omega)]at hk;unfold Dr at hk;rw[show El aa _=false from am,Bool.and_false]at hk;cases hk)
 rw[hr]at e
 subst e
 exact hQ _ _ (.b rfl rfl)
 conv=>cbv
 refine .add fun au ay=>?_
 conv=>cbv
 exact .go [] (au) (a0 _ ⟨by omega,by omega,fun h=>by omega,fun _=>by have:=hq.1;simp only[]at this;rw[this];unfold Wf;simp only[];rw[hS,List.drop_of_length_le (by omega),if_pos rfl];show(A4 _ aa&&El aa Bf)=true;rw[hre,show El aa Bf=true from am];rfl⟩ mlt)
 conv=>cbv
 refine .add fun an az=>?_
 conv=>cbv
 exact .go [] (an) (a0 _ ⟨by omega,by omega,fun h=>by rw[show an.toNat=i5.toNat+1 by omega];exact XbI ac hq (by simp only[];omega) hS hre,fun h=>by omega⟩ mlt)
 conv=>cbv
 have e:true=B0 (⟨A6,Bf,Bd,A8,Bj,Bh⟩:Ad):=(by symm;rw[diskOk_iff];exact⟨af,ag,(Rn (d:=(⟨A6,Bf,Bd,A8,Bj,Bh⟩:Ad)) (fun j hj=>hb j (by simp only[]at hj;omega)) (by symm;rw[decide_eq_true_eq];simp only[];omega)).symm,by rw[aq];exact h6,hQe (by omega)⟩)
 rw[hr]at e
 subst e
 exact hQ _ _ (.b rfl rfl)
end
section
open Go Go.Proofs
set_option maxRecDepth 20000
set_option maxHeartbeats 4000000
end
section
open Go Go.Proofs
set_option maxRecDepth 20000
set_option maxHeartbeats 4000000
def XfI:List Aa→List ByteArray→Int→Bool
 |now,[],id=>now.any fun e=>decide (e.id_=id)
 |now,s::ss,id=>(now.any fun e=>decide (e.id_=id))||XfI (As now s).1 ss id
def Xfw(nodes:List Bb)(old:List Aa)(steps:List ByteArray):List Bb:=nodes.filter fun x=>XfI old steps x.id_
theorem XeF{l:List Aa}{k:Nat}{id:Int}(hk:k<l.length):(l.take (k+1)).any (fun e=>decide (e.id_=id))=((l.take k).any (fun e=>decide (e.id_=id))||decide (l[k].id_=id)):=by
 rw[List.take_succ_eq_append_getElem hk,List.any_append]
 simp
end
section
open Go Go.Proofs
set_option maxRecDepth 20000
set_option maxHeartbeats 4000000
end
section
open Go Go.Proofs
set_option maxRecDepth 20000
set_option maxHeartbeats 4000000
def Vr:List (Nat×TyRow):=[Xcl,XfP,Xdv,Xco]
theorem Wa:Ce Tryz.prog Vr:=Ce.of (by kernel_rfl)
theorem Xff:Setup Tryz.prog Vr:=⟨Wa,mixed⟩
theorem Zc{A6:List Bb}{Cs:List (List D)}{Bf:List Aa}{Cx:List (List D)}{Bd:List Aa}{Cw:List (List D)}{A8:List ByteArray}{Cy:List (List D)}{Bj:Int}{Bh:Int}(B9:A6.map Ci=Cs)(Cu:Bf.map Ac=Cx)(Ct:Bd.map Ac=Cw)(Cm:A8.map cS=Cy)(hn:A6.length≤4000000000)(he:Bf.length≤4000000000)(ho:Bd.length≤4000000000)(hs:A8.length≤4000000000):Fn Tryz.prog 106 [.agg [.d (.row 3 Cs),.d (.row 2 Cx),.d (.row 2 Cw),.d (.row 1 Cy),I Bj,I Bh]] [] ⟨.agg [.d (.row 3 Cs),.d (.row 2 Cx),.d (.row 2 Cw),.d (.row 1 Cy),I Bj,I Bh],[],[]⟩:=by
 refine Fn.go Xff Tryz.func106 fun P hP Q hQ=>?_
 conv=>cbv
 generalize aa:E9 A6=l1
 generalize ab:l1.map Ci=ai
 refine .dd hP (Jp B9 (by omega) aa ab) ?_
 conv=>cbv
 generalize ac:E9 Bf=l2
 generalize ad:l2.map Ac=aj
 refine .dd hP (Cp Cu (by omega) ac ad) ?_
 conv=>cbv
 generalize ae:E9 Bd=l3
 generalize af:l3.map Ac=ak
 refine .dd hP (Cp Ct (by omega) ae af) ?_
 conv=>cbv
 generalize ag:E9 A8=l4
 generalize ah:l4.map cS=al
 refine .dd hP (Hl Cm (by omega) ag ah) ?_
 conv=>cbv
 obtain rfl:l1=A6:=aa.symm
 obtain rfl:l2=Bf:=ac.symm
 obtain rfl:l3=Bd:=ae.symm
 obtain rfl:l4=A8:=ag.symm
 obtain rfl:ai=Cs:=by rw[←ab,B9]
 obtain rfl:aj=Cx:=by rw[←ad,Cu]
 obtain rfl:ak=Cw:=by rw[←af,Ct]
 obtain rfl:al=Cy:=by rw[←ah,Cm]
 exact hQ _ _ (.one (.inl rfl) rfl (.agg (.d rfl rfl (.d rfl rfl (.d rfl rfl (.d rfl rfl (.d rfl rfl (.d rfl rfl .nil)))))) .nil))
end
section
open Go Go.Proofs
set_option maxRecDepth 20000
set_option maxHeartbeats 4000000
def XgO(d:Ad)(s:ByteArray):Ad:=⟨Xfw d.nodes_ d.old_ (d.steps_++[s]),(As d.entries_ s).1,d.old_,d.steps_++[s],d.room_,d.next_⟩
end
section
open Go Go.Proofs
set_option maxRecDepth 20000
set_option maxHeartbeats 4000000
end
section
open Go Go.Proofs
set_option maxRecDepth 20000
set_option maxHeartbeats 4000000
def Xem(d:Ad)(name:ByteArray):Ad×Int:=if B0 d=false∨Dx d name<0 then(d,3)else
 (⟨d.nodes_.set (Dx d name).toNat ⟨(d.nodes_.getD (Dx d name).toNat ⟨0,tx [],0⟩).id_,(d.nodes_.getD (Dx d name).toNat ⟨0,tx [],0⟩).text_,((d.nodes_.getD (Dx d name).toNat ⟨0,tx [],0⟩).text_.size:Int)⟩,d.entries_,d.old_,d.steps_,d.room_,d.next_⟩,0)
end
section
open Go Go.Proofs
set_option maxRecDepth 20000
set_option maxHeartbeats 4000000
def gN(d:Ad)(i:Int):Bb:=d.nodes_.getD i.toNat ⟨0,tx [],0⟩
def setN(d:Ad)(i:Int)(x:Bb):Ad:=⟨d.nodes_.set i.toNat x,d.entries_,d.old_,d.steps_,d.room_,d.next_⟩
def J4(d:Ad)(name text:ByteArray):Ad×Int:=if B0 d=false∨Dx d name<0 then(d,3)else
 (setN d (Dx d name) ⟨(gN d (Dx d name)).id_,(gN d (Dx d name)).text_++text.extract 0 (min (text.size:Int) (d.room_ - Hb d)).toNat,(gN d (Dx d name)).sure_⟩,if d.room_ - Hb d<text.size then 5 else 0)
def F4(d:Ad)(name:ByteArray):Ad×Int:=if B0 d=false then(d,3)else if Bq name=false then(d,1)else if 0≤A7 d.entries_ name then(d,2)else if 16≤d.entries_.length∨64≤d.nodes_.length∨1000000000≤d.next_ then(d,4)else
 (XgO ⟨d.nodes_++[⟨d.next_,tx [],0⟩],d.entries_,d.old_,d.steps_,d.room_,d.next_+1⟩ (tx [43]++name++tx [58]++Db d.next_),0)
def Xcc(d:Ad):Ad:=if B0 d=false then d else⟨Xfw d.nodes_ d.entries_ [],d.entries_,d.entries_,[],d.room_,d.next_⟩
end
section
open Go Go.Proofs
set_option maxRecDepth 20000
set_option maxHeartbeats 4000000
def XbW:List Aa→List ByteArray→Prop
 |_,[]=>True
 |now,s::ss=>srt now∧(As now s).2=true∧XbW (As now s).1 ss
theorem Lh{now:List Aa}{s:ByteArray}{ss:List ByteArray}(h:(As now s).2=true):Gz now (s::ss)=Gz (As now s).1 ss:=if_neg (by rw[h];decide)
theorem Xak{d:Ad}:∀{l:List ByteArray} {now:List Aa},Dr d now l=true→XbW now l∧Gz now l=(d.entries_,true)∧A4 d d.entries_=true
 |[],now,h=>by
  unfold Dr at h
  rw[Bool.and_eq_true]at h
  have e:now=d.entries_:=by
   have:=h.2
   unfold El at this
   exact of_decide_eq_true this
  refine⟨trivial,by rw[←e];rfl,by rw[←e];exact h.1⟩
 |s::ss,now,h=>by
  unfold Dr at h
  rw[Bool.and_eq_true,Bool.and_eq_true]at h
  obtain⟨a,b,c⟩:=Xak (now:=(As now s).1) h.2
  exact⟨⟨XfH h.1.1,h.1.2,a⟩,by rw[Lh h.1.2,b],c⟩
theorem Sh:∀{l:List ByteArray} {now:List Aa} (k:Nat),XbW now l→XbW now (l.take k)
 |[],_,k,_=>by rw[List.take_nil];trivial
 |_::_,_,0,_=>trivial
 |_::_,_,k+1,h=>⟨h.1,h.2.1,Sh k h.2.2⟩
theorem Xbi:∀{l:List ByteArray} {now:List Aa},XbW now l→B5 now l=Gz now l∧(Gz now l).2=true
 |[],now,_=>⟨rfl,rfl⟩
 |s::ss,now,h=>by
  obtain⟨a,b⟩:=Xbi (now:=(As now s).1) h.2.2
  have e2:B5 now (s::ss)=B5 (Du now s).1 ss:=if_neg (by rw[Rm h.1,h.2.1];decide)
  rw[Lh h.2.1,e2,Rm h.1,a]
  exact⟨rfl,b⟩
def Jy(l:List Aa)(id:Int):Bool:=l.any fun e=>decide (e.id_=id)
def Xcg(old:List Aa)(steps:List ByteArray)(id:Int):Bool:=(List.range (steps.length+1)).any fun k=>Jy (B5 old (steps.take k)).1 id
def Jg(d:Ad):Ad:=⟨d.nodes_.filter (fun x=>Xcg d.old_ d.steps_ x.id_),d.entries_,d.old_,d.steps_,d.room_,d.next_⟩
theorem Xeq{d:Ad}(h:B0 d=true):XbW d.old_ d.steps_∧Gz d.old_ d.steps_=(d.entries_,true)∧A4 d d.entries_=true:=Xak (diskOk_iff.1 h).2.2.2.2
theorem Sc{p:Nat→Bool}{k:Nat}:(List.range (k+1)).any p=((List.range k).any p||p k):=by
 rw[List.range_succ,List.any_append]
 simp
theorem Sx{old:List Aa}{steps:List ByteArray}{id:Int}{k:Nat}(hk:k≤steps.length+1)(h:true=(List.range k).any fun k=>Jy (B5 old (steps.take k)).1 id):Xcg old steps id=true:=by
 obtain⟨j,hj,h1⟩:=List.any_eq_true.1 h.symm
 exact List.any_eq_true.2 ⟨j,List.mem_range.2 (by have:=List.mem_range.1 hj;omega),h1⟩
theorem Ol{l:List Aa}{k:Nat}{id:Int}(hk:k<l.length):Jy (l.take (k+1)) id=(Jy (l.take k) id||decide (l[k].id_=id)):=XeF hk
theorem XbV(l:List Aa)(s:ByteArray):(Du l s).1.length≤l.length+1:=by
 unfold Du
 split
 ·simp
 ·split
  ·exact E6 rfl
  ·have h1:=H8 (rfl:Dp l (Bi s).1=_)
   split
   ·have h2:=E6 (rfl:Ed (Dp l (Bi s).1) ⟨(Bi s).2.1,C3 l (Bi s).1⟩=_)
    show(Ed _ _).length≤_
    omega
   ·show(Dp _ _).length≤_
    omega
theorem XdW:∀(l:List ByteArray) (now:List Aa),(B5 now l).1.length≤now.length+l.length
 |[],_=>Nat.le_refl _
 |s::l,now=>by
  have h1:=XbV now s
  have h2:=XdW l (Du now s).1
  unfold B5
  split
  ·exact Nat.zero_le _
  ·rw[List.length_cons]
   omega
end
section
open Go Go.Proofs
set_option maxRecDepth 20000
set_option maxHeartbeats 4000000
def V1:List (Nat×TyRow):=[ty3,ty9,Xcl,XfP,Xdv,Xco,XbX,Z6]
theorem Xf:Ce Tryz.prog V1:=Ce.of (by kernel_rfl)
theorem No:Setup Tryz.prog V1:=⟨Xf,mixed⟩
variable {A6:List Bb} {Cs Cx Cw Cy:List (List D)} {Bf Bd:List Aa} {A8:List ByteArray} {Bj Bh:Int}
theorem Xd7{nn ne no ns:Nat}(B9:A6.map Ci=Cs)(Cu:Bf.map Ac=Cx)(Ct:Bd.map Ac=Cw)(Cm:A8.map cS=Cy)(hn:A6.length≤4000000000)(he:Bf.length≤4000000000)(ho:Bd.length≤4000000000)(hs:A8.length≤4000000000)(hnn:nn=A6.length)(hne:ne=Bf.length)(hno:no=Bd.length)(hns:ns=A8.length):Fn Tryz.prog 97 [.agg [.d (.row 3 Cs),.d (.row 2 Cx),.d (.row 2 Cw),.d (.row 1 Cy),I Bj,I Bh]] [] ⟨.agg [.ref 0 0 nn,.ref 1 0 ne,.ref 2 0 no,.ref 3 0 ns,I Bj,I Bh],[.row 3 false Cs,.row 2 false Cx,.row 2 false Cw,.row 1 false Cy],[]⟩:=by
 refine Fn.goR No Tryz.func97 fun P hP Q hQ=>?_
 conv=>cbv
 refine .row0 B9 fun aa z1 ai ab=>?_
 conv=>cbv
 refine .row0 Cu fun ac z2 aj ad=>?_
 conv=>cbv
 refine .row0 Ct fun ae z3 ak af=>?_
 conv=>cbv
 refine .row0 Cm fun ag z4 al ah=>?_
 conv=>cbv
 obtain rfl:z1=Cs:=by rw[←ab,B9]
 obtain rfl:z2=Cx:=by rw[←ad,Cu]
 obtain rfl:z3=Cw:=by rw[←af,Ct]
 obtain rfl:z4=Cy:=by rw[←ah,Cm]
 obtain rfl:aa=nn:=by omega
 obtain rfl:ac=ne:=by omega
 obtain rfl:ae=no:=by omega
 obtain rfl:ag=ns:=by omega
 exact hQ _ _ (.of [7,9,11,13] (.inl rfl) rfl rfl rfl rfl)
theorem Xb2{onod:List Bb}{Yq:List (List D)}{oent:List Aa}{Zo:List (List D)}{oold:List Aa}{Ym:List (List D)}{oste:List ByteArray}{Z0:List (List D)}{oroo:Int}{onex:Int}(B9:A6.map Ci=Cs)(Cu:Bf.map Ac=Cx)(Ct:Bd.map Ac=Cw)(Cm:A8.map cS=Cy)(hn:A6.length≤2000000000)(hol:Bd.length≤1000000000)(hsl:A8.length≤1000000000)(hss:okS A8)(hr:Jg (⟨A6,Bf,Bd,A8,Bj,Bh⟩:Ad)=⟨onod,oent,oold,oste,oroo,onex⟩)(Y8:onod.map Ci=Yq)(Yz:oent.map Ac=Zo)(Zv:oold.map Ac=Ym)(Xaa:oste.map cS=Z0):Fn Tryz.prog 165 [.agg [.d (.row 3 Cs),.d (.row 2 Cx),.d (.row 2 Cw),.d (.row 1 Cy),I Bj,I Bh]] [] ⟨.agg [.d (.row 3 Yq),.d (.row 2 Zo),.d (.row 2 Ym),.d (.row 1 Z0),I oroo,I onex],[],[]⟩:=by
 refine Fn.go No Tryz.func165 fun P hP Q hQ=>?_
 conv=>cbv
 refine LoopW.lp (κ:=Int×(List (List D))×Nat) No hP [6] [1,2] (fun(i4,ad,ae)=>[(3,.ref 7 0 ae),(4,I i4)]) (fun(i4,ad,ae)=>[(7,.row 3 false ad)])
  (fun(i4,ad,ae)=>∃(w7:List Bb),w7.map Ci=ad∧ae=w7.length∧0≤i4∧i4≤A6.length∧w7=(A6.take i4.toNat).filter (fun x=>Xcg Bd A8 x.id_)∧w7.length≤i4)
  (fun(i4,ad,ae)=>(A6.length - i4).toNat) (0,[],0) ⟨[],rfl,rfl,by omega,by omega,by simp,by simp⟩ ⟨rfl,rfl,trivial⟩ rfl ?_
 rintro⟨i4,ad,ae⟩ J ⟨w7,ah,a6,h0,h1,hx,hxl⟩ hJ
 conv=>cbv
 refine .go B9 fun v1 a9=>?_
 conv=>cbv
 refine .lss (fun h2=>?_) fun h2=>?_
 conv=>cbv
 refine LoopW.lp (κ:=Bool×Int) No hP [] [1,2,3,4] (fun(b5,i6)=>[(5,B b5),(6,I i6)]) (fun(b5,i6)=>[])
  (fun(b5,i6)=>0≤i6∧i6≤A8.length+1∧b5=(List.range i6.toNat).any (fun k=>Jy (B5 Bd (A8.take k)).1 (A6.getD i4.toNat ⟨0,tx [],0⟩).id_))
  (fun(b5,i6)=>(A8.length+1 - i6).toNat) (false,0) ⟨by omega,by omega,rfl⟩ ⟨rfl,rfl,trivial⟩ rfl ?_
 rintro⟨b5,i6⟩ J1 ⟨k0,k1,hu⟩ ay
 conv=>cbv
 refine .go Cm fun v3 ba=>?_
 conv=>cbv
 refine .leq (fun h4=>?_) fun h4=>?_
 conv=>cbv
 cases b5
 conv=>cbv
 rcases ap:Di Bd A8 i6 with⟨aa,az⟩
 generalize ai:aa.map Ac=a7
 have hS:B5 Bd (A8.take i6.toNat)=(aa,az):=by rw[←W9 (by omega) (by omega)];exact ap
 have bb:aa.length≤2000000000:=by
  have:=XdW (A8.take i6.toNat) Bd
  rw[hS,List.length_take]at this
  simp only[]at this
  omega
 refine .dd hP (Mt Ct Cm hol hsl hss ap ai) ?_
 conv=>cbv
 refine LoopW.lp (κ:=Bool×Int) No hP [] [1,2,3,4,6,7,24,25] (fun(b5,i9)=>[(5,B b5),(9,I i9)]) (fun(b5,i9)=>[])
  (fun(b5,i9)=>0≤i9∧i9≤aa.length∧b5=Jy (aa.take i9.toNat) (A6.getD i4.toNat ⟨0,tx [],0⟩).id_)
  (fun(b5,i9)=>(aa.length - i9).toNat) (false,0) ⟨by omega,by omega,rfl⟩ ⟨rfl,rfl,trivial⟩ rfl ?_
 rintro⟨b5,i9⟩ J2 ⟨m0,m1,hb⟩ am
 conv=>cbv
 refine .go ai fun v6 bc=>?_
 conv=>cbv
 refine .lss (fun h7=>?_) fun h7=>?_
 conv=>cbv
 cases b5
 conv=>cbv
 refine .go i9.toNat ai fun al ⟨a0,a8⟩ aq=>?_
 conv=>cbv
 refine .go i4.toNat B9 fun ar ⟨au,a1,a2⟩ a3=>?_
 conv=>cbv
 have hide:(A6.getD i4.toNat ⟨0,tx [],0⟩).id_=au:=by rw[←gD ar,←a3]
 refine .eql (fun h10=>?_) fun h10=>?_
 conv=>cbv
 refine .add fun aj aw=>?_
 conv=>cbv
 exact .go [] (true,aj) (am _ ⟨by omega,by omega,by rw[show aj.toNat=i9.toNat+1 by omega,Ol al,←aq,hide];simp only[];rw[decide_eq_true h10,Bool.or_true]⟩ mlt)
 conv=>cbv
 refine .add fun aj aw=>?_
 conv=>cbv
 exact .go [] (false,aj) (am _ ⟨by omega,by omega,by rw[show aj.toNat=i9.toNat+1 by omega,Ol al,←aq,←hb,hide];simp only[];rw[decide_eq_false h10];rfl⟩ mlt)
 conv=>cbv
 refine .add fun v8 a4=>?_
 conv=>cbv
 exact .go [] (true,v8) (am _ ⟨by omega,by omega,by rw[show v8.toNat=i9.toNat+1 by omega,Ol (show i9.toNat<aa.length by omega),←hb];rfl⟩ mlt)
 conv=>cbv
 refine .add fun v8 a4=>?_
 conv=>cbv
 exact .go [] (b5,v8) (ay _ ⟨by omega,by omega,by rw[show v8.toNat=i6.toNat+1 by omega,Sc,←hu,Bool.false_or,hS];show _=Jy aa _;rw[hb,List.take_of_length_le (by omega)]⟩ mlt)
 conv=>cbv
 refine .go i4.toNat B9 fun ab ⟨ac,af,ag⟩ ak=>?_
 conv=>cbv
 refine .one (⟨ac,af,ag⟩:Bb) ah rfl fun an z6 ax ao=>?_
 conv=>cbv
 refine .add fun v7 a5=>?_
 conv=>cbv
 have hid:(A6.getD i4.toNat ⟨0,tx [],0⟩).id_=ac:=by rw[←gD ab,←ak]
 have hus:=Sx (show i6.toNat≤A8.length+1 by omega) hu
 rw[hid]at hus
 exact .go [9] (v7,z6,an) (hJ _ ⟨_,ao,Oq,by omega,by omega,by rw[show v7.toNat=i4.toNat+1 by omega,F2 ab,←hx,←ak];simp only[];rw[hus];rfl,by rw[List.length_append,List.length_singleton];omega⟩ mlt)
 conv=>cbv
 cases b5
 conv=>cbv
 refine .add fun v5 bd=>?_
 conv=>cbv
 have hj:i4.toNat<A6.length:=by omega
 have hus:Xcg Bd A8 A6[i4.toNat].id_=false:=by rw[gD hj (d:=⟨0,tx [],0⟩)];unfold Xcg;rw[show A8.length+1=i6.toNat by omega];exact hu.symm
 exact .go [7] (v5,ad,ae) (hJ _ ⟨_,ah,Oq,by omega,by omega,by rw[show v5.toNat=i4.toNat+1 by omega,F2 hj,←hx,hus];simp,by omega⟩ mlt)
 conv=>cbv
 refine .go i4.toNat B9 fun ab ⟨ac,af,ag⟩ ak=>?_
 conv=>cbv
 refine .one (⟨ac,af,ag⟩:Bb) ah rfl fun an z6 ax ao=>?_
 conv=>cbv
 refine .add fun v7 a5=>?_
 conv=>cbv
 have hid:(A6.getD i4.toNat ⟨0,tx [],0⟩).id_=ac:=by rw[←gD ab,←ak]
 have hus:=Sx (show i6.toNat≤A8.length+1 by omega) hu
 rw[hid]at hus
 exact .go [9] (v7,z6,an) (hJ _ ⟨_,ao,Oq,by omega,by omega,by rw[show v7.toNat=i4.toNat+1 by omega,F2 ab,←hx,←ak];simp only[];rw[hus];rfl,by rw[List.length_append,List.length_singleton];omega⟩ mlt)
 conv=>cbv
 have e:(⟨w7,Bf,Bd,A8,Bj,Bh⟩:Ad)=Jg (⟨A6,Bf,Bd,A8,Bj,Bh⟩:Ad):=(by unfold Jg;dsimp only;rw[hx,List.take_of_length_le (by omega)])
 rw[hr]at e
 simp only[Ad.mk.injEq]at e
 obtain⟨rfl,rfl,rfl,rfl,rfl,rfl⟩:=e
 exact hQ _ _ (.one (.inl rfl) rfl (.agg (.ref rfl (Ir ah) (XbO ah Y8) (.d rfl (Mq Cu Yz) (.d rfl (Mq Ct Zv) (.d rfl (Mq Cm Xaa) (.d rfl rfl (.d rfl rfl (.nil))))))) .nil))
end
section
open Go Go.Proofs
set_option maxRecDepth 20000
set_option maxHeartbeats 4000000
section
variable {d:Ad} {name text a b:ByteArray}
end
end
end Go.Proofs.YtgdmjbcllgmepaaGreatDoor.Ab
