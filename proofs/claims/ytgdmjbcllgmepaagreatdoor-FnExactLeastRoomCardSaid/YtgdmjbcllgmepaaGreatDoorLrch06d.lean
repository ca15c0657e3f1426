/- What functions of the program come to, for all arguments in the given bounds. -/
import Derived.Test.YtgdmjbcllgmepaaGreatDoorLrch01d
import Derived.Test.YtgdmjbcllgmepaaGreatDoorLrZ9
set_option linter.unusedVariables false
set_option linter.unusedSimpArgs false
namespace Go.Proofs.YtgdmjbcllgmepaaGreatDoor.Ab
section
open Go Go.Proofs
set_option maxRecDepth 20000
set_option maxHeartbeats 4000000
def Ol:List (Nat×TyRow):=[ty3,ty9,Xd8,Xde,XaI,Xx,XbM]
theorem Z0:By Tryz.prog Ol:=By.of (by kernel_rfl)
theorem M1:Setup Tryz.prog Ol:=⟨Z0,mixed⟩
theorem XdQ{a b:ByteArray}:a.toList=b.toList↔a=b:=⟨fun e=>Lz e,fun e=>by rw[e]⟩
theorem AggW.eSI{a c:ByteArray}{b d:Int}{K:Bool→Prop}(h1:a=c∧b=d→K true)(h2:¬(a=c∧b=d)→K false):AggW [.str,.int] [.d (.sc (.string a)),.d (.sc (.int .i64 b))] [.d (.sc (.string c)),.d (.sc (.int .i64 d))] K:=by
 by_cases h:a=c∧b=d
 ·refine⟨true,?_,h1 h⟩
  simp[Nc,Xh3,h.1,h.2]
 ·refine⟨false,?_,h2 h⟩
  simp only[Nc,Xh3,if_true,Option.bind_some,Option.map_some,Option.some.injEq,Bool.and_true]
  simpa[Bool.and_eq_false_iff,XdQ]using h
instance decEntry:DecidableEq Aj:=fun a b=>match a,b with
 |⟨n,i⟩,⟨m,j⟩=>decidable_of_iff (n=m∧i=j) (by simp)
def okL(l:List Aj):Prop:=∀e∈l,e.name_.size≤1000000000
def okS(l:List ByteArray):Prop:=∀s∈l,s.size≤1000000000
def H0(d:Ac):Prop:=okD d∧okL d.old_∧okS d.steps_
def D4(d:Ac):Int:=Xho (fun n:Bs=>(n.text_.size:Int)) d.nodes_
def nd(d:Ac)(i:Nat):Bs:=d.nodes_.getD i ⟨0,tx [],0⟩
def D1(d:Ac)(i:Nat):Bool:=decide ((0<i→(nd d (i - 1)).id_<(nd d i).id_)∧(1≤(nd d i).id_∧(nd d i).id_≤d.next_ - 1)∧0≤(nd d i).sure_∧(nd d i).sure_≤(nd d i).text_.size)
def Dg(d:Ac):Bool:=(List.range d.nodes_.length).all (D1 d)&&decide (d.nodes_.length≤64)
def en(l:List Aj)(i:Nat):Aj:=l.getD i ⟨tx [],0⟩
def Em(d:Ac)(l:List Aj)(i:Nat):Bool:=(decide (i=0)|| !(ltB (en l i).name_ (en l (i - 1)).name_||decide ((en l i).name_=(en l (i - 1)).name_)))&&Bg (en l i).name_&&decide (0≤Hf d (en l i).id_)
def A9(d:Ac)(l:List Aj):Bool:=(List.range l.length).all (Em d l)&&decide (l.length≤16)
theorem Ze{p:Nat→Bool}{n:Nat}(h:∀i,i<n→p i=true):(List.range n).all p=true:=List.all_eq_true.2 fun i hi=>h i (List.mem_range.1 hi)
theorem Zp{p:Nat→Bool}{n i:Nat}(hi:i<n)(h:p i=false):(List.range n).all p=false:=by
 rw[Bool.eq_false_iff]
 intro ha
 have:=List.all_eq_true.1 ha i (List.mem_range.2 hi)
 rw[h]at this
 cases this
theorem Ii{d:Ac}{i:Nat}(hi:i<d.nodes_.length)(h:D1 d i=false):false=Dg d:=by unfold Dg;rw[Zp hi h];rfl
theorem S8{d:Ac}{b:Bool}(h:∀i,i<d.nodes_.length→D1 d i=true)(hb:b=decide (d.nodes_.length≤64)):b=Dg d:=by unfold Dg;rw[Ze h,hb];rfl
theorem Mf{d:Ac}{l:List Aj}{i:Nat}(hi:i<l.length)(h:Em d l i=false):false=A9 d l:=by unfold A9;rw[Zp hi h];rfl
theorem Rd{d:Ac}{l:List Aj}{b:Bool}(h:∀i,i<l.length→Em d l i=true)(hb:b=decide (l.length≤16)):b=A9 d l:=by unfold A9;rw[Ze h,hb];rfl
theorem XbP{d:Ac}{l:List Aj}(h:A9 d l=true):l.length≤16:=by
 unfold A9 at h
 rw[Bool.and_eq_true,decide_eq_true_eq]at h
 exact h.2
theorem Xgp{d:Ac}{k:Nat}{x:Bs}(hk:k<d.nodes_.length)(h:x=d.nodes_[k]):nd d k=x:=by rw[h,gD hk];rfl
theorem XbE{l:List Aj}{k:Nat}{x:Aj}(hk:k<l.length)(h:x=l[k]):en l k=x:=by rw[h,gD hk];rfl
def El(d:Ac):List Aj→List ByteArray→Bool
 |now,[]=>A9 d now&&Hz now d.entries_
 |now,s::ss=>A9 d now&&(Ay now s).2&&El d (Ay now s).1 ss
def B0(d:Ac):Bool:=Bi d.room_&&Bh d.next_ 1 1000000000&&Dg d&&decide (D4 d≤d.room_)&&El d d.old_ d.steps_
theorem XeM{l:List Aj}{n:ByteArray}{i:Int}(h:okL l)(hn:n.size≤1000000000):okL (Sd l n i):=by
 intro e he
 unfold Sd Hb at he
 split at he
 ·rename_i h0
  have hlt:=(Hg (rfl:A7 l n=_)).2
  rcases List.mem_or_eq_of_mem_set he with he|rfl
  ·exact h e he
  ·have hk:(A7 l n).toNat<l.length:=by omega
   show(l.getD (A7 l n).toNat ⟨tx [],0⟩).name_.size≤_
   rw[←gD hk]
   exact h _ (List.getElem_mem hk)
 ·simp only[List.append_assoc,List.mem_append,List.mem_cons,List.not_mem_nil,or_false,List.cons_append,List.nil_append]at he
  rcases he with he|rfl|he
  ·exact h e (List.mem_of_mem_take he)
  ·exact hn
  ·exact h e (List.mem_of_mem_drop he)
theorem XcE{l a:List Aj}{n:ByteArray}{b:Bool}(h:okL l)(e:Gs l n=(a,b)):okL a:=by
 unfold Gs Lr at e
 split at e
 ·simp only[Prod.mk.injEq]at e
  rw[←e.1];intro x hx;cases hx
 ·simp only[Prod.mk.injEq]at e
  rw[←e.1]
  intro x hx
  exact h x (List.mem_of_mem_eraseIdx hx)
theorem Wl{l a:List Aj}{s:ByteArray}{b:Bool}(h:okL l)(hs:s.size≤1000000000)(e:Ay l s=(a,b)):okL a:=by
 have h0:∀{b:Bool},(([]:List Aj),false)=(a,b)→okL a:=fun h=>by
  simp only[Prod.mk.injEq]at h
  rw[←h.1];intro x hx;cases hx
 have hz:(s.extract 1 s.size).size≤s.size:=by rw[ByteArray.size_extract];omega
 obtain⟨x,y,c,hc⟩:∃x y c,Jp (s.extract 1 s.size)=(x,y,c):=⟨_,_,_,rfl⟩
 have hcb:=Xd1 hc
 unfold Ay at e
 rw[hc]at e
 split at e
 ·exact h0 e
 ·dsimp only at e
  split at e
  ·split at e
   ·exact h0 e
   ·simp only[Prod.mk.injEq]at e
    rw[←e.1]
    exact XeM h (by omega)
  ·split at e
   ·exact XcE h e
   ·split at e
    ·split at e
     ·exact h0 e
     ·simp only[Prod.mk.injEq]at e
      rw[←e.1]
      exact XeM (XcE h (b:=(Gs l x).2) rfl) (by omega)
    ·exact h0 e
variable {Ah:List Bs} {Bo Bm Bl Bn:List (List D)} {Al Ak:List Aj} {Ai:List ByteArray} {An Am:Int} {o:Bool}
theorem Wi{o:Int}(Aq:Ah.map A5=Bo)(As:Al.map Ae=Bm)(Av:Ak.map Ae=Bl)(At:Ai.map cS=Bn)(hd:okD ⟨Ah,Al,Ak,Ai,An,Am⟩)(hr:D4 (⟨Ah,Al,Ak,Ai,An,Am⟩:Ac)=o):Fn Tryz.prog 175 [.agg [.d (.row 3 Bo),.d (.row 2 Bm),.d (.row 2 Bl),.d (.row 1 Bn),I An,I Am]] [] ⟨I o,[],[]⟩:=by
 refine Fn.go M1 Tryz.func175 fun P hP Q hQ=>?_
 conv=>cbv
 refine .go Aq fun v1 ag=>?_
 conv=>cbv
 refine LoopW.lp (κ:=Int×Int) M1 hP [] [7,8] (fun(i3,i9)=>[(3,I i3),(9,I i9)]) (fun(i3,i9)=>[])
  (fun(i3,i9)=>0≤i9∧i9≤Ah.length∧i3=Xho (fun n:Bs=>(n.text_.size:Int)) (Ah.take i9.toNat)∧0≤i3∧i3≤1000000000*i9)
  (fun(i3,i9)=>(Ah.length - i9).toNat) (0,0) ⟨by omega,by omega,rfl,by omega,by omega⟩ ⟨rfl,rfl,trivial⟩ rfl ?_
 rintro⟨i3,i9⟩ J ⟨h0,h1,hx,hx0,hx1⟩ hJ
 have ah:Ah.length≤1000000000:=hd.1
 have ac:∀n∈Ah,n.text_.size≤1000000000:=hd.2.1
 conv=>cbv
 refine .lss (fun h2=>?_) fun h2=>?_
 conv=>cbv
 refine .go i9.toNat Aq fun aa ⟨af,ad,ae⟩ ab=>?_
 conv=>cbv
 have hz:=ac _ (List.getElem_mem aa)
 rw[←ab]at hz
 simp only[]at hz
 refine .go fun v4 ai=>?_
 conv=>cbv
 refine .add fun v5 aj=>?_
 conv=>cbv
 refine .add fun v6 ak=>?_
 conv=>cbv
 exact .go [] (v5,v6) (hJ _ ⟨by omega,by omega,by rw[show v6.toNat=i9.toNat+1 by omega,Za aa,←hx,←ab];simp only[];omega,by omega,by omega⟩ mlt)
 conv=>cbv
 have e:i3=D4 (⟨Ah,Al,Ak,Ai,An,Am⟩:Ac):=(by unfold D4;rw[hx,List.take_of_length_le (by omega)])
 rw[hr]at e
 subst e
 exact hQ _ _ (.i rfl rfl)
theorem Ix:Setup Tryz.prog ((3000004,D2 Tryz.prog 3000004)::Ol):=(Setup.mark 3000004 M1)
theorem Ta(Aq:Ah.map A5=Bo)(As:Al.map Ae=Bm)(Av:Ak.map Ae=Bl)(At:Ai.map cS=Bn)(hd:okD ⟨Ah,Al,Ak,Ai,An,Am⟩)(hx: -9223372036854775807≤Am∧Am≤9223372036854775807)(hr:Dg (⟨Ah,Al,Ak,Ai,An,Am⟩:Ac)=o):Fn Tryz.prog 174 [.agg [.d (.row 3 Bo),.d (.row 2 Bm),.d (.row 2 Bl),.d (.row 1 Bn),I An,I Am]] [] ⟨B o,[],[]⟩:=by
 refine Fn.go Ix Tryz.func174 fun P hP Q hQ=>?_
 conv=>cbv
 refine .go Aq fun v1 ax=>?_
 conv=>cbv
 refine LoopW.lp (κ:=Int) Ix hP [] [1,6,7] (fun i8=>[(8,I i8)]) (fun i8=>[])
  (fun i8=>0≤i8∧i8≤Ah.length∧∀j:Nat,j<i8.toNat→D1 (⟨Ah,Al,Ak,Ai,An,Am⟩:Ac) j=true)
  (fun i8=>(Ah.length - i8).toNat) (0) ⟨by omega,by omega,fun j h=>by simp at h⟩ ⟨rfl,trivial⟩ rfl ?_
 rintro i8 J ⟨h0,h1,hb⟩ hJ
 have ay:Ah.length≤1000000000:=hd.1
 conv=>cbv
 refine .lss (fun h2=>?_) fun h2=>?_
 conv=>cbv
 refine .go i8.toNat Aq fun aa ⟨ad,ai,ab⟩ aj=>?_
 conv=>cbv
 have hnd:=Xgp (d:=(⟨Ah,Al,Ak,Ai,An,Am⟩:Ac)) aa aj
 refine .gtr (fun h4=>?_) fun h4=>?_
 conv=>cbv
 refine .sub fun v5 ak=>?_
 conv=>cbv
 refine .go v5.toNat Aq fun ah ⟨ar,al,am⟩ an=>?_
 conv=>cbv
 have hpd:=Xgp (d:=(⟨Ah,Al,Ak,Ai,An,Am⟩:Ac)) ah an
 rw[show v5.toNat=i8.toNat - 1 by omega]at hpd
 refine .leq (fun h7=>?_) fun h7=>?_
 conv=>cbv
 refine .go2 (by kernel_rfl) ?_
 conv=>cbv
 have e:false=Dg (⟨Ah,Al,Ak,Ai,An,Am⟩:Ac):=(by exact Ii (d:=(⟨Ah,Al,Ak,Ai,An,Am⟩:Ac)) aa (by unfold D1;rw[decide_eq_false_iff_not,hnd];simp only[];rw[hpd];simp only[];omega))
 rw[hr]at e
 subst e
 exact hQ _ _ (.b rfl rfl)
 conv=>cbv
 refine .sub fun v8 az=>?_
 conv=>cbv
 generalize ae:Bh ad 1 v8=r9
 refine .dd hP (Eb ae) ?_
 cases r9
 simp only[Bh,decide_eq_true_eq,decide_eq_false_iff_not]at ae
 conv=>cbv
 refine .go2 (by kernel_rfl) ?_
 conv=>cbv
 have e:false=Dg (⟨Ah,Al,Ak,Ai,An,Am⟩:Ac):=(by exact Ii (d:=(⟨Ah,Al,Ak,Ai,An,Am⟩:Ac)) aa (by unfold D1;rw[decide_eq_false_iff_not,hnd];simp only[];omega))
 rw[hr]at e
 subst e
 exact hQ _ _ (.b rfl rfl)
 simp only[Bh,decide_eq_true_eq,decide_eq_false_iff_not]at ae
 conv=>cbv
 refine .go fun ao au=>?_
 conv=>cbv
 generalize ac:Bh ab 0 ao=ap
 refine .dd hP (Eb ac) ?_
 cases ap
 simp only[Bh,decide_eq_true_eq,decide_eq_false_iff_not]at ac
 conv=>cbv
 refine .go2 (by kernel_rfl) ?_
 conv=>cbv
 have e:false=Dg (⟨Ah,Al,Ak,Ai,An,Am⟩:Ac):=(by exact Ii (d:=(⟨Ah,Al,Ak,Ai,An,Am⟩:Ac)) aa (by unfold D1;rw[decide_eq_false_iff_not,hnd];simp only[];omega))
 rw[hr]at e
 subst e
 exact hQ _ _ (.b rfl rfl)
 simp only[Bh,decide_eq_true_eq,decide_eq_false_iff_not]at ac
 conv=>cbv
 refine .go2 (by kernel_rfl) ?_
 conv=>cbv
 refine .add fun aq aw=>?_
 conv=>cbv
 exact .go [] (aq) (hJ _ ⟨by omega,by omega,fun j h=>if e:j=i8.toNat then by subst e;unfold D1;rw[decide_eq_true_eq,hnd,hpd];simp only[];omega else hb j (by omega)⟩ mlt)
 conv=>cbv
 refine .sub fun v5 ak=>?_
 conv=>cbv
 generalize af:Bh ad 1 v5=r6
 refine .dd hP (Eb af) ?_
 cases r6
 simp only[Bh,decide_eq_true_eq,decide_eq_false_iff_not]at af
 conv=>cbv
 refine .go2 (by kernel_rfl) ?_
 conv=>cbv
 have e:false=Dg (⟨Ah,Al,Ak,Ai,An,Am⟩:Ac):=(by exact Ii (d:=(⟨Ah,Al,Ak,Ai,An,Am⟩:Ac)) aa (by unfold D1;rw[decide_eq_false_iff_not,hnd];simp only[];omega))
 rw[hr]at e
 subst e
 exact hQ _ _ (.b rfl rfl)
 simp only[Bh,decide_eq_true_eq,decide_eq_false_iff_not]at af
 conv=>cbv
 refine .go fun v7 a0=>?_
 conv=>cbv
 generalize ag:Bh ab 0 v7=r8
 refine .dd hP (Eb ag) ?_
 cases r8
 simp only[Bh,decide_eq_true_eq,decide_eq_false_iff_not]at ag
 conv=>cbv
 refine .go2 (by kernel_rfl) ?_
 conv=>cbv
 have e:false=Dg (⟨Ah,Al,Ak,Ai,An,Am⟩:Ac):=(by exact Ii (d:=(⟨Ah,Al,Ak,Ai,An,Am⟩:Ac)) aa (by unfold D1;rw[decide_eq_false_iff_not,hnd];simp only[];omega))
 rw[hr]at e
 subst e
 exact hQ _ _ (.b rfl rfl)
 simp only[Bh,decide_eq_true_eq,decide_eq_false_iff_not]at ag
 conv=>cbv
 refine .go2 (by kernel_rfl) ?_
 conv=>cbv
 refine .add fun v9 a1=>?_
 conv=>cbv
 exact .go [] (v9) (hJ _ ⟨by omega,by omega,fun j h=>if e:j=i8.toNat then by subst e;unfold D1;rw[decide_eq_true_eq,hnd];simp only[];omega else hb j (by omega)⟩ mlt)
 conv=>cbv
 refine .go Aq fun v3 a2=>?_
 conv=>cbv
 refine .leq (fun h4=>?_) fun h4=>?_
 conv=>cbv
 have e:true=Dg (⟨Ah,Al,Ak,Ai,An,Am⟩:Ac):=(by exact S8 (d:=(⟨Ah,Al,Ak,Ai,An,Am⟩:Ac)) (fun j hj=>hb j (by simp only[]at hj;omega)) (by symm;rw[decide_eq_true_eq];simp only[];omega))
 rw[hr]at e
 subst e
 exact hQ _ _ (.b rfl rfl)
 conv=>cbv
 have e:false=Dg (⟨Ah,Al,Ak,Ai,An,Am⟩:Ac):=(by exact S8 (d:=(⟨Ah,Al,Ak,Ai,An,Am⟩:Ac)) (fun j hj=>hb j (by simp only[]at hj;omega)) (by symm;rw[decide_eq_false_iff_not];simp only[];omega))
 rw[hr]at e
 subst e
 exact hQ _ _ (.b rfl rfl)
theorem Hv:Setup Tryz.prog ((3000004,D2 Tryz.prog 3000004)::Ol):=(Setup.mark 3000004 M1)
theorem Qf{list:List Aj}{xlist:List (List D)}(Aq:Ah.map A5=Bo)(As:Al.map Ae=Bm)(Av:Ak.map Ae=Bl)(At:Ai.map cS=Bn)(hlist:list.map Ae=xlist)(hd:okD ⟨Ah,Al,Ak,Ai,An,Am⟩)(hl:okL list)(hln:list.length≤1000000000)(hr:A9 (⟨Ah,Al,Ak,Ai,An,Am⟩:Ac) list=o):Fn Tryz.prog 177 [.agg [.d (.row 3 Bo),.d (.row 2 Bm),.d (.row 2 Bl),.d (.row 1 Bn),I An,I Am],.d (.row 2 xlist)] [] ⟨B o,[],[]⟩:=by
 refine Fn.go Hv Tryz.func177 fun P hP Q hQ=>?_
 conv=>cbv
 refine .go hlist fun v1 ap=>?_
 conv=>cbv
 refine LoopW.lp (κ:=Int) Hv hP [] [1,2,7,8] (fun i9=>[(9,I i9)]) (fun i9=>[])
  (fun i9=>0≤i9∧i9≤list.length∧∀j:Nat,j<i9.toNat→Em (⟨Ah,Al,Ak,Ai,An,Am⟩:Ac) list j=true)
  (fun i9=>(list.length - i9).toNat) (0) ⟨by omega,by omega,fun j h=>by simp at h⟩ ⟨rfl,trivial⟩ rfl ?_
 rintro i9 J ⟨h0,h1,hb⟩ hJ
 conv=>cbv
 refine .lss (fun h2=>?_) fun h2=>?_
 conv=>cbv
 refine .go i9.toNat hlist fun aa ⟨ab,ac⟩ ah=>?_
 conv=>cbv
 have hnd:=XbE aa ah
 have hzn:ab.size≤1000000000:=by have:=hl _ (List.getElem_mem aa);rw[←ah]at this;exact this
 refine .gtr (fun h4=>?_) fun h4=>?_
 conv=>cbv
 refine .sub fun v5 aq=>?_
 conv=>cbv
 refine .go v5.toNat hlist fun ai ⟨ak,an⟩ al=>?_
 conv=>cbv
 have hpd:=XbE ai al
 rw[show v5.toNat=i9.toNat - 1 by omega]at hpd
 refine .leq fun b7 aj=>?_
 conv=>cbv
 cases b7
 conv=>cbv
 generalize ad:Bg ab=r8
 refine .dd hP (Mq (by omega) ad) ?_
 cases r8
 conv=>cbv
 refine .go2 (by kernel_rfl) ?_
 conv=>cbv
 have e:false=A9 (⟨Ah,Al,Ak,Ai,An,Am⟩:Ac) list:=(by exact Mf (d:=(⟨Ah,Al,Ak,Ai,An,Am⟩:Ac)) aa (by unfold Em;rw[hnd];simp only[];rw[ad,Bool.and_false];rfl))
 rw[hr]at e
 subst e
 exact hQ _ _ (.b rfl rfl)
 conv=>cbv
 generalize ae:Hf (⟨Ah,Al,Ak,Ai,An,Am⟩:Ac) ac=r9
 refine .dd hP (K3 Aq As Av At (by have:=hd.1;simp only[]at this;omega) ae) ?_
 conv=>cbv
 refine .lss (fun h10=>?_) fun h10=>?_
 conv=>cbv
 refine .go2 (by kernel_rfl) ?_
 conv=>cbv
 have e:false=A9 (⟨Ah,Al,Ak,Ai,An,Am⟩:Ac) list:=(by exact Mf (d:=(⟨Ah,Al,Ak,Ai,An,Am⟩:Ac)) aa (by unfold Em;rw[hnd];simp only[];rw[ae,decide_eq_false (show¬0≤r9 by omega),Bool.and_false]))
 rw[hr]at e
 subst e
 exact hQ _ _ (.b rfl rfl)
 conv=>cbv
 refine .go2 (by kernel_rfl) ?_
 conv=>cbv
 refine .add fun am ao=>?_
 conv=>cbv
 exact .go [] (am) (hJ _ ⟨by omega,by omega,fun j h=>if e:j=i9.toNat then by subst e;unfold Em;rw[hnd,hpd];simp only[];rw[←aj,ad,ae,decide_eq_true (show 0≤r9 by omega),decide_eq_false (show¬i9.toNat=0 by omega)];rfl else hb j (by omega)⟩ mlt)
 conv=>cbv
 refine .go2 (by kernel_rfl) ?_
 conv=>cbv
 have e:false=A9 (⟨Ah,Al,Ak,Ai,An,Am⟩:Ac) list:=(by exact Mf (d:=(⟨Ah,Al,Ak,Ai,An,Am⟩:Ac)) aa (by unfold Em;rw[hnd];simp only[];rw[hpd];simp only[];rw[←aj,decide_eq_false (show¬i9.toNat=0 by omega)];rfl))
 rw[hr]at e
 subst e
 exact hQ _ _ (.b rfl rfl)
 conv=>cbv
 generalize af:Bg ab=r5
 refine .dd hP (Mq (by omega) af) ?_
 cases r5
 conv=>cbv
 refine .go2 (by kernel_rfl) ?_
 conv=>cbv
 have e:false=A9 (⟨Ah,Al,Ak,Ai,An,Am⟩:Ac) list:=(by exact Mf (d:=(⟨Ah,Al,Ak,Ai,An,Am⟩:Ac)) aa (by unfold Em;rw[hnd];simp only[];rw[af,Bool.and_false];rfl))
 rw[hr]at e
 subst e
 exact hQ _ _ (.b rfl rfl)
 conv=>cbv
 generalize ag:Hf (⟨Ah,Al,Ak,Ai,An,Am⟩:Ac) ac=r6
 refine .dd hP (K3 Aq As Av At (by have:=hd.1;simp only[]at this;omega) ag) ?_
 conv=>cbv
 refine .lss (fun h7=>?_) fun h7=>?_
 conv=>cbv
 refine .go2 (by kernel_rfl) ?_
 conv=>cbv
 have e:false=A9 (⟨Ah,Al,Ak,Ai,An,Am⟩:Ac) list:=(by exact Mf (d:=(⟨Ah,Al,Ak,Ai,An,Am⟩:Ac)) aa (by unfold Em;rw[hnd];simp only[];rw[ag,decide_eq_false (show¬0≤r6 by omega),Bool.and_false]))
 rw[hr]at e
 subst e
 exact hQ _ _ (.b rfl rfl)
 conv=>cbv
 refine .go2 (by kernel_rfl) ?_
 conv=>cbv
 refine .add fun v8 ar=>?_
 conv=>cbv
 exact .go [] (v8) (hJ _ ⟨by omega,by omega,fun j h=>if e:j=i9.toNat then by subst e;unfold Em;rw[hnd];simp only[];rw[af,ag,decide_eq_true (show 0≤r6 by omega),decide_eq_true (show i9.toNat=0 by omega)];rfl else hb j (by omega)⟩ mlt)
 conv=>cbv
 refine .go hlist fun v3 au=>?_
 conv=>cbv
 refine .leq (fun h4=>?_) fun h4=>?_
 conv=>cbv
 have e:true=A9 (⟨Ah,Al,Ak,Ai,An,Am⟩:Ac) list:=(by exact Rd (l:=list) (fun j hj=>hb j (by omega)) (by symm;rw[decide_eq_true_eq];omega))
 rw[hr]at e
 subst e
 exact hQ _ _ (.b rfl rfl)
 conv=>cbv
 have e:false=A9 (⟨Ah,Al,Ak,Ai,An,Am⟩:Ac) list:=(by exact Rd (l:=list) (fun j hj=>hb j (by omega)) (by symm;rw[decide_eq_false_iff_not];omega))
 rw[hr]at e
 subst e
 exact hQ _ _ (.b rfl rfl)
theorem Jb{a:List Aj}{xa:List (List D)}{b:List Aj}{xb:List (List D)}(ha:a.map Ae=xa)(hb:b.map Ae=xb)(aj:a.length<2^40)(hr:Hz a b=o):Fn Tryz.prog 178 [.d (.row 2 xa),.d (.row 2 xb)] [] ⟨B o,[],[]⟩:=by
 refine Fn.go M1 Tryz.func178 fun P hP Q hQ=>?_
 conv=>cbv
 refine .go ha fun v1 ak=>?_
 conv=>cbv
 refine .go hb fun v2 al=>?_
 conv=>cbv
 refine .neq (fun h3=>?_) fun h3=>?_
 conv=>cbv
 have e:false=Hz a b:=(by unfold Hz;symm;rw[decide_eq_false_iff_not];intro h;subst h;omega)
 rw[hr]at e
 subst e
 exact hQ _ _ (.b rfl rfl)
 conv=>cbv
 refine .go ha fun v4 am=>?_
 conv=>cbv
 refine LoopW.lp (κ:=Int) M1 hP [] [0,1,12] (fun aa=>[(13,I aa)]) (fun aa=>[])
  (fun aa=>0≤aa∧aa≤a.length∧∀(j:Nat) (p:j<a.length) (q:j<b.length),j<aa.toNat→a[j]=b[j])
  (fun aa=>(a.length - aa).toNat) (0) ⟨by omega,by omega,fun j p q h=>by simp at h⟩ ⟨rfl,trivial⟩ rfl ?_
 rintro aa J ⟨h0,h1,hs⟩ hJ
 conv=>cbv
 refine .lss (fun h5=>?_) fun h5=>?_
 conv=>cbv
 refine .go aa.toNat ha fun af ⟨ad,ag⟩ ab=>?_
 conv=>cbv
 refine .go aa.toNat hb fun ah ⟨ae,ai⟩ ac=>?_
 conv=>cbv
 refine .eSI (fun h8=>?_) fun h8=>?_
 conv=>cbv
 refine .add fun v9 an=>?_
 conv=>cbv
 exact .go [] (v9) (hJ _ ⟨by omega,by omega,fun j p q h=>if e:j=aa.toNat then by subst e;rw[←ab,←ac,Aj.mk.injEq];exact h8 else hs j p q (by omega)⟩ mlt)
 conv=>cbv
 have e:false=Hz a b:=(by unfold Hz;symm;rw[decide_eq_false_iff_not];intro h;subst h;have:=ab.trans ac.symm;rw[Aj.mk.injEq]at this;exact h8 this)
 rw[hr]at e
 subst e
 exact hQ _ _ (.b rfl rfl)
 conv=>cbv
 have e:true=Hz a b:=(by unfold Hz;symm;rw[decide_eq_true_eq];exact List.ext_getElem (show a.length=b.length by omega) fun j p q=>hs j p q (by omega))
 rw[hr]at e
 subst e
 exact hQ _ _ (.b rfl rfl)
end
section
open Go Go.Proofs
set_option maxRecDepth 20000
set_option maxHeartbeats 4000000
def S1:List (Nat×TyRow):=[ty3,ty9,Xd8,Xde,XaI,Xx,XbM]
theorem Xax:By Tryz.prog S1:=By.of (by kernel_rfl)
theorem Ir:Setup Tryz.prog S1:=⟨Xax,mixed⟩
theorem K1:∀a b:List UInt8,Op.bytesLess a b=true→Op.bytesLess b a=false
 |_,[],h=>by simp[Op.bytesLess]at h
 |[],_::_,_=>by simp[Op.bytesLess]
 |a::x,b::y,h=>by
  simp only[Op.bytesLess,Bool.or_eq_true,decide_eq_true_eq,Bool.and_eq_true,beq_iff_eq]at h
  simp only[Op.bytesLess,Bool.or_eq_false_iff,decide_eq_false_iff_not,Bool.and_eq_false_iff,beq_eq_false_iff_ne]
  rcases h with h|⟨h1,h2⟩
  ·exact⟨fun h3=>absurd (UInt8.lt_trans h h3) (UInt8.lt_irrefl _),.inl fun e=>by subst e;exact UInt8.lt_irrefl _ h⟩
  ·subst h1
   exact⟨UInt8.lt_irrefl _,.inr (K1 x y h2)⟩
theorem Sk:∀a b:List UInt8,Op.bytesLess a b=false→a≠b→Op.bytesLess b a=true
 |[],[],_,h=>absurd rfl h
 |[],_::_,h,_=>by simp[Op.bytesLess]at h
 |_::_,[],_,_=>by simp[Op.bytesLess]
 |a::x,b::y,h,hn=>by
  simp only[Op.bytesLess,Bool.or_eq_false_iff,decide_eq_false_iff_not,Bool.and_eq_false_iff,beq_eq_false_iff_ne]at h
  simp only[Op.bytesLess,Bool.or_eq_true,decide_eq_true_eq,Bool.and_eq_true,beq_iff_eq]
  by_cases e:a=b
  ·subst e
   right
   refine⟨rfl,Sk x y (h.2.resolve_left fun h=>h rfl) fun e=>hn (by rw[e])⟩
  ·left
   exact(UInt8.lt_or_lt_of_ne e).resolve_left h.1
theorem XbD(a b:ByteArray):(!(ltB a b))=(ltB b a||decide (b=a)):=by
 unfold ltB
 cases h:Op.bytesLess a.toList b.toList with
 |true=>
  rw[K1 _ _ h]
  have:¬b=a:=by
   rintro rfl
   have:=K1 _ _ h
   rw[h]at this
   cases this
  rw[decide_eq_false this];rfl
 |false=>
  by_cases e:b=a
  ·rw[decide_eq_true e,Bool.or_true];rfl
  ·rw[Sk _ _ h fun e2=>e (Lz e2.symm),decide_eq_false e];rfl
def Gi(d:Ac)(l:List Aj):Bool:=A9 d l
def Jm(a b:List Aj):Bool:=Hz a b
def Dn(l:List Aj)(name:ByteArray):List Aj:=l.filter fun x=>!decide (x.name_=name)
def Q4(e:Aj):List Aj→Bool→List Aj
 |[],done=>if done=true then[]else[e]
 |x::l,done=>(if done=false∧ltB x.name_ e.name_=false then[e]else[])++((if x.name_=e.name_ then[]else[x])++Q4 e l (done|| !(ltB x.name_ e.name_)))
def Du(l:List Aj)(e:Aj):List Aj:=Q4 e l false
theorem Mw{e x:Aj}{l:List Aj}{i:Nat}{b:Bool}{w:List Aj}{r:List Aj}(hi:i<l.length)(hx:x=l[i])(h:w++Q4 e (l.drop i) b=r):
  w++((if b=false∧ltB x.name_ e.name_=false then[e]else[])++((if x.name_=e.name_ then[]else[x])++Q4 e (l.drop (i+1)) (b|| !(ltB x.name_ e.name_))))=r:=by
 rw[List.drop_eq_getElem_cons hi,←hx]at h
 exact h
variable {Ah:List Bs} {Bo Bm Bl Bn xl xo:List (List D)} {Al Ak l:List Aj} {Ai:List ByteArray} {An Am:Int} {o:Bool}
theorem Xj{o:Int}(Aq:Ah.map A5=Bo)(As:Al.map Ae=Bm)(Av:Ak.map Ae=Bl)(At:Ai.map cS=Bn)(hd:okD ⟨Ah,Al,Ak,Ai,An,Am⟩)(hr:D4 (⟨Ah,Al,Ak,Ai,An,Am⟩:Ac)=o):Fn Tryz.prog 170 [.agg [.d (.row 3 Bo),.d (.row 2 Bm),.d (.row 2 Bl),.d (.row 1 Bn),I An,I Am]] [] ⟨I o,[],[]⟩:=by
 refine Fn.go Ir Tryz.func170 fun P hP Q hQ=>?_
 conv=>cbv
 refine LoopW.lp (κ:=Int×Int) Ir hP [] [1] (fun(i3,i4)=>[(3,I i3),(4,I i4)]) (fun(i3,i4)=>[])
  (fun(i3,i4)=>0≤i4∧i4≤Ah.length∧i3=Xho (fun n:Bs=>(n.text_.size:Int)) (Ah.take i4.toNat)∧0≤i3∧i3≤1000000000*i4)
  (fun(i3,i4)=>(Ah.length - i4).toNat) (0,0) ⟨by omega,by omega,rfl,by omega,by omega⟩ ⟨rfl,rfl,trivial⟩ rfl ?_
 rintro⟨i3,i4⟩ J ⟨h0,h1,hx,hx0,hx1⟩ hJ
 have ag:Ah.length≤1000000000:=hd.1
 have ac:∀n∈Ah,n.text_.size≤1000000000:=hd.2.1
 conv=>cbv
 refine .go Aq fun v1 ah=>?_
 conv=>cbv
 refine .lss (fun h2=>?_) fun h2=>?_
 conv=>cbv
 refine .go i4.toNat Aq fun aa ⟨af,ad,ae⟩ ab=>?_
 conv=>cbv
 have hz:=ac _ (List.getElem_mem aa)
 rw[←ab]at hz
 simp only[]at hz
 refine .go fun v4 ai=>?_
 conv=>cbv
 refine .add fun v5 aj=>?_
 conv=>cbv
 refine .add fun v6 ak=>?_
 conv=>cbv
 exact .go [] (v5,v6) (hJ _ ⟨by omega,by omega,by rw[show v6.toNat=i4.toNat+1 by omega,Za aa,←hx,←ab];simp only[];omega,by omega,by omega⟩ mlt)
 conv=>cbv
 have e:i3=D4 (⟨Ah,Al,Ak,Ai,An,Am⟩:Ac):=(by unfold D4;rw[hx,List.take_of_length_le (by omega)])
 rw[hr]at e
 subst e
 exact hQ _ _ (.i rfl rfl)
theorem Ll:Setup Tryz.prog ((3000004,D2 Tryz.prog 3000004)::S1):=(Setup.mark 3000004 Ir)
theorem Xav{list:List Aj}{xlist:List (List D)}(Aq:Ah.map A5=Bo)(As:Al.map Ae=Bm)(Av:Ak.map Ae=Bl)(At:Ai.map cS=Bn)(hlist:list.map Ae=xlist)(hd:okD ⟨Ah,Al,Ak,Ai,An,Am⟩)(hl:okL list)(hln:list.length≤1000000000)(hr:Gi (⟨Ah,Al,Ak,Ai,An,Am⟩:Ac) list=o):Fn Tryz.prog 171 [.agg [.d (.row 3 Bo),.d (.row 2 Bm),.d (.row 2 Bl),.d (.row 1 Bn),I An,I Am],.d (.row 2 xlist)] [] ⟨B o,[],[]⟩:=by
 refine Fn.go Ll Tryz.func171 fun P hP Q hQ=>?_
 conv=>cbv
 refine LoopW.lp (κ:=Int) Ll hP [] [1,2] (fun i5=>[(5,I i5)]) (fun i5=>[])
  (fun i5=>0≤i5∧i5≤list.length∧∀j:Nat,j<i5.toNat→Em (⟨Ah,Al,Ak,Ai,An,Am⟩:Ac) list j=true)
  (fun i5=>(list.length - i5).toNat) (0) ⟨by omega,by omega,fun j h=>by simp at h⟩ ⟨rfl,trivial⟩ rfl ?_
 rintro i5 J ⟨h0,h1,hb⟩ hJ
 conv=>cbv
 refine .go hlist fun v1 a1=>?_
 conv=>cbv
 refine .lss (fun h2=>?_) fun h2=>?_
 conv=>cbv
 refine .go i5.toNat hlist fun aa ⟨ab,am⟩ aj=>?_
 conv=>cbv
 have hnd:=XbE aa aj
 have hzn:ab.size≤1000000000:=by have:=hl _ (List.getElem_mem aa);rw[←aj]at this;exact this
 generalize ag:Bg ab=r4
 refine .dd hP (Mp (by omega) ag) ?_
 cases r4
 conv=>cbv
 refine .go2 (by kernel_rfl) ?_
 conv=>cbv
 have e:false=Gi (⟨Ah,Al,Ak,Ai,An,Am⟩:Ac) list:=(by exact Mf (d:=(⟨Ah,Al,Ak,Ai,An,Am⟩:Ac)) aa (by unfold Em;rw[hnd];simp only[];rw[ag,Bool.and_false];rfl))
 rw[hr]at e
 subst e
 exact hQ _ _ (.b rfl rfl)
 conv=>cbv
 refine .go i5.toNat hlist fun az ⟨ae,ac⟩ an=>?_
 conv=>cbv
 generalize ao:Gg (⟨Ah,Al,Ak,Ai,An,Am⟩:Ac) ac=r6
 refine .dd hP (Ob Aq As Av At (by have:=hd.1;simp only[]at this;omega) ao) ?_
 conv=>cbv
 obtain⟨rfl,rfl⟩:ae=ab∧ac=am:=by have:=an.trans aj.symm;rw[Aj.mk.injEq]at this;exact this
 have af:Hf (⟨Ah,Al,Ak,Ai,An,Am⟩:Ac) ac=r6:=ao
 refine .lss (fun h7=>?_) fun h7=>?_
 conv=>cbv
 refine .go2 (by kernel_rfl) ?_
 conv=>cbv
 have e:false=Gi (⟨Ah,Al,Ak,Ai,An,Am⟩:Ac) list:=(by exact Mf (d:=(⟨Ah,Al,Ak,Ai,An,Am⟩:Ac)) aa (by unfold Em;rw[hnd];simp only[];rw[af,decide_eq_false (show¬0≤r6 by omega),Bool.and_false]))
 rw[hr]at e
 subst e
 exact hQ _ _ (.b rfl rfl)
 conv=>cbv
 refine .gtr (fun h8=>?_) fun h8=>?_
 conv=>cbv
 refine .sub fun v9 ar=>?_
 conv=>cbv
 refine .go v9.toNat hlist fun ak ⟨ah,au⟩ ap=>?_
 conv=>cbv
 refine .go i5.toNat hlist fun aw ⟨ad,al⟩ aq=>?_
 conv=>cbv
 obtain⟨rfl,rfl⟩:ad=ae∧al=ac:=by have:=aq.trans an.symm;rw[Aj.mk.injEq]at this;exact this
 have hpd:=XbE ak ap
 rw[show v9.toNat=i5.toNat - 1 by omega]at hpd
 have hgq:=(XbD ah ad).symm
 refine .geq fun ax ai=>?_
 conv=>cbv
 refine .go2 (by kernel_rfl) ?_
 conv=>cbv
 cases ax
 conv=>cbv
 refine .add fun ay a0=>?_
 conv=>cbv
 exact .go [] (ay) (hJ _ ⟨by omega,by omega,fun j h=>if e:j=i5.toNat then by subst e;unfold Em;rw[hnd,hpd];simp only[];rw[hgq,←ai,ag,af,decide_eq_true (show 0≤r6 by omega),decide_eq_false (show¬i5.toNat=0 by omega)];rfl else hb j (by omega)⟩ mlt)
 conv=>cbv
 have e:false=Gi (⟨Ah,Al,Ak,Ai,An,Am⟩:Ac) list:=(by exact Mf (d:=(⟨Ah,Al,Ak,Ai,An,Am⟩:Ac)) aa (by unfold Em;rw[hnd];simp only[];rw[hpd];simp only[];rw[hgq,←ai,decide_eq_false (show¬i5.toNat=0 by omega)];rfl))
 rw[hr]at e
 subst e
 exact hQ _ _ (.b rfl rfl)
 conv=>cbv
 refine .go2 (by kernel_rfl) ?_
 conv=>cbv
 refine .add fun v9 ar=>?_
 conv=>cbv
 exact .go [] (v9) (hJ _ ⟨by omega,by omega,fun j h=>if e:j=i5.toNat then by subst e;unfold Em;rw[hnd];simp only[];rw[ag,af,decide_eq_true (show 0≤r6 by omega),decide_eq_true (show i5.toNat=0 by omega)];rfl else hb j (by omega)⟩ mlt)
 conv=>cbv
 refine .go hlist fun v3 a2=>?_
 conv=>cbv
 refine .leq (fun h4=>?_) fun h4=>?_
 conv=>cbv
 have e:true=Gi (⟨Ah,Al,Ak,Ai,An,Am⟩:Ac) list:=(by exact Rd (l:=list) (fun j hj=>hb j (by omega)) (by symm;rw[decide_eq_true_eq];omega))
 rw[hr]at e
 subst e
 exact hQ _ _ (.b rfl rfl)
 conv=>cbv
 have e:false=Gi (⟨Ah,Al,Ak,Ai,An,Am⟩:Ac) list:=(by exact Rd (l:=list) (fun j hj=>hb j (by omega)) (by symm;rw[decide_eq_false_iff_not];omega))
 rw[hr]at e
 subst e
 exact hQ _ _ (.b rfl rfl)
theorem XfE{a:List Aj}{xa:List (List D)}{b:List Aj}{xb:List (List D)}(ha:a.map Ae=xa)(hb:b.map Ae=xb)(ai:a.length<2^40)(hr:Jm a b=o):Fn Tryz.prog 172 [.d (.row 2 xa),.d (.row 2 xb)] [] ⟨B o,[],[]⟩:=by
 refine Fn.go Ir Tryz.func172 fun P hP Q hQ=>?_
 conv=>cbv
 refine .go ha fun v1 aj=>?_
 conv=>cbv
 refine .go hb fun v2 ak=>?_
 conv=>cbv
 refine .neq (fun h3=>?_) fun h3=>?_
 conv=>cbv
 have e:false=Jm a b:=(by unfold Jm Hz;symm;rw[decide_eq_false_iff_not];intro h;subst h;omega)
 rw[hr]at e
 subst e
 exact hQ _ _ (.b rfl rfl)
 conv=>cbv
 refine LoopW.lp (κ:=Int) Ir hP [] [0,1] (fun i5=>[(5,I i5)]) (fun i5=>[])
  (fun i5=>0≤i5∧i5≤a.length∧∀(j:Nat) (p:j<a.length) (q:j<b.length),j<i5.toNat→a[j]=b[j])
  (fun i5=>(a.length - i5).toNat) (0) ⟨by omega,by omega,fun j p q h=>by simp at h⟩ ⟨rfl,trivial⟩ rfl ?_
 rintro i5 J ⟨h0,h1,hs⟩ hJ
 conv=>cbv
 refine .go ha fun v4 al=>?_
 conv=>cbv
 refine .lss (fun h5=>?_) fun h5=>?_
 conv=>cbv
 refine .go i5.toNat ha fun ae ⟨ac,af⟩ aa=>?_
 conv=>cbv
 refine .go i5.toNat hb fun ag ⟨ad,ah⟩ ab=>?_
 conv=>cbv
 refine .eSI (fun h8=>?_) fun h8=>?_
 conv=>cbv
 refine .add fun v9 am=>?_
 conv=>cbv
 exact .go [] (v9) (hJ _ ⟨by omega,by omega,fun j p q h=>if e:j=i5.toNat then by subst e;rw[←aa,←ab,Aj.mk.injEq];exact h8 else hs j p q (by omega)⟩ mlt)
 conv=>cbv
 have e:false=Jm a b:=(by unfold Jm Hz;symm;rw[decide_eq_false_iff_not];intro h;subst h;have:=aa.trans ab.symm;rw[Aj.mk.injEq]at this;exact h8 this)
 rw[hr]at e
 subst e
 exact hQ _ _ (.b rfl rfl)
 conv=>cbv
 have e:true=Jm a b:=(by unfold Jm Hz;symm;rw[decide_eq_true_eq];exact List.ext_getElem (show a.length=b.length by omega) fun j p q=>hs j p q (by omega))
 rw[hr]at e
 subst e
 exact hQ _ _ (.b rfl rfl)
theorem Od{name:ByteArray}{o:List Aj}(hl:l.map Ae=xl)(hn:l.length≤4000000000)(hr:Dn l name=o)(ho:o.map Ae=xo):Fn Tryz.prog 243 [.d (.row 2 xl),S name] [] ⟨.d (.row 2 xo),[],[]⟩:=by
 refine Fn.go Ir Tryz.func243 fun P hP Q hQ=>?_
 conv=>cbv
 refine LoopW.lp (κ:=Int×(List (List D))×Nat) Ir hP [1] [0,1] (fun(i6,aa,ab)=>[(5,.ref 2 0 ab),(6,I i6)]) (fun(i6,aa,ab)=>[(2,.row 2 false aa)])
  (fun(i6,aa,ab)=>∃(w2:List Aj),w2.map Ae=aa∧ab=w2.length∧0≤i6∧i6≤l.length∧w2=(l.take i6.toNat).filter (fun x=>!decide (x.name_=name))∧w2.length≤i6)
  (fun(i6,aa,ab)=>(l.length - i6).toNat) (0,[],0) ⟨[],rfl,rfl,by omega,by omega,rfl,by simp⟩ ⟨rfl,rfl,trivial⟩ rfl ?_
 rintro⟨i6,aa,ab⟩ J ⟨w2,ac,al,h0,h1,hx,hxl⟩ hJ
 conv=>cbv
 refine .go hl fun v1 ap=>?_
 conv=>cbv
 refine .lss (fun h2=>?_) fun h2=>?_
 conv=>cbv
 refine .go i6.toNat hl fun ad ⟨ah,am⟩ ae=>?_
 conv=>cbv
 refine .neq (fun h4=>?_) fun h4=>?_
 conv=>cbv
 refine .go i6.toNat hl fun an ⟨af,ag⟩ ai=>?_
 conv=>cbv
 refine .one (⟨af,ag⟩:Aj) ac rfl fun aj z6 ao ak=>?_
 conv=>cbv
 refine .add fun v7 aq=>?_
 conv=>cbv
 exact .go [4] (v7,z6,aj) (hJ _ ⟨_,ak,Q7,by omega,by omega,by rw[show v7.toNat=i6.toNat+1 by omega,I7 ad,←hx,←ae];simp only[];rw[decide_eq_false h4,ai,←ae];rfl,by rw[List.length_append,List.length_singleton];omega⟩ mlt)
 conv=>cbv
 refine .add fun v5 ar=>?_
 conv=>cbv
 exact .go [2] (v5,aa,ab) (hJ _ ⟨_,ac,Q7,by omega,by omega,by rw[show v5.toNat=i6.toNat+1 by omega,I7 ad,←hx,←ae];simp only[];rw[decide_eq_true h4];simp,by omega⟩ mlt)
 conv=>cbv
 have e:w2=Dn l name:=(by unfold Dn;rw[hx,List.take_of_length_le (by omega)])
 rw[hr]at e
 subst e
 exact hQ _ _ (.r rfl rfl (by rw[←ac,List.length_map];first|omega|(simp;omega)) (by rw[←ac,←ho]))
theorem Ip{enam:ByteArray}{eid:Int}{o:List Aj}(hl:l.map Ae=xl)(hn:l.length≤4000000000)(hr:Du l (⟨enam,eid⟩:Aj)=o)(ho:o.map Ae=xo):Fn Tryz.prog 244 [.d (.row 2 xl),.agg [S enam,I eid]] [] ⟨.d (.row 2 xo),[],[]⟩:=by
 refine Fn.go Ir Tryz.func244 fun P hP Q hQ=>?_
 conv=>cbv
 refine LoopW.lp (κ:=Bool×Int×(List (List D))×Nat) Ir hP [2] [0,3] (fun(b6,i7,ad,ae)=>[(5,.ref 3 0 ae),(6,B b6),(7,I i7)]) (fun(b6,i7,ad,ae)=>[(3,.row 2 false ad)])
  (fun(b6,i7,ad,ae)=>∃(w3:List Aj),w3.map Ae=ad∧ae=w3.length∧0≤i7∧i7≤l.length∧w3++Q4 (⟨enam,eid⟩:Aj) (l.drop i7.toNat) b6=Du l (⟨enam,eid⟩:Aj)∧w3.length≤2*i7)
  (fun(b6,i7,ad,ae)=>(l.length - i7).toNat) (false,0,[],0) ⟨[],rfl,rfl,by omega,by omega,rfl,by simp⟩ ⟨rfl,rfl,rfl,trivial⟩ rfl ?_
 rintro⟨b6,i7,ad,ae⟩ J ⟨w3,af,a9,h0,h1,hx,hxl⟩ hJ
 conv=>cbv
 refine .go hl fun v1 bj=>?_
 conv=>cbv
 refine .lss (fun h2=>?_) fun h2=>?_
 conv=>cbv
 cases b6
 conv=>cbv
 refine .go i7.toNat hl fun aq ⟨ac,ak⟩ ab=>?_
 conv=>cbv
 refine .geq fun b4 al=>?_
 conv=>cbv
 cases b4
 conv=>cbv
 refine .go i7.toNat hl fun ar ⟨aa,ag⟩ am=>?_
 conv=>cbv
 obtain⟨rfl,rfl⟩:aa=ac∧ag=ak:=by have:=am.trans ab.symm;rw[Aj.mk.injEq]at this;exact this
 refine .neq (fun h6=>?_) fun h6=>?_
 conv=>cbv
 refine .go i7.toNat hl fun ba ⟨ah,an⟩ az=>?_
 conv=>cbv
 obtain⟨rfl,rfl⟩:ah=aa∧an=ag:=by have:=az.trans am.symm;rw[Aj.mk.injEq]at this;exact this
 refine .one (⟨ah,an⟩:Aj) af rfl fun a0 z8 bb a1=>?_
 conv=>cbv
 refine .add fun v9 bk=>?_
 conv=>cbv
 have hlt:ltB ah enam=true:=by simpa using al
 have hps:=Mw (show i7.toNat<l.length by omega) ab hx
 simp only[]at hps
 rw[hlt,if_neg (by simp),if_neg h6,List.nil_append,←List.append_assoc]at hps
 exact .go [5] (false,v9,z8,a0) (hJ _ ⟨_,a1,Q7,by omega,by omega,by rw[show v9.toNat=i7.toNat+1 by omega];exact hps,by first|omega|(simp;omega)⟩ mlt)
 conv=>cbv
 refine .add fun v7 a2=>?_
 conv=>cbv
 have hlt:ltB aa enam=true:=by simpa using al
 have hps:=Mw (show i7.toNat<l.length by omega) ab hx
 simp only[]at hps
 rw[hlt,if_neg (by simp),if_pos h6,List.nil_append,List.nil_append]at hps
 exact .go [3] (false,v7,ad,ae) (hJ _ ⟨_,af,Q7,by omega,by omega,by rw[show v7.toNat=i7.toNat+1 by omega];exact hps,by first|omega|(simp;omega)⟩ mlt)
 conv=>cbv
 refine .one (⟨enam,eid⟩:Aj) af rfl fun a3 z5 bc au=>?_
 conv=>cbv
 refine .go i7.toNat hl fun bd ⟨ai,ao⟩ aw=>?_
 conv=>cbv
 obtain⟨rfl,rfl⟩:ai=ac∧ao=ak:=by have:=aw.trans ab.symm;rw[Aj.mk.injEq]at this;exact this
 refine .neq (fun h7=>?_) fun h7=>?_
 conv=>cbv
 refine .go i7.toNat hl fun be ⟨aj,ap⟩ a4=>?_
 conv=>cbv
 obtain⟨rfl,rfl⟩:aj=ai∧ap=ao:=by have:=a4.trans aw.symm;rw[Aj.mk.injEq]at this;exact this
 refine .one (⟨aj,ap⟩:Aj) au rfl fun a5 z9 bf a6=>?_
 conv=>cbv
 refine .add fun ax bg=>?_
 conv=>cbv
 have hlt:ltB aj enam=false:=by simpa using al
 have hps:=Mw (show i7.toNat<l.length by omega) ab hx
 simp only[]at hps
 rw[hlt,if_pos (by simp),if_neg h7,←List.append_assoc,←List.append_assoc]at hps
 exact .go [7] (true,ax,z9,a5) (hJ _ ⟨_,a6,Q7,by omega,by omega,by rw[show ax.toNat=i7.toNat+1 by omega];exact hps,by first|omega|(simp;omega)⟩ mlt)
 conv=>cbv
 refine .add fun v8 bl=>?_
 conv=>cbv
 have hlt:ltB ai enam=false:=by simpa using al
 have hps:=Mw (show i7.toNat<l.length by omega) ab hx
 simp only[]at hps
 rw[hlt,if_pos (by simp),if_pos h7,List.nil_append,←List.append_assoc]at hps
 exact .go [5] (true,v8,z5,a3) (hJ _ ⟨_,au,Q7,by omega,by omega,by rw[show v8.toNat=i7.toNat+1 by omega];exact hps,by first|omega|(simp;omega)⟩ mlt)
 conv=>cbv
 refine .go i7.toNat hl fun aq ⟨ac,ak⟩ ab=>?_
 conv=>cbv
 refine .neq (fun h4=>?_) fun h4=>?_
 conv=>cbv
 refine .go i7.toNat hl fun ar ⟨aa,ag⟩ am=>?_
 conv=>cbv
 obtain⟨rfl,rfl⟩:aa=ac∧ag=ak:=by have:=am.trans ab.symm;rw[Aj.mk.injEq]at this;exact this
 refine .one (⟨aa,ag⟩:Aj) af rfl fun a7 z6 bh a8=>?_
 conv=>cbv
 refine .add fun v7 a2=>?_
 conv=>cbv
 have hps:=Mw (show i7.toNat<l.length by omega) ab hx
 simp only[]at hps
 rw[if_neg (by simp),if_neg h4,List.nil_append,←List.append_assoc]at hps
 exact .go [5] (true,v7,z6,a7) (hJ _ ⟨_,a8,Q7,by omega,by omega,by rw[show v7.toNat=i7.toNat+1 by omega];exact hps,by first|omega|(simp;omega)⟩ mlt)
 conv=>cbv
 refine .add fun v5 bm=>?_
 conv=>cbv
 have hps:=Mw (show i7.toNat<l.length by omega) ab hx
 simp only[]at hps
 rw[if_neg (by simp),if_pos h4,List.nil_append,List.nil_append]at hps
 exact .go [3] (true,v5,ad,ae) (hJ _ ⟨_,af,Q7,by omega,by omega,by rw[show v5.toNat=i7.toNat+1 by omega];exact hps,by first|omega|(simp;omega)⟩ mlt)
 conv=>cbv
 cases b6
 conv=>cbv
 refine .one (⟨enam,eid⟩:Aj) af rfl fun bn z3 bi ay=>?_
 conv=>cbv
 have e:(w3++[(⟨enam,eid⟩:Aj)])=Du l (⟨enam,eid⟩:Aj):=(by rw[List.drop_of_length_le (by omega)]at hx;exact hx)
 rw[hr]at e
 subst e
 exact hQ _ _ (.r rfl rfl (by rw[←ay,List.length_map];first|omega|(simp;omega)) (by rw[←ay,←ho]))
 conv=>cbv
 have e:w3=Du l (⟨enam,eid⟩:Aj):=(by rw[List.drop_of_length_le (by omega)]at hx;simpa[Q4]using hx)
 rw[hr]at e
 subst e
 exact hQ _ _ (.r rfl rfl (by rw[←af,List.length_map];first|omega|(simp;omega)) (by rw[←af,←ho]))
end
section
open Go Go.Proofs
set_option maxRecDepth 20000
set_option maxHeartbeats 4000000
def Ru:List (Nat×TyRow):=[ty3,ty9,Xc3,Xde,XaI]
theorem Zb:By Tryz.prog Ru:=By.of (by kernel_rfl)
theorem Xf6:Setup Tryz.prog Ru:=⟨Zb,mixed⟩
theorem diskOk_iff{d:Ac}:B0 d=true↔(0≤d.room_∧d.room_≤1000000000)∧(1≤d.next_∧d.next_≤1000000000)∧Dg d=true∧D4 d≤d.room_∧El d d.old_ d.steps_=true:=by
 unfold B0 Bi Bh
 simp only[Bool.and_eq_true,decide_eq_true_eq,and_assoc]
theorem C2{d:Ac}(h:¬B0 d=true):false=B0 d:=by
 symm
 rw[Bool.eq_false_iff]
 exact h
theorem Vx{d:Ac}{now:List Aj}{l:List ByteArray}(h:A9 d now=false):El d now l=false:=by
 cases l with
 |nil=>unfold El;rw[h];rfl
 |cons=>unfold El;rw[h];rfl
def Lb:List Aj→List ByteArray→List Aj×Bool
 |now,[]=>(now,true)
 |now,s::ss=>if(Ay now s).2=false then([],false)else Lb (Ay now s).1 ss
theorem Qp:Setup Tryz.prog ((3000001,D2 Tryz.prog 3000001)::Ru):=(Setup.mark 3000001 Xf6)
theorem Rp{Ah:List Bs}{Bo:List (List D)}{Al:List Aj}{Bm:List (List D)}{Ak:List Aj}{Bl:List (List D)}{Ai:List ByteArray}{Bn:List (List D)}{An:Int}{Am:Int}{o:Bool}(Aq:Ah.map A5=Bo)(As:Al.map Ae=Bm)(Av:Ak.map Ae=Bl)(At:Ai.map cS=Bn)(ab:H0 ⟨Ah,Al,Ak,Ai,An,Am⟩)(hr:B0 (⟨Ah,Al,Ak,Ai,An,Am⟩:Ac)=o):Fn Tryz.prog 87 [.agg [.d (.row 3 Bo),.d (.row 2 Bm),.d (.row 2 Bl),.d (.row 1 Bn),I An,I Am]] [] ⟨B o,[],[]⟩:=by
 refine Fn.go Qp Tryz.func87 fun P hP Q hQ=>?_
 conv=>cbv
 generalize ad:Bi An=r1
 refine .dd hP (Fj ad) ?_
 cases r1
 simp only[Bi,decide_eq_true_eq,decide_eq_false_iff_not]at ad
 conv=>cbv
 refine .go2 (by kernel_rfl) ?_
 conv=>cbv
 have e:false=B0 (⟨Ah,Al,Ak,Ai,An,Am⟩:Ac):=(by exact C2 fun h=>by rw[diskOk_iff]at h;exact ad h.1)
 rw[hr]at e
 subst e
 exact hQ _ _ (.b rfl rfl)
 simp only[Bi,decide_eq_true_eq,decide_eq_false_iff_not]at ad
 conv=>cbv
 generalize ae:Bh Am 1 1000000000=r2
 refine .dd hP (Eb ae) ?_
 cases r2
 simp only[Bh,decide_eq_true_eq,decide_eq_false_iff_not]at ae
 conv=>cbv
 refine .go2 (by kernel_rfl) ?_
 conv=>cbv
 have e:false=B0 (⟨Ah,Al,Ak,Ai,An,Am⟩:Ac):=(by exact C2 fun h=>by rw[diskOk_iff]at h;exact ae h.2.1)
 rw[hr]at e
 subst e
 exact hQ _ _ (.b rfl rfl)
 simp only[Bh,decide_eq_true_eq,decide_eq_false_iff_not]at ae
 conv=>cbv
 generalize am:Dg (⟨Ah,Al,Ak,Ai,An,Am⟩:Ac)=r3
 refine .dd hP (Ta Aq As Av At ab.1 (by omega) am) ?_
 cases r3
 conv=>cbv
 refine .go2 (by kernel_rfl) ?_
 conv=>cbv
 have e:false=B0 (⟨Ah,Al,Ak,Ai,An,Am⟩:Ac):=(by exact C2 fun h=>by rw[diskOk_iff]at h;have:=h.2.2.1;rw[am]at this;cases this)
 rw[hr]at e
 subst e
 exact hQ _ _ (.b rfl rfl)
 conv=>cbv
 generalize an:D4 (⟨Ah,Al,Ak,Ai,An,Am⟩:Ac)=r4
 refine .dd hP (Wi Aq As Av At ab.1 an) ?_
 conv=>cbv
 refine .gtr (fun h5=>?_) fun h5=>?_
 conv=>cbv
 refine .go2 (by kernel_rfl) ?_
 conv=>cbv
 have e:false=B0 (⟨Ah,Al,Ak,Ai,An,Am⟩:Ac):=(by exact C2 fun h=>by rw[diskOk_iff]at h;have:=h.2.2.2.1;rw[an]at this;simp only[]at this;omega)
 rw[hr]at e
 subst e
 exact hQ _ _ (.b rfl rfl)
 conv=>cbv
 refine .go2 (by kernel_rfl) ?_
 conv=>cbv
 have hdo:Ak.length≤1000000000:=ab.1.2.2.2.2.1
 have hds:Ai.length≤1000000000:=ab.1.2.2.2.2.2
 generalize aq:Cq Ak=l6
 generalize ar:l6.map Ae=az
 refine .dd hP (Cb Av (by omega) aq ar) ?_
 conv=>cbv
 have af:l6=Ak:=aq.symm
 refine LoopW.lp (κ:=(List (List D))×Int) Qp hP [] [1] (fun(ac,i4)=>[(3,.d (.row 2 ac)),(4,I i4)]) (fun(ac,i4)=>[])
  (fun(ac,i4)=>∃(u3:List Aj),u3.map Ae=ac∧0≤i4∧i4≤Ai.length∧El (⟨Ah,Al,Ak,Ai,An,Am⟩:Ac) Ak Ai=El (⟨Ah,Al,Ak,Ai,An,Am⟩:Ac) u3 (Ai.drop i4.toNat)∧okL u3∧u3.length≤1000000000)
  (fun(ac,i4)=>(Ai.length - i4).toNat) (az,0) ⟨l6,ar,by omega,by omega,by rw[af];rfl,by rw[af];exact ab.2.1,by rw[af];omega⟩ ⟨rfl,rfl,trivial⟩ rfl ?_
 rintro⟨ac,i4⟩ J ⟨u3,ao,h0,h1,hio,hul,hun⟩ hJ
 conv=>cbv
 generalize ag:A9 (⟨Ah,Al,Ak,Ai,An,Am⟩:Ac) u3=r7
 refine .dd hP (Qf Aq As Av At ao ab.1 hul (by omega) ag) ?_
 cases r7
 conv=>cbv
 have e:false=B0 (⟨Ah,Al,Ak,Ai,An,Am⟩:Ac):=(by exact C2 fun h=>by rw[diskOk_iff]at h;have hk:=h.2.2.2.2;simp only[]at hk;rw[hio]at hk;rw[Vx ag]at hk;cases hk)
 rw[hr]at e
 subst e
 exact hQ _ _ (.b rfl rfl)
 conv=>cbv
 have a1:=XbP ag
 refine .go At fun v8 a3=>?_
 conv=>cbv
 refine .eql (fun h9=>?_) fun h9=>?_
 conv=>cbv
 generalize ah:Hz u3 Al=a0
 refine .dd hP (Jb ao As (by omega) ah) ?_
 cases a0
 conv=>cbv
 have e:false=B0 (⟨Ah,Al,Ak,Ai,An,Am⟩:Ac):=(by exact C2 fun h=>by rw[diskOk_iff]at h;have hk:=h.2.2.2.2;simp only[]at hk;rw[hio]at hk;rw[List.drop_of_length_le (by omega)]at hk;unfold El at hk;rw[ah,Bool.and_false]at hk;cases hk)
 rw[hr]at e
 subst e
 exact hQ _ _ (.b rfl rfl)
 conv=>cbv
 have e:true=B0 (⟨Ah,Al,Ak,Ai,An,Am⟩:Ac):=(by symm;rw[diskOk_iff];refine⟨ad,ae,am,by rw[an];exact h5,?_⟩;simp only[];rw[hio,List.drop_of_length_le (by omega)];unfold El;rw[ag,ah];rfl)
 rw[hr]at e
 subst e
 exact hQ _ _ (.b rfl rfl)
 conv=>cbv
 refine .go i4.toNat At fun ai aj al=>?_
 conv=>cbv
 have au:aj.size≤1000000000:=al▸ab.2.2 _ (List.getElem_mem ai)
 have hdc:Ai.drop i4.toNat=aj::Ai.drop (i4.toNat+1):=by rw[List.drop_eq_getElem_cons ai,←al]
 rw[hdc]at hio
 rcases aa:Ay u3 aj with⟨aw,ax⟩
 generalize ak:aw.map Ae=ap
 refine .dd hP (Pn ao (by omega) (by omega) aa ak) ?_
 conv=>cbv
 have hsl:=O4 aa
 have hso:=Wl hul au aa
 cases ax
 conv=>cbv
 have e:false=B0 (⟨Ah,Al,Ak,Ai,An,Am⟩:Ac):=(by exact C2 fun h=>by rw[diskOk_iff]at h;have hk:=h.2.2.2.2;simp only[]at hk;rw[hio]at hk;unfold El at hk;rw[aa,Bool.and_false]at hk;cases hk)
 rw[hr]at e
 subst e
 exact hQ _ _ (.b rfl rfl)
 conv=>cbv
 refine .add fun ay a2=>?_
 conv=>cbv
 exact .go [] (ap,ay) (hJ _ ⟨_,ak,by omega,by omega,by rw[hio,show ay.toNat=i4.toNat+1 by omega];show(A9 _ _&&(Ay u3 aj).2&&El _ (Ay u3 aj).1 _)=_;rw[ag,aa];rfl,hso,by omega⟩ mlt)
end
section
open Go Go.Proofs
set_option maxRecDepth 20000
set_option maxHeartbeats 4000000
def Sn:List (Nat×TyRow):=[ty3,ty5,ty9]
theorem Yw:By Tryz.prog Sn:=By.of (by kernel_rfl)
theorem XgG:Setup Tryz.prog Sn:=⟨Yw,mixed⟩
theorem Kv{a b:ByteArray}(h:a.data.toList=b.data.toList):a=b:=ByteArray.ext (Array.toList_inj.1 h)
theorem Cu(s:ByteArray)(a b:Nat):(s.extract a b).data.toList=(s.data.toList.take b).drop a:=by
 rw[ByteArray.data_extract,Array.toList_extract,List.extract_eq_take_drop,List.drop_take]
theorem Ml{c:UInt8}:∀(l:List UInt8) (k:Nat),l[k]? =some c→(∀j,j<k→∀x,l[j]? =some x→x≠c)→Lib.indexByte l c=k
 |[],k,h,_=>by simp at h
 |b::l,0,h,_=>by
  simp at h
  simp[Lib.indexByte,h]
 |b::l,k+1,h,hb=>by
  have h0:=hb 0 (by omega) b rfl
  have ih:=Ml l k (by simpa using h) (fun j hj x hx=>hb (j+1) (by omega) x (by simpa using hx))
  unfold Lib.indexByte
  rw[if_neg (by simpa using h0),ih,if_neg (by simp)]
  omega
theorem Ql{c:UInt8}:∀(l:List UInt8),(∀(j:Nat) x,l[j]? =some x→x≠c)→Lib.indexByte l c= -1
 |[],_=>rfl
 |b::l,hb=>by
  have h0:=hb 0 b rfl
  have ih:=Ql l (fun j x hx=>hb (j+1) x (by simpa using hx))
  unfold Lib.indexByte
  rw[if_neg (by simpa using h0),ih,if_pos (by rfl)]
theorem u8_58{x:UInt8}:x≠58↔x.toNat≠58:=⟨fun h e=>h (UInt8.toNat_inj.1 e),fun h e=>h (by rw[e];rfl)⟩
theorem Xcs{s:ByteArray}{j:Nat}{x:UInt8}(h:(s.extract 1 s.size).data.toList[j]? =some x):∃hj:j+1<s.size,s[j+1]=x:=by
 rw[Cu,List.getElem?_drop,List.take_of_length_le (by rw[Array.length_toList];exact Nat.le_refl _)]at h
 have hl:1+j<s.size:=by
  have:=(List.getElem?_eq_some_iff.1 h).1
  rwa[Array.length_toList]at this
 refine⟨by omega,?_⟩
 rw[show 1+j=j+1 by omega,Kr (show j+1<s.size by omega)]at h
 exact Option.some.inj h
theorem Qd{s:ByteArray}{i:Nat}(h1:1≤i)(hi:i<s.size)(h:(s[i]).toNat=58)(hb:∀j,1≤j→j<i→∀hj:j<s.size,(s[j]).toNat≠58):Jp (s.extract 1 s.size)=(s.extract 1 i,s.extract (i+1) s.size,true):=by
 obtain⟨k,rfl⟩:∃k,i=k+1:=⟨i - 1,by omega⟩
 have hsz:(s.extract 1 s.size).size=s.size - 1:=by rw[ByteArray.size_extract];omega
 have e:H5 (s.extract 1 s.size)=(k:Int):=by
  refine Ml _ k ?_ ?_
  ·rw[Cu,List.getElem?_drop,List.take_of_length_le (by rw[Array.length_toList];exact Nat.le_refl _),show 1+k=k+1 by omega,Kr hi]
   exact congrArg some (UInt8.toNat_inj.1 h)
  ·intro j hj x hx
   obtain⟨aa,rfl⟩:=Xcs hx
   exact u8_58.2 (hb (j+1) (by omega) (by omega) aa)
 unfold Jp
 rw[e,if_pos (by omega),Int.toNat_natCast,hsz]
 have a1:(s.extract 1 s.size).extract 0 k=s.extract 1 (k+1):=by
  apply Kv
  rw[Cu,Cu,Cu,List.drop_zero,List.take_of_length_le (l:=s.data.toList) (by rw[Array.length_toList];exact Nat.le_refl _),List.drop_take,Nat.add_sub_cancel]
 have a2:(s.extract 1 s.size).extract (k+1) (s.size - 1)=s.extract (k+1+1) s.size:=by
  apply Kv
  rw[Cu,Cu,Cu,List.take_of_length_le (l:=s.data.toList) (by rw[Array.length_toList];exact Nat.le_refl _),List.take_of_length_le (by rw[List.length_drop,Array.length_toList];exact Nat.le_refl _),List.drop_drop]
  congr 1
  omega
 rw[a1,a2]
theorem XfP{s:ByteArray}(hb:∀j,1≤j→∀hj:j<s.size,(s[j]).toNat≠58):(Jp (s.extract 1 s.size)).2.2=false:=by
 have e:H5 (s.extract 1 s.size)= -1:=by
  refine Ql _ ?_
  intro j x hx
  obtain⟨aa,rfl⟩:=Xcs hx
  exact u8_58.2 (hb (j+1) (by omega) aa)
 unfold Jp
 rw[e,if_neg (by omega)]
def Bk(s:ByteArray):ByteArray×ByteArray×Int×Bool:=
 if s.size<2∨(s.data.toList.head?≠some 43∧s.data.toList.head?≠some 45∧s.data.toList.head?≠some 62)then(tx [],tx [],0,false)
 else if s.data.toList.head?=some 45 then(s.extract 1 s.size,tx [],0,true)
 else if(Jp (s.extract 1 s.size)).2.2=false then(tx [],tx [],0,false)
 else if s.data.toList.head?=some 62 then((Jp (s.extract 1 s.size)).1,(Jp (s.extract 1 s.size)).2.1,0,Bg (Jp (s.extract 1 s.size)).2.1&& !decide ((Jp (s.extract 1 s.size)).1=(Jp (s.extract 1 s.size)).2.1))
 else((Jp (s.extract 1 s.size)).1,tx [],(A6 (Jp (s.extract 1 s.size)).2.1).1,(A6 (Jp (s.extract 1 s.size)).2.1).2&&Bg (Jp (s.extract 1 s.size)).1)
theorem Iw{s:ByteArray}{v:Int}{n:Nat}(h0:0<s.size)(hv:v=((s[0]).toNat:Int))(h:v≠(n:Int))(hn:n<256):s.data.toList.head?≠some (UInt8.ofNat n):=by
 rw[Jk h0]
 intro e
 exact XfZ hv h hn (Option.some.inj e)
theorem J7{s:ByteArray}{v:Int}{n:Nat}(h0:0<s.size)(hv:v=((s[0]).toNat:Int))(h:v=(n:Int))(hn:n<256):s.data.toList.head?=some (UInt8.ofNat n):=(Jk h0).trans (congrArg some (Xgk hv h hn))
section
variable {s a b:ByteArray}
theorem Ve(h:s.size<2∨(s.data.toList.head?≠some 43∧s.data.toList.head?≠some 45∧s.data.toList.head?≠some 62)):(tx [],tx [],0,false)=Bk s:=by unfold Bk;rw[if_pos h]
theorem Yd(h2:2≤s.size)(h:s.data.toList.head?=some 45):(s.extract 1 s.size,tx [],0,true)=Bk s:=by
 unfold Bk
 rw[if_neg (by rw[h];rintro(h|h);omega;exact h.2.1 rfl),if_pos h]
theorem Xe(h2:2≤s.size)(hh:s.data.toList.head?=some 43∨s.data.toList.head?=some 45∨s.data.toList.head?=some 62)(h45:s.data.toList.head?≠some 45)(hc:(Jp (s.extract 1 s.size)).2.2=false):(tx [],tx [],0,false)=Bk s:=by
 unfold Bk
 rw[if_neg (by rintro(h|⟨k1,k2,k3⟩);omega;rcases hh with h|h|h;exact k1 h;exact k2 h;exact k3 h),if_neg h45,if_pos hc]
theorem Rn(h2:2≤s.size)(h:s.data.toList.head?=some 62)(hc:Jp (s.extract 1 s.size)=(a,b,true)):Bk s=(a,b,0,Bg b&& !decide (a=b)):=by
 unfold Bk
 rw[if_neg (by rw[h];rintro(h|h);omega;exact h.2.2 rfl),if_neg (by rw[h];decide),hc,if_neg (by simp),if_pos h]
theorem Rt(h2:2≤s.size)(h:s.data.toList.head?=some 43)(hc:Jp (s.extract 1 s.size)=(a,b,true)):Bk s=(a,tx [],(A6 b).1,(A6 b).2&&Bg a):=by
 unfold Bk
 rw[if_neg (by rw[h];rintro(h|h);omega;exact h.1 rfl),if_neg (by rw[h];decide),hc,if_neg (by simp),if_neg (by rw[h];decide)]
end
theorem Ko:Setup Tryz.prog ((3000009,D2 Tryz.prog 3000009)::((3000012,D2 Tryz.prog 3000012)::((1000026,D2 Tryz.prog 1000026)::Sn))):=(Setup.mark 3000009 (Setup.mark 3000012 (Setup.mark 1000026 XgG)))
theorem Xe4{step:ByteArray}{oa:ByteArray}{ob:ByteArray}{oc:Int}{od:Bool}(hs:step.size≤1000000000)(hr:Bk step=(oa,ob,oc,od)):Fn Tryz.prog 241 [S step] [] ⟨.tup [S oa,S ob,I oc,B od],[],[]⟩:=by
 refine Fn.go Ko Tryz.func241 fun P hP Q hQ=>?_
 conv=>cbv
 refine JoinW.jn (κ:=Unit) Ko hP [] [0] (fun()=>[]) (fun()=>[])
  (fun()=>2≤step.size∧(step.data.toList.head?=some 43∨step.data.toList.head?=some 45∨step.data.toList.head?=some 62)) (fun Jj hJj=>?_) ?_
 conv=>cbv
 refine .go fun v1 an=>?_
 conv=>cbv
 refine .lss (fun h2=>?_) fun h2=>?_
 conv=>cbv
 have e:((tx []),(tx []),0,false)=Bk step:=(by exact Ve (.inl (by omega)))
 rw[hr]at e
 simp only[Prod.mk.injEq]at e
 obtain⟨rfl,rfl,rfl,rfl⟩:=e
 refine hQ _ _ ?_
 exact .many (.inl rfl) rfl rfl (.d rfl rfl (.d rfl rfl (.d rfl rfl (.d rfl rfl (.nil)))))
 conv=>cbv
 refine .go 0 fun hjv3 v3 aw bv3=>?_
 conv=>cbv
 refine .neq (fun h4=>?_) fun h4=>?_
 conv=>cbv
 refine .go 0 fun hjv5 v5 ax bv5=>?_
 conv=>cbv
 refine .neq (fun h6=>?_) fun h6=>?_
 conv=>cbv
 refine .go 0 fun hjv7 v7 ac bv7=>?_
 conv=>cbv
 refine .neq (fun h8=>?_) fun h8=>?_
 conv=>cbv
 have e:((tx []),(tx []),0,false)=Bk step:=(by exact Ve (.inr ⟨(Iw (n:=43) (show 0<step.size by omega) aw (by omega) (by decide)),(Iw (n:=45) (show 0<step.size by omega) ax (by omega) (by decide)),(Iw (n:=62) (show 0<step.size by omega) ac (by omega) (by decide))⟩))
 rw[hr]at e
 simp only[Prod.mk.injEq]at e
 obtain⟨rfl,rfl,rfl,rfl⟩:=e
 refine hQ _ _ ?_
 exact .many (.inl rfl) rfl rfl (.d rfl rfl (.d rfl rfl (.d rfl rfl (.d rfl rfl (.nil)))))
 conv=>cbv
 exact .go [] (()) (hJj _ ⟨by omega,.inr (.inr (J7 (n:=62) (show 0<step.size by omega) ac (by omega) (by decide)))⟩)
 conv=>cbv
 exact .go [] (()) (hJj _ ⟨by omega,.inr (.inl (J7 (n:=45) (show 0<step.size by omega) ax (by omega) (by decide)))⟩)
 conv=>cbv
 exact .go [] (()) (hJj _ ⟨by omega,.inl (J7 (n:=43) (show 0<step.size by omega) aw (by omega) (by decide))⟩)
 rintro⟨⟩ ⟨ag,hh0⟩
 conv=>cbv
 refine .go 0 fun hjv1 v1 an bv1=>?_
 conv=>cbv
 refine .eql (fun h2=>?_) fun h2=>?_
 conv=>cbv
 refine .lo fun s3 be=>?_
 conv=>cbv
 have e:(s3,(tx []),0,true)=Bk step:=(by rw[be];exact Yd ag (J7 (n:=45) (show 0<step.size by omega) an (by omega) (by decide)))
 rw[hr]at e
 simp only[Prod.mk.injEq]at e
 obtain⟨rfl,rfl,rfl,rfl⟩:=e
 refine hQ _ _ ?_
 exact .many (.inl rfl) rfl rfl (.d rfl rfl (.d rfl rfl (.d rfl rfl (.d rfl rfl (.nil)))))
 conv=>cbv
 refine LoopW.lp (κ:=Int) Ko hP [] [0] (fun i6=>[(6,I i6)]) (fun i6=>[])
  (fun i6=>1≤i6∧i6≤step.size∧∀j,1≤j→j<i6.toNat→∀hj:j<step.size,(step[j]).toNat≠58)
  (fun i6=>(step.size - i6).toNat) (1) ⟨by omega,by omega,fun j h1 h2=>by omega⟩ ⟨rfl,trivial⟩ rfl ?_
 rintro i6 J1 ⟨h0,h1,hb⟩ bf
 conv=>cbv
 refine .go fun v3 aw=>?_
 conv=>cbv
 refine .lss (fun h4=>?_) fun h4=>?_
 conv=>cbv
 refine .go i6.toNat fun hjv5 v5 ax bv5=>?_
 conv=>cbv
 refine .eql (fun h6=>?_) fun h6=>?_
 conv=>cbv
 refine .go 0 fun hjv7 v7 ac bv7=>?_
 conv=>cbv
 refine .eql (fun h8=>?_) fun h8=>?_
 conv=>cbv
 refine .lohi fun s9 ay=>?_
 conv=>cbv
 refine .add fun az bh=>?_
 conv=>cbv
 refine .lo fun a0 ao=>?_
 conv=>cbv
 refine .add fun a1 bi=>?_
 conv=>cbv
 refine .lo fun ah ad=>?_
 conv=>cbv
 have a6:ah.size≤step.size:=by rw[ad,ByteArray.size_extract];omega
 generalize aa:Bg ah=a2
 refine .dd hP (Mp (by omega) aa) ?_
 cases a2
 conv=>cbv
 refine .go2 (by kernel_rfl) ?_
 conv=>cbv
 have e:(s9,a0,0,false)=Bk step:=(by have hm:=Rn ag (J7 (n:=62) (show 0<step.size by omega) ac (by omega) (by decide)) (Qd (s:=step) (i:=i6.toNat) (by omega) (by omega) (by omega) hb);have ai:ah=step.extract (i6.toNat+1) step.size:=(by rw[ad,show a1.toNat=i6.toNat+1 by omega]);rw[ai]at aa;rw[hm,ay,ao,aa,show az.toNat=i6.toNat+1 by omega];rfl)
 rw[hr]at e
 simp only[Prod.mk.injEq]at e
 obtain⟨rfl,rfl,rfl,rfl⟩:=e
 refine hQ _ _ ?_
 exact .many (.inl rfl) rfl rfl (.d rfl rfl (.d rfl rfl (.d rfl rfl (.d rfl rfl (.nil)))))
 conv=>cbv
 refine .lohi fun a3 ae=>?_
 conv=>cbv
 refine .add fun a7 bj=>?_
 conv=>cbv
 refine .lo fun bo au=>?_
 conv=>cbv
 refine .neq (fun h18=>?_) fun h18=>?_
 conv=>cbv
 refine .go2 (by kernel_rfl) ?_
 conv=>cbv
 have e:(s9,a0,0,true)=Bk step:=(by have hm:=Rn ag (J7 (n:=62) (show 0<step.size by omega) ac (by omega) (by decide)) (Qd (s:=step) (i:=i6.toNat) (by omega) (by omega) (by omega) hb);have ai:ah=step.extract (i6.toNat+1) step.size:=(by rw[ad,show a1.toNat=i6.toNat+1 by omega]);rw[ai]at aa;rw[hm,ay,ao,aa,show az.toNat=i6.toNat+1 by omega,decide_eq_false (show¬step.extract 1 i6.toNat=step.extract (i6.toNat+1) step.size from fun e=>h18 (by rw[ae,au,show a7.toNat=i6.toNat+1 by omega];exact e))];rfl)
 rw[hr]at e
 simp only[Prod.mk.injEq]at e
 obtain⟨rfl,rfl,rfl,rfl⟩:=e
 refine hQ _ _ ?_
 exact .many (.inl rfl) rfl rfl (.d rfl rfl (.d rfl rfl (.d rfl rfl (.d rfl rfl (.nil)))))
 conv=>cbv
 refine .go2 (by kernel_rfl) ?_
 conv=>cbv
 have e:(s9,a0,0,false)=Bk step:=(by have hm:=Rn ag (J7 (n:=62) (show 0<step.size by omega) ac (by omega) (by decide)) (Qd (s:=step) (i:=i6.toNat) (by omega) (by omega) (by omega) hb);have ai:ah=step.extract (i6.toNat+1) step.size:=(by rw[ad,show a1.toNat=i6.toNat+1 by omega]);rw[ai]at aa;rw[hm,ay,ao,aa,show az.toNat=i6.toNat+1 by omega,decide_eq_true (show step.extract 1 i6.toNat=step.extract (i6.toNat+1) step.size from by rw[ae,au,show a7.toNat=i6.toNat+1 by omega]at h18;exact h18)];rfl)
 rw[hr]at e
 simp only[Prod.mk.injEq]at e
 obtain⟨rfl,rfl,rfl,rfl⟩:=e
 refine hQ _ _ ?_
 exact .many (.inl rfl) rfl rfl (.d rfl rfl (.d rfl rfl (.d rfl rfl (.d rfl rfl (.nil)))))
 conv=>cbv
 refine .go i6.toNat fun hjv9 v9 a8 bv9=>?_
 conv=>cbv
 refine .eql (fun h10=>?_) fun h10=>?_
 conv=>cbv
 refine .add fun a4 bk=>?_
 conv=>cbv
 refine .lo fun af aj=>?_
 conv=>cbv
 have bl:af.size≤step.size:=by rw[aj,ByteArray.size_extract];omega
 rcases ab:A6 af with⟨ap,a9⟩
 refine .dd hP (Oq (by omega) ab) ?_
 conv=>cbv
 refine .lohi fun a5 aq=>?_
 conv=>cbv
 cases a9
 conv=>cbv
 refine .go2 (by kernel_rfl) ?_
 conv=>cbv
 have e:(a5,(tx []),ap,false)=Bk step:=(by have hm:=Rt ag (hh0.elim id fun h=>h.elim (fun h=>absurd h (Iw (n:=45) (show 0<step.size by omega) an (by omega) (by decide))) fun h=>absurd h (Iw (n:=62) (show 0<step.size by omega) ac (by omega) (by decide))) (Qd (s:=step) (i:=i6.toNat) (by omega) (by omega) (by omega) hb);have ak:af=step.extract (i6.toNat+1) step.size:=(by rw[aj,show a4.toNat=i6.toNat+1 by omega]);rw[ak]at ab;rw[hm,aq,ab];rfl)
 rw[hr]at e
 simp only[Prod.mk.injEq]at e
 obtain⟨rfl,rfl,rfl,rfl⟩:=e
 refine hQ _ _ ?_
 exact .many (.inl rfl) rfl rfl (.d rfl rfl (.d rfl rfl (.d rfl rfl (.d rfl rfl (.nil)))))
 conv=>cbv
 refine .lohi fun a3 ae=>?_
 conv=>cbv
 have bm:a3.size≤step.size:=by rw[ae,ByteArray.size_extract];omega
 generalize al:Bg a3=bg
 refine .dd hP (Mp (by omega) al) ?_
 cases bg
 conv=>cbv
 refine .go2 (by kernel_rfl) ?_
 conv=>cbv
 have e:(a5,(tx []),ap,false)=Bk step:=(by have hm:=Rt ag (hh0.elim id fun h=>h.elim (fun h=>absurd h (Iw (n:=45) (show 0<step.size by omega) an (by omega) (by decide))) fun h=>absurd h (Iw (n:=62) (show 0<step.size by omega) ac (by omega) (by decide))) (Qd (s:=step) (i:=i6.toNat) (by omega) (by omega) (by omega) hb);have ak:af=step.extract (i6.toNat+1) step.size:=(by rw[aj,show a4.toNat=i6.toNat+1 by omega]);rw[ak]at ab;rw[ae]at al;have am:=(show Bg (step.extract 1 i6.toNat)=_ from al);rw[hm,aq,ab,am];rfl)
 rw[hr]at e
 simp only[Prod.mk.injEq]at e
 obtain⟨rfl,rfl,rfl,rfl⟩:=e
 refine hQ _ _ ?_
 exact .many (.inl rfl) rfl rfl (.d rfl rfl (.d rfl rfl (.d rfl rfl (.d rfl rfl (.nil)))))
 conv=>cbv
 refine .go2 (by kernel_rfl) ?_
 conv=>cbv
 have e:(a5,(tx []),ap,true)=Bk step:=(by have hm:=Rt ag (hh0.elim id fun h=>h.elim (fun h=>absurd h (Iw (n:=45) (show 0<step.size by omega) an (by omega) (by decide))) fun h=>absurd h (Iw (n:=62) (show 0<step.size by omega) ac (by omega) (by decide))) (Qd (s:=step) (i:=i6.toNat) (by omega) (by omega) (by omega) hb);have ak:af=step.extract (i6.toNat+1) step.size:=(by rw[aj,show a4.toNat=i6.toNat+1 by omega]);rw[ak]at ab;rw[ae]at al;have am:=(show Bg (step.extract 1 i6.toNat)=_ from al);rw[hm,aq,ab,am];rfl)
 rw[hr]at e
 simp only[Prod.mk.injEq]at e
 obtain⟨rfl,rfl,rfl,rfl⟩:=e
 refine hQ _ _ ?_
 exact .many (.inl rfl) rfl rfl (.d rfl rfl (.d rfl rfl (.d rfl rfl (.d rfl rfl (.nil)))))
 exfalso;omega
 conv=>cbv
 refine .go i6.toNat fun hjv7 v7 ac bv7=>?_
 conv=>cbv
 refine .eql (fun h8=>?_) fun h8=>?_
 conv=>cbv
 refine .add fun v9 a8=>?_
 conv=>cbv
 refine .lo fun ba bb=>?_
 conv=>cbv
 have bn:ba.size≤step.size:=by rw[bb,ByteArray.size_extract];omega
 rcases bc:A6 ba with⟨ar,bd⟩
 refine .dd hP (Oq (by omega) bc) ?_
 conv=>cbv
 refine .lohi fun af aj=>?_
 conv=>cbv
 cases bd
 conv=>cbv
 refine .go2 (by kernel_rfl) ?_
 conv=>cbv
 have e:(af,(tx []),ar,false)=Bk step:=(by exfalso;omega)
 rw[hr]at e
 simp only[Prod.mk.injEq]at e
 obtain⟨rfl,rfl,rfl,rfl⟩:=e
 refine hQ _ _ ?_
 exact .many (.inl rfl) rfl rfl (.d rfl rfl (.d rfl rfl (.d rfl rfl (.d rfl rfl (.nil)))))
 conv=>cbv
 refine .lohi fun ah ad=>?_
 conv=>cbv
 have a6:ah.size≤step.size:=by rw[ad,ByteArray.size_extract];omega
 generalize aa:Bg ah=a2
 refine .dd hP (Mp (by omega) aa) ?_
 cases a2
 conv=>cbv
 refine .go2 (by kernel_rfl) ?_
 conv=>cbv
 have e:(af,(tx []),ar,false)=Bk step:=(by exfalso;omega)
 rw[hr]at e
 simp only[Prod.mk.injEq]at e
 obtain⟨rfl,rfl,rfl,rfl⟩:=e
 refine hQ _ _ ?_
 exact .many (.inl rfl) rfl rfl (.d rfl rfl (.d rfl rfl (.d rfl rfl (.d rfl rfl (.nil)))))
 conv=>cbv
 refine .go2 (by kernel_rfl) ?_
 conv=>cbv
 have e:(af,(tx []),ar,true)=Bk step:=(by exfalso;omega)
 rw[hr]at e
 simp only[Prod.mk.injEq]at e
 obtain⟨rfl,rfl,rfl,rfl⟩:=e
 refine hQ _ _ ?_
 exact .many (.inl rfl) rfl rfl (.d rfl rfl (.d rfl rfl (.d rfl rfl (.d rfl rfl (.nil)))))
 conv=>cbv
 refine .add fun v9 a8=>?_
 conv=>cbv
 exact .go [] (v9) (bf _ ⟨by omega,by omega,fun j k1 k2 hj=>if e:j=i6.toNat then by subst e;omega else hb j k1 (by omega) hj⟩ mlt)
 conv=>cbv
 have e:((tx []),(tx []),0,false)=Bk step:=(by exact Xe ag hh0 (Iw (n:=45) (show 0<step.size by omega) an (by omega) (by decide)) (XfP fun j k1 hj=>hb j k1 (by omega) hj))
 rw[hr]at e
 simp only[Prod.mk.injEq]at e
 obtain⟨rfl,rfl,rfl,rfl⟩:=e
 refine hQ _ _ ?_
 exact .many (.inl rfl) rfl rfl (.d rfl rfl (.d rfl rfl (.d rfl rfl (.d rfl rfl (.nil)))))
end
section
open Go Go.Proofs
set_option maxRecDepth 20000
set_option maxHeartbeats 4000000
def Xay:List (Nat×TyRow):=[ty3,ty5,ty9,Xc3,Xde,XbM]
theorem Yc:By Tryz.prog Xay:=By.of (by kernel_rfl)
theorem Xb8:Setup Tryz.prog Xay:=⟨Yc,mixed⟩
def Dp(l:List Aj)(s:ByteArray):List Aj×Bool:=
 if(Bk s).2.2.2=false∨Bg (Bk s).1=false∨(s.data.toList.head?≠some 43∧Do l (Bk s).1=false)then([],false)
 else if s.data.toList.head?=some 43 then(Du l ⟨(Bk s).1,(Bk s).2.2.1⟩,true)
 else if s.data.toList.head?=some 62 then(Du (Dn l (Bk s).1) ⟨(Bk s).2.1,Cg l (Bk s).1⟩,true)
 else(Dn l (Bk s).1,true)
def B9:List Aj→List ByteArray→List Aj×Bool
 |now,[]=>(now,true)
 |now,s::ss=>if(Dp now s).2=false then([],false)else B9 (Dp now s).1 ss
def Dt(old:List Aj)(steps:List ByteArray)(n:Int):List Aj×Bool:=B9 old (steps.take (E5 n 0 steps.length).toNat)
theorem Xeq{s a b:ByteArray}{c:Int}{d:Bool}(e:Bk s=(a,b,c,d)):(a.size≤s.size∧b.size≤s.size)∧(d=true→2≤s.size∧(s.data.toList.head?=some 43∨s.data.toList.head?=some 45∨s.data.toList.head?=some 62)):=by
 have hz:(s.extract 1 s.size).size≤s.size:=by rw[ByteArray.size_extract];omega
 obtain⟨x,y,z,hc⟩:∃x y z,Jp (s.extract 1 s.size)=(x,y,z):=⟨_,_,_,rfl⟩
 have hcb:=Xd1 hc
 have h0:(tx []).size≤s.size:=by rw[B2];exact Nat.zero_le _
 unfold Bk at e
 rw[hc]at e
 by_cases h1:s.size<2∨(s.data.toList.head?≠some 43∧s.data.toList.head?≠some 45∧s.data.toList.head?≠some 62)
 ·rw[if_pos h1]at e
  simp only[Prod.mk.injEq]at e
  obtain⟨rfl,rfl,rfl,rfl⟩:=e
  exact⟨⟨h0,h0⟩,fun h=>by cases h⟩
 ·rw[if_neg h1]at e
  have hd:2≤s.size∧(s.data.toList.head?=some 43∨s.data.toList.head?=some 45∨s.data.toList.head?=some 62):=by
   refine⟨by omega,?_⟩
   by_cases k1:s.data.toList.head?=some 43
   ·exact .inl k1
   ·by_cases k2:s.data.toList.head?=some 45
    ·exact .inr (.inl k2)
    ·by_cases k3:s.data.toList.head?=some 62
     ·exact .inr (.inr k3)
     ·exact absurd (.inr ⟨k1,k2,k3⟩) h1
  refine⟨?_,fun _=>hd⟩
  split at e
  ·simp only[Prod.mk.injEq]at e
   obtain⟨rfl,rfl,_⟩:=e
   exact⟨hz,h0⟩
  ·split at e
   ·simp only[Prod.mk.injEq]at e
    obtain⟨rfl,rfl,_⟩:=e
    exact⟨h0,h0⟩
   ·split at e
    ·simp only[Prod.mk.injEq]at e
     obtain⟨rfl,rfl,_⟩:=e
     exact⟨by omega,by omega⟩
    ·simp only[Prod.mk.injEq]at e
     obtain⟨rfl,rfl,_⟩:=e
     exact⟨by omega,h0⟩
theorem Ye(e:Aj):∀(l:List Aj) (b:Bool),(Q4 e l b).length≤l.length+(if b=true then 0 else 1)
 |[],b=>by cases b<;>simp[Q4]
 |x::l,b=>by
  have ih:=Ye e l (b|| !(ltB x.name_ e.name_))
  unfold Q4
  rw[List.length_append,List.length_append,List.length_cons]
  cases b<;>cases h:ltB x.name_ e.name_<;>simp only[h,Bool.not_true,Bool.not_false,Bool.or_true,Bool.or_false,Bool.true_or,if_true,Bool.false_eq_true,if_false,true_and,false_and,reduceCtorEq]at ih⊢<;>split<;>simp<;>omega
theorem Ez{l o:List Aj}{e:Aj}(h:Du l e=o):o.length≤l.length+1:=by
 rw[←h]
 exact Ye e l false
theorem I6{l o:List Aj}{n:ByteArray}(h:Dn l n=o):o.length≤l.length:=by
 rw[←h]
 exact List.length_filter_le _ _
theorem u8_h{s:ByteArray}{n:Nat}(h:0<s.size)(e:s.data.toList.head?=some (UInt8.ofNat n))(hn:n<256):(s[0]).toNat=n:=by
 rw[Jk h]at e
 rw[Option.some.inj e,UInt8.toNat_ofNat',Nat.mod_eq_of_lt (by omega)]
section
variable {l:List Aj} {s a b:ByteArray} {c:Int} {d:Bool}
theorem Dz(e:Bk s=(a,b,c,d))(h:d=false∨Bg a=false∨(s.data.toList.head?≠some 43∧Do l a=false)):Dp l s=([],false):=by
 unfold Dp
 rw[e,if_pos h]
theorem Vf(e:Bk s=(a,b,c,true))(hn:Bg a=true)(h:s.data.toList.head?=some 43):Dp l s=(Du l ⟨a,c⟩,true):=by
 unfold Dp
 rw[e,if_neg (by rw[hn,h];simp),if_pos h]
theorem Vz(e:Bk s=(a,b,c,true))(hn:Bg a=true)(hh:Do l a=true)(h:s.data.toList.head?=some 62):Dp l s=(Du (Dn l a) ⟨b,Cg l a⟩,true):=by
 unfold Dp
 rw[e,if_neg (by rw[hn,hh];simp),if_neg (by rw[h];decide),if_pos h]
theorem Tb(e:Bk s=(a,b,c,true))(hn:Bg a=true)(hh:Do l a=true)(h:s.data.toList.head?=some 45):Dp l s=(Dn l a,true):=by
 unfold Dp
 rw[e,if_neg (by rw[hn,hh];simp),if_neg (by rw[h];decide),if_neg (by rw[h];decide)]
end
theorem Sz{old:List Aj}{xold:List (List D)}{steps:List ByteArray}{xsteps:List (List D)}{n:Int}{oa:List Aj}{xoa:List (List D)}{ob:Bool}(hold:old.map Ae=xold)(hsteps:steps.map cS=xsteps)(hol:old.length≤1000000000)(hsl:steps.length≤1000000000)(hss:okS steps)(hr:Dt old steps n=(oa,ob))(hoa:oa.map Ae=xoa):Fn Tryz.prog 163 [.d (.row 2 xold),.d (.row 1 xsteps),I n] [] ⟨.tup [.d (.row 2 xoa),B ob],[],[]⟩:=by
 refine Fn.go Xb8 Tryz.func163 fun P hP Q hQ=>?_
 conv=>cbv
 refine .row0 hold fun da z1 c2 bq=>?_
 conv=>cbv
 refine .go hsteps fun v2 ch=>?_
 conv=>cbv
 generalize bn:E5 n 0 v2=r3
 refine .dd hP (XeT bn) ?_
 conv=>cbv
 have hbr:0≤r3∧r3≤steps.length:=by rw[←bn];unfold E5;split<;>(try split)<;>omega
 refine .frz 2 [8] rfl rfl (by rw[←bq,List.length_map];first|omega|(simp;omega)) ?_
 refine LoopW.lp (κ:=(List (List D))×Int) Xb8 hP [] [1,2] (fun(aj,i9)=>[(8,.d (.row 2 aj)),(9,I i9)]) (fun(aj,i9)=>[])
  (fun(aj,i9)=>∃(u8:List Aj),u8.map Ae=aj∧0≤i9∧i9≤r3∧Dt old steps n=B9 u8 ((steps.take r3.toNat).drop i9.toNat)∧u8.length≤old.length+i9)
  (fun(aj,i9)=>(r3 - i9).toNat) (z1,0) ⟨old,bq,by omega,by omega,by unfold Dt;rw[←ch,bn];rfl,by omega⟩ ⟨rfl,rfl,trivial⟩ rfl ?_
 rintro⟨aj,i9⟩ J ⟨u8,ab,h0,h1,hio,hun⟩ hJ
 conv=>cbv
 refine .lss (fun h4=>?_) fun h4=>?_
 conv=>cbv
 refine .go i9.toNat hsteps fun bt e5 aa=>?_
 conv=>cbv
 have db:e5.size≤1000000000:=aa▸hss _ (List.getElem_mem bt)
 have hdc:(steps.take r3.toNat).drop i9.toNat=e5::(steps.take r3.toNat).drop (i9.toNat+1):=by rw[List.drop_eq_getElem_cons (by rw[List.length_take];omega),List.getElem_take,←aa]
 rw[hdc]at hio
 rcases am:Bk e5 with⟨ag,bf,bg,ci⟩
 refine .dd hP (Xe4 (by omega) am) ?_
 conv=>cbv
 have hlf:=Xeq am
 cases ci
 conv=>cbv
 have e:([],false)=Dt old steps n:=(by rw[hio];show _=(if(Dp u8 e5).2=false then _ else _);rw[Dz am (.inl rfl)];rfl)
 rw[hr]at e
 simp only[Prod.mk.injEq]at e
 obtain⟨rfl,rfl⟩:=e
 refine hQ _ _ ?_
 exact .many (.inl rfl) rfl rfl (.ref rfl rfl (by rw[←hoa];rfl) (.d rfl rfl (.nil)))
 conv=>cbv
 obtain⟨h2z,hh0⟩:=hlf.2 rfl
 have h00:0<e5.size:=by omega
 have hh1:(e5[0]).toNat=43∨(e5[0]).toNat=45∨(e5[0]).toNat=62:=hh0.imp (fun h=>u8_h h00 h (by decide)) fun h=>h.imp (fun h=>u8_h h00 h (by decide)) fun h=>u8_h h00 h (by decide)
 generalize az:Bg ag=r7
 refine .dd hP (Mp (by omega) az) ?_
 cases r7
 conv=>cbv
 have e:([],false)=Dt old steps n:=(by rw[hio];show _=(if(Dp u8 e5).2=false then _ else _);rw[Dz am (.inr (.inl az))];rfl)
 rw[hr]at e
 simp only[Prod.mk.injEq]at e
 obtain⟨rfl,rfl⟩:=e
 refine hQ _ _ ?_
 exact .many (.inl rfl) rfl rfl (.ref rfl rfl (by rw[←hoa];rfl) (.d rfl rfl (.nil)))
 conv=>cbv
 refine .go i9.toNat hsteps fun c3 e8 cj=>?_
 conv=>cbv
 obtain rfl:e5=e8:=aa.trans cj.symm
 refine .go 0 fun hjv9 v9 bu bv9=>?_
 conv=>cbv
 refine .neq (fun h10=>?_) fun h10=>?_
 conv=>cbv
 generalize aw:Do u8 ag=ck
 refine .dd hP (Of ab (by omega) aw) ?_
 cases ck
 conv=>cbv
 have e:([],false)=Dt old steps n:=(by rw[hio];show _=(if(Dp u8 e5).2=false then _ else _);rw[Dz am (.inr (.inr ⟨(Iw (n:=43) h00 bu (by omega) (by decide)),aw⟩))];rfl)
 rw[hr]at e
 simp only[Prod.mk.injEq]at e
 obtain⟨rfl,rfl⟩:=e
 refine hQ _ _ ?_
 exact .many (.inl rfl) rfl rfl (.ref rfl rfl (by rw[←hoa];rfl) (.d rfl rfl (.nil)))
 conv=>cbv
 refine .go i9.toNat hsteps fun cm cn bv=>?_
 conv=>cbv
 obtain rfl:e5=cn:=aa.trans bv.symm
 refine .go 0 fun hjv13 dc bw bv13=>?_
 conv=>cbv
 refine .eql (fun h14=>?_) fun h14=>?_
 conv=>cbv
 generalize bi:Cg u8 ag=bz
 refine .dd hP (Lu ab (by omega) bi) ?_
 conv=>cbv
 refine .go i9.toNat hsteps fun co cp b0=>?_
 conv=>cbv
 obtain rfl:e5=cp:=aa.trans b0.symm
 refine .go 0 fun hjv17 de c4 bv17=>?_
 conv=>cbv
 refine .neq (fun h18=>?_) fun h18=>?_
 conv=>cbv
 generalize a0:Dn u8 ag=b2
 have hln19:=I6 a0
 generalize a1:b2.map Ae=b3
 refine .dd hP (Od ab (by omega) a0 a1) ?_
 conv=>cbv
 refine .go i9.toNat hsteps fun cq cr b4=>?_
 conv=>cbv
 obtain rfl:e5=cr:=aa.trans b4.symm
 refine .go 0 fun hjv21 al ax bv21=>?_
 conv=>cbv
 refine .neq (fun h22=>?_) fun h22=>?_
 conv=>cbv
 generalize a2:Du b2 (⟨bf,bz⟩:Aj)=ct
 have hln23:=Ez a2
 generalize bj:ct.map Ae=b5
 refine .dd hP (Ip a1 (by omega) a2 bj) ?_
 conv=>cbv
 refine .add fun b6 c5=>?_
 conv=>cbv
 exact .go [] (b5,b6) (hJ _ ⟨_,bj,by omega,by omega,by rw[hio,show b6.toNat=i9.toNat+1 by omega];show(if(Dp u8 e5).2=false then _ else _)=_;rw[Vz am az aw (J7 (n:=62) h00 bw (by omega) (by decide)),a0,bi,a2];rfl,by omega⟩ mlt)
 conv=>cbv
 refine .add fun au a3=>?_
 conv=>cbv
 exact .go [] (b3,au) (hJ _ ⟨_,a1,by omega,by omega,by exfalso;omega,by exfalso;omega⟩ mlt)
 conv=>cbv
 refine .go i9.toNat hsteps fun a4 a5 an=>?_
 conv=>cbv
 obtain rfl:e5=a5:=aa.trans an.symm
 refine .go 0 fun hjv20 bh ay bv20=>?_
 conv=>cbv
 refine .neq (fun h21=>?_) fun h21=>?_
 conv=>cbv
 generalize ac:Du u8 (⟨ag,bz⟩:Aj)=a6
 have hln22:=Ez ac
 generalize ad:a6.map Ae=ao
 refine .dd hP (Ip ab (by omega) ac ad) ?_
 conv=>cbv
 refine .add fun au a3=>?_
 conv=>cbv
 exact .go [] (ao,au) (hJ _ ⟨_,ad,by omega,by omega,by exfalso;omega,by exfalso;omega⟩ mlt)
 conv=>cbv
 refine .add fun ah ap=>?_
 conv=>cbv
 exact .go [] (aj,ah) (hJ _ ⟨_,ab,by omega,by omega,by exfalso;omega,by exfalso;omega⟩ mlt)
 conv=>cbv
 refine .go i9.toNat hsteps fun bo bp a7=>?_
 conv=>cbv
 obtain rfl:e5=bp:=aa.trans a7.symm
 refine .go 0 fun hjv16 cu b7 bv16=>?_
 conv=>cbv
 refine .neq (fun h17=>?_) fun h17=>?_
 conv=>cbv
 generalize ak:Dn u8 ag=a8
 have hln18:=I6 ak
 generalize ai:a8.map Ae=a9
 refine .dd hP (Od ab (by omega) ak ai) ?_
 conv=>cbv
 refine .go i9.toNat hsteps fun a4 a5 an=>?_
 conv=>cbv
 obtain rfl:e5=a5:=aa.trans an.symm
 refine .go 0 fun hjv20 bh ay bv20=>?_
 conv=>cbv
 refine .neq (fun h21=>?_) fun h21=>?_
 conv=>cbv
 generalize ac:Du a8 (⟨bf,bg⟩:Aj)=a6
 have hln22:=Ez ac
 generalize ad:a6.map Ae=ao
 refine .dd hP (Ip ai (by omega) ac ad) ?_
 conv=>cbv
 refine .add fun au a3=>?_
 conv=>cbv
 exact .go [] (ao,au) (hJ _ ⟨_,ad,by omega,by omega,by exfalso;omega,by exfalso;omega⟩ mlt)
 conv=>cbv
 refine .add fun ah ap=>?_
 conv=>cbv
 exact .go [] (a9,ah) (hJ _ ⟨_,ai,by omega,by omega,by rw[hio,show ah.toNat=i9.toNat+1 by omega];show(if(Dp u8 e5).2=false then _ else _)=_;rw[Tb am az aw (J7 (n:=45) h00 ay (by omega) (by decide)),ak];rfl,by omega⟩ mlt)
 conv=>cbv
 refine .go i9.toNat hsteps fun ba bb aq=>?_
 conv=>cbv
 obtain rfl:e5=bb:=aa.trans aq.symm
 refine .go 0 fun hjv19 b8 bk bv19=>?_
 conv=>cbv
 refine .neq (fun h20=>?_) fun h20=>?_
 conv=>cbv
 generalize ae:Du u8 (⟨ag,bg⟩:Aj)=bc
 have hln21:=Ez ae
 generalize af:bc.map Ae=ar
 refine .dd hP (Ip ab (by omega) ae af) ?_
 conv=>cbv
 refine .add fun ah ap=>?_
 conv=>cbv
 exact .go [] (ar,ah) (hJ _ ⟨_,af,by omega,by omega,by exfalso;omega,by exfalso;omega⟩ mlt)
 conv=>cbv
 refine .add fun al ax=>?_
 conv=>cbv
 exact .go [] (aj,al) (hJ _ ⟨_,ab,by omega,by omega,by exfalso;omega,by exfalso;omega⟩ mlt)
 conv=>cbv
 refine .go i9.toNat hsteps fun cv cw b9=>?_
 conv=>cbv
 obtain rfl:e5=cw:=aa.trans b9.symm
 refine .go 0 fun hjv12 df c6 bv12=>?_
 conv=>cbv
 refine .eql (fun h13=>?_) fun h13=>?_
 conv=>cbv
 generalize ca:Cg u8 ag=cb
 refine .dd hP (Lu ab (by omega) ca) ?_
 conv=>cbv
 refine .go i9.toNat hsteps fun bo bp a7=>?_
 conv=>cbv
 obtain rfl:e5=bp:=aa.trans a7.symm
 refine .go 0 fun hjv16 cu b7 bv16=>?_
 conv=>cbv
 refine .neq (fun h17=>?_) fun h17=>?_
 conv=>cbv
 generalize ak:Dn u8 ag=a8
 have hln18:=I6 ak
 generalize ai:a8.map Ae=a9
 refine .dd hP (Od ab (by omega) ak ai) ?_
 conv=>cbv
 refine .go i9.toNat hsteps fun a4 a5 an=>?_
 conv=>cbv
 obtain rfl:e5=a5:=aa.trans an.symm
 refine .go 0 fun hjv20 bh ay bv20=>?_
 conv=>cbv
 refine .neq (fun h21=>?_) fun h21=>?_
 conv=>cbv
 generalize ac:Du a8 (⟨bf,cb⟩:Aj)=a6
 have hln22:=Ez ac
 generalize ad:a6.map Ae=ao
 refine .dd hP (Ip ai (by omega) ac ad) ?_
 conv=>cbv
 refine .add fun au a3=>?_
 conv=>cbv
 exact .go [] (ao,au) (hJ _ ⟨_,ad,by omega,by omega,by exfalso;omega,by exfalso;omega⟩ mlt)
 conv=>cbv
 refine .add fun ah ap=>?_
 conv=>cbv
 exact .go [] (a9,ah) (hJ _ ⟨_,ai,by omega,by omega,by exfalso;omega,by exfalso;omega⟩ mlt)
 conv=>cbv
 refine .go i9.toNat hsteps fun ba bb aq=>?_
 conv=>cbv
 obtain rfl:e5=bb:=aa.trans aq.symm
 refine .go 0 fun hjv19 b8 bk bv19=>?_
 conv=>cbv
 refine .neq (fun h20=>?_) fun h20=>?_
 conv=>cbv
 generalize ae:Du u8 (⟨ag,cb⟩:Aj)=bc
 have hln21:=Ez ae
 generalize af:bc.map Ae=ar
 refine .dd hP (Ip ab (by omega) ae af) ?_
 conv=>cbv
 refine .add fun ah ap=>?_
 conv=>cbv
 exact .go [] (ar,ah) (hJ _ ⟨_,af,by omega,by omega,by exfalso;omega,by exfalso;omega⟩ mlt)
 conv=>cbv
 refine .add fun al ax=>?_
 conv=>cbv
 exact .go [] (aj,al) (hJ _ ⟨_,ab,by omega,by omega,by exfalso;omega,by exfalso;omega⟩ mlt)
 conv=>cbv
 refine .go i9.toNat hsteps fun cx cy cc=>?_
 conv=>cbv
 obtain rfl:e5=cy:=aa.trans cc.symm
 refine .go 0 fun hjv15 dg c8 bv15=>?_
 conv=>cbv
 refine .neq (fun h16=>?_) fun h16=>?_
 conv=>cbv
 generalize bl:Dn u8 ag=cd
 have hln17:=I6 bl
 generalize bd:cd.map Ae=ce
 refine .dd hP (Od ab (by omega) bl bd) ?_
 conv=>cbv
 refine .go i9.toNat hsteps fun ba bb aq=>?_
 conv=>cbv
 obtain rfl:e5=bb:=aa.trans aq.symm
 refine .go 0 fun hjv19 b8 bk bv19=>?_
 conv=>cbv
 refine .neq (fun h20=>?_) fun h20=>?_
 conv=>cbv
 generalize ae:Du cd (⟨bf,bg⟩:Aj)=bc
 have hln21:=Ez ae
 generalize af:bc.map Ae=ar
 refine .dd hP (Ip bd (by omega) ae af) ?_
 conv=>cbv
 refine .add fun ah ap=>?_
 conv=>cbv
 exact .go [] (ar,ah) (hJ _ ⟨_,af,by omega,by omega,by exfalso;omega,by exfalso;omega⟩ mlt)
 conv=>cbv
 refine .add fun al ax=>?_
 conv=>cbv
 exact .go [] (ce,al) (hJ _ ⟨_,bd,by omega,by omega,by exfalso;omega,by exfalso;omega⟩ mlt)
 conv=>cbv
 refine .go i9.toNat hsteps fun cz c0 cf=>?_
 conv=>cbv
 obtain rfl:e5=c0:=aa.trans cf.symm
 refine .go 0 fun hjv18 dh c9 bv18=>?_
 conv=>cbv
 refine .neq (fun h19=>?_) fun h19=>?_
 conv=>cbv
 generalize be:Du u8 (⟨ag,bg⟩:Aj)=c1
 have hln20:=Ez be
 generalize bm:c1.map Ae=cg
 refine .dd hP (Ip ab (by omega) be bm) ?_
 conv=>cbv
 refine .add fun al ax=>?_
 conv=>cbv
 exact .go [] (cg,al) (hJ _ ⟨_,bm,by omega,by omega,by rw[hio,show al.toNat=i9.toNat+1 by omega];show(if(Dp u8 e5).2=false then _ else _)=_;rw[Vf am az (J7 (n:=43) h00 bu (by omega) (by decide)),be];rfl,by omega⟩ mlt)
 conv=>cbv
 refine .add fun bh ay=>?_
 conv=>cbv
 exact .go [] (aj,bh) (hJ _ ⟨_,ab,by omega,by omega,by exfalso;omega,by exfalso;omega⟩ mlt)
 conv=>cbv
 have e:(u8,true)=Dt old steps n:=(by rw[hio,List.drop_of_length_le (by rw[List.length_take];omega)];rfl)
 rw[hr]at e
 simp only[Prod.mk.injEq]at e
 obtain⟨rfl,rfl⟩:=e
 refine hQ _ _ ?_
 exact .many (.inl rfl) rfl rfl (.d rfl (Ag ab hoa) (.d rfl rfl (.nil)))
end
section
open Go Go.Proofs
set_option maxRecDepth 20000
set_option maxHeartbeats 4000000
def Tt:List (Nat×TyRow):=[ty3,ty9,Xc3,Xd8,Xde,XaI,Xx]
theorem XaA:By Tryz.prog Tt:=By.of (by kernel_rfl)
theorem XgQ:Setup Tryz.prog Tt:=⟨XaA,mixed⟩
theorem Xau(a:List UInt8):Op.bytesLess a a=false:=by
 cases h:Op.bytesLess a a with
 |false=>rfl
 |true=>have:=K1 a a h;rw[h]at this;cases this
theorem Sl:∀a b c:List UInt8,Op.bytesLess a b=true→Op.bytesLess b c=true→Op.bytesLess a c=true
 |_,[],_,h,_=>by simp[Op.bytesLess]at h
 |_,_::_,[],_,h=>by simp[Op.bytesLess]at h
 |[],_::_,_::_,_,_=>by simp[Op.bytesLess]
 |a::x,b::y,c::z,h1,h2=>by
  simp only[Op.bytesLess,Bool.or_eq_true,decide_eq_true_eq,Bool.and_eq_true,beq_iff_eq]at h1 h2⊢
  rcases h1 with h1|⟨rfl,h1⟩
  ·rcases h2 with h2|⟨rfl,h2⟩
   ·exact .inl (UInt8.lt_trans h1 h2)
   ·exact .inl h1
  ·rcases h2 with h2|⟨rfl,h2⟩
   ·exact .inl h2
   ·exact .inr ⟨rfl,Sl x y z h1 h2⟩
theorem V2(a:ByteArray):ltB a a=false:=Xau _
theorem Zt{a b c:ByteArray}(h:ltB a b=true)(k:ltB b c=true):ltB a c=true:=Sl _ _ _ h k
theorem XfJ{a b:ByteArray}(h:ltB a b=true):a≠b:=by
 rintro rfl
 rw[V2]at h
 cases h
theorem Xhj{a b:ByteArray}(h:ltB a b=false)(hn:a≠b):ltB b a=true:=by
 have:=XbD a b
 rw[h]at this
 simp only[Bool.not_false,Bool.true_eq,Bool.or_eq_true,decide_eq_true_eq]at this
 exact this.resolve_right fun e=>hn e.symm
def srt(l:List Aj):Prop:=l.Pairwise fun a b=>ltB a.name_ b.name_=true
theorem XaH{α:Type}{p:α→Bool}{x:α}{l:List α}:Ub p (x::l)=if p x=true then 0 else if Ub p l<0 then -1 else Ub p l+1:=by
 unfold Ub
 rw[List.findIdx_cons]
 cases hp:p x with
 |true=>simp
 |false=>
  simp only[List.length_cons,cond_false,Bool.false_eq_true,if_false]
  by_cases h:l.findIdx p<l.length
  ·rw[if_pos (show l.findIdx p+1<l.length+1 by omega),if_pos h,if_neg (show¬(l.findIdx p:Int)<0 by omega)]
   omega
  ·rw[if_neg (show¬l.findIdx p+1<l.length+1 by omega),if_neg h,if_pos (by decide)]
theorem M7{x:Aj}{l:List Aj}{n:ByteArray}:A7 (x::l) n=if x.name_=n then 0 else if A7 l n<0 then -1 else A7 l n+1:=by
 show Ub (fun e=>Bz e n) (x::l)=_
 rw[XaH]
 unfold Bz
 simp only[decide_eq_true_eq]
 rfl
theorem Xh{l:List Aj}{n:ByteArray}: -1≤A7 l n:=(Hg rfl).1
theorem Xgw{l:List Aj}{n:ByteArray}(h:∀x∈l,x.name_≠n):A7 l n<0:=by
 have hb:=Xh (l:=l) (n:=n)
 rcases Int.lt_or_le (A7 l n) 0 with k|k
 ·exact k
 ·obtain⟨hi,hp⟩:=Ws (p:=fun e=>Bz e n) (rfl:A7 l n=_) k
  unfold Bz at hp
  rw[decide_eq_true_eq]at hp
  exact absurd hp (h _ (List.getElem_mem hi))
theorem Wp{l:List Aj}{n:ByteArray}{i k:Int}(h:A7 l n=k)(hk:0≤k):Sd l n i=l.set k.toNat ⟨(l.getD k.toNat ⟨tx [],0⟩).name_,i⟩:=by
 subst h
 exact if_pos hk
theorem Oh{l:List Aj}{n:ByteArray}{i k:Int}(h:A7 l n<0)(hk:B4 l n=k):Sd l n i=Hb l (if k<0 then l.length else k) [⟨n,i⟩]:=by
 subst hk
 exact if_neg (by omega)
theorem Xfv{x:Aj}{l:List Aj}{n:ByteArray}{i:Int}:Sd (x::l) n i=if x.name_=n then⟨n,i⟩::l else if A7 l n<0∧I4 x n=true then⟨n,i⟩::x::l else x::Sd l n i:=by
 have hb:=Xh (l:=l) (n:=n)
 by_cases hx:x.name_=n
 ·rw[if_pos hx,Wp (k:=0) (by rw[M7,if_pos hx]) (by decide)]
  simp[hx]
 ·rw[if_neg hx]
  by_cases hp:A7 l n<0
  ·have hpc:A7 (x::l) n<0:=by rw[M7,if_neg hx,if_pos hp];decide
   have hc:B4 (x::l) n=if I4 x n=true then 0 else if B4 l n<0 then -1 else B4 l n+1:=XaH (p:=fun e=>I4 e n)
   by_cases h1:I4 x n=true
   ·rw[if_pos ⟨hp,h1⟩,Oh hpc (k:=0) (by rw[hc,if_pos h1]),if_neg (by decide)]
    simp[Hb]
   ·rw[if_neg (fun h=>h1 h.2)]
    by_cases h2:B4 l n<0
    ·rw[Oh hpc (k:=-1) (by rw[hc,if_neg h1,if_pos h2]),if_pos (by decide),Oh hp rfl,if_pos h2]
     simp[Hb]
    ·rw[Oh hpc (by rw[hc,if_neg h1,if_neg h2]),if_neg (by omega),Oh hp rfl,if_neg h2]
     unfold Hb
     rw[show(B4 l n+1).toNat=(B4 l n).toNat+1 by omega]
     simp
  ·rw[if_neg (fun h=>hp h.1),Wp (k:=A7 l n+1) (by rw[M7,if_neg hx,if_neg hp]) (by omega),Wp (l:=l) rfl (by omega),show(A7 l n+1).toNat=(A7 l n).toNat+1 by omega]
   simp
theorem Pr{e:Aj}:∀{l:List Aj},(∀x∈l,x.name_≠e.name_)→Q4 e l true=l
 |[],_=>rfl
 |x::l,h=>by
  unfold Q4
  rw[if_neg (by simp),if_neg (h x List.mem_cons_self),Bool.true_or,Pr fun y hy=>h y (List.mem_cons_of_mem _ hy)]
  rfl
theorem Xct{n:ByteArray}{i:Int}:∀{l:List Aj},srt l→Du l ⟨n,i⟩=Sd l n i
 |[],_=>rfl
 |x::l,h=>by
  have hs:=List.pairwise_cons.1 h
  have ih:=Xct (n:=n) (i:=i) hs.2
  unfold Du at ih⊢
  rw[Xfv]
  unfold Q4
  by_cases hx:x.name_=n
  ·rw[if_pos hx,hx,V2,if_pos ⟨rfl,rfl⟩,if_pos rfl,Bool.not_false,Bool.or_true,Pr (fun y hy e=>by
    have:=hs.1 y hy
    rw[hx]at this
    exact XfJ this e.symm)]
   rfl
  ·rw[if_neg hx,if_neg hx]
   cases hl:ltB x.name_ n with
   |true=>
    rw[if_neg (by simp),if_neg (by unfold I4;rw[hl];simp),Bool.not_true,Bool.or_false,ih]
    rfl
   |false=>
    have hg:=Xhj hl hx
    have hne:∀y∈l,y.name_≠n:=fun y hy e=>XfJ (Zt hg (hs.1 y hy)) e.symm
    rw[if_pos ⟨rfl,rfl⟩,if_pos ⟨Xgw hne,by unfold I4;rw[hl,decide_eq_false hx];rfl⟩,Bool.not_false,Bool.or_true,Pr hne]
    rfl
theorem XaQ{n:ByteArray}:∀{l:List Aj},srt l→0≤A7 l n→Dn l n=l.eraseIdx (A7 l n).toNat
 |[],_,h=>by
  exfalso
  have:A7 [] n= -1:=rfl
  omega
 |x::l,h,hp=>by
  have hs:=List.pairwise_cons.1 h
  have hb:=Xh (l:=l) (n:=n)
  rw[M7]at hp⊢
  unfold Dn
  rw[List.filter_cons]
  by_cases hx:x.name_=n
  ·rw[if_pos hx,decide_eq_true hx]
   have:l.filter (fun x=>!decide (x.name_=n))=l:=by
    rw[List.filter_eq_self]
    intro y hy
    rw[decide_eq_false]
    ·rfl
    ·rintro rfl
     exact XfJ (hs.1 y hy) hx
   simp[this]
  ·rw[if_neg hx]at hp⊢
   rw[decide_eq_false hx]
   by_cases h2:A7 l n<0
   ·rw[if_pos h2]at hp;omega
   ·rw[if_neg h2,show(A7 l n+1).toNat=(A7 l n).toNat+1 by omega,List.eraseIdx_cons_succ,←XaQ hs.2 (by omega)]
    rfl
theorem Xe9{d:Ac}{l:List Aj}(h:A9 d l=true){i:Nat}(hi:i<l.length):Em d l i=true:=by
 unfold A9 at h
 rw[Bool.and_eq_true]at h
 exact List.all_eq_true.1 h.1 i (List.mem_range.2 hi)
theorem Xeo{d:Ac}{l:List Aj}(h:A9 d l=true){i:Nat}(hi:i+1<l.length):ltB l[i].name_ l[i+1].name_=true:=by
 have h1:=Xe9 h hi
 unfold Em at h1
 rw[XbE hi rfl,show i+1 - 1=i by omega,XbE (show i<l.length by omega) rfl,decide_eq_false (show¬i+1=0 by omega),Bool.false_or,←XbD]at h1
 simp only[Bool.not_not,Bool.and_eq_true]at h1
 exact h1.1.1
theorem Xfn{d:Ac}{l:List Aj}(h:A9 d l=true):srt l:=by
 have key:∀(k i:Nat) (hk:i+1+k<l.length),ltB l[i].name_ l[i+1+k].name_=true:=by
  intro k
  induction k with
  |zero=>intro i hk;exact Xeo h hk
  |succ k ih=>intro i hk;exact Zt (ih i (by omega)) (Xeo h (i:=i+1+k) (by omega))
 refine List.pairwise_iff_getElem.2 fun i j hi hj hij=>?_
 have:=key (j - i - 1) i (by omega)
 simpa only[show i+1+(j - i - 1)=j by omega]using this
theorem XgO{l:List Aj}{n:ByteArray}(h:srt l):srt (Dn l n):=List.Pairwise.filter _ h
theorem Rx{l:List Aj}{s:ByteArray}(h:srt l):Dp l s=Ay l s:=by
 by_cases hne:s=tx []
 ·subst hne
  rw[XcA rfl]
  exact Dz (a:=tx []) (b:=tx []) (c:=0) (d:=false) rfl (.inl rfl)
 have hp:=Xb3 hne
 have hhd:=Jk hp
 obtain⟨a,b,c,hc⟩:∃a b c,Jp (s.extract 1 s.size)=(a,b,c):=⟨_,_,_,rfl⟩
 have hlt2:c=true→2≤s.size:=by
  rintro rfl
  unfold Jp at hc
  split at hc
  ·rename_i h0
   have:=(Uo (rfl:H5 (s.extract 1 s.size)=_)).2
   rw[ByteArray.size_extract]at this
   omega
  ·simp at hc
 by_cases h43:s.data.toList.head?=some 43
 ·rw[Ki hne h43 hc]
  cases c with
  |false=>
   rw[if_pos (.inl rfl)]
   by_cases aa:s.size<2
   ·exact Dz (Ve (.inl aa)).symm (.inl rfl)
   ·exact Dz (Xe (by omega) (.inl h43) (by rw[h43];decide) (by rw[hc])).symm (.inl rfl)
  |true=>
   have hm:=Rt (hlt2 rfl) h43 hc
   cases hr:(A6 b).2 with
   |false=>rw[if_pos (.inr (.inl rfl))];exact Dz hm (.inl (by rw[hr];rfl))
   |true=>
    cases hn:Bg a with
    |false=>rw[if_pos (.inr (.inr rfl))];exact Dz hm (.inr (.inl hn))
    |true=>
     rw[if_neg (by simp)]
     rw[hr,hn]at hm
     rw[Vf hm hn h43,Xct h]
 ·by_cases h45:s.data.toList.head?=some 45
  ·rw[Vi hne h45]
   by_cases aa:s.size<2
   ·have e:s.extract 1 s.size=tx []:=by
     apply Kv
     rw[Cu,List.drop_of_length_le (by rw[List.length_take,Array.length_toList];show min _ s.size≤1;omega)]
     rfl
    rw[Dz (Ve (.inl aa)).symm (.inl rfl),e]
    unfold Gs
    rw[if_pos (.inr (by decide))]
   ·have hm:=(Yd (by omega) h45).symm
    unfold Gs
    by_cases hpl:A7 l (s.extract 1 s.size)<0
    ·rw[if_pos (.inl hpl)]
     exact Dz hm (.inr (.inr ⟨h43,by unfold Do;rw[decide_eq_false_iff_not];omega⟩))
    ·cases hn:Bg (s.extract 1 s.size)with
     |false=>rw[if_pos (.inr rfl)];exact Dz hm (.inr (.inl hn))
     |true=>
      rw[if_neg (by rintro(k|k);exact hpl k;cases k),Tb hm hn (by unfold Do;rw[decide_eq_true_eq];omega) h45,XaQ h (by omega)]
      rfl
  ·by_cases h62:s.data.toList.head?=some 62
   ·rw[Kk hne h62 hc]
    cases c with
    |false=>
     rw[if_pos (.inl rfl)]
     by_cases aa:s.size<2
     ·exact Dz (Ve (.inl aa)).symm (.inl rfl)
     ·exact Dz (Xe (by omega) (.inr (.inr h62)) h45 (by rw[hc])).symm (.inl rfl)
    |true=>
     have hm:=Rn (hlt2 rfl) h62 hc
     cases hnb:Bg b with
     |false=>rw[if_pos (.inr (.inr (.inl rfl)))];exact Dz hm (.inl (by rw[hnb];rfl))
     |true=>
      by_cases hab:a=b
      ·rw[if_pos (.inr (.inr (.inr hab)))];exact Dz hm (.inl (by rw[hnb,decide_eq_true hab];rfl))
      ·rw[hnb,decide_eq_false hab]at hm
       by_cases hpl:A7 l a<0
       ·have hd:Gs l a=([],false):=by unfold Gs;rw[if_pos (.inl hpl)]
        rw[hd,if_pos (.inr (.inl rfl))]
        exact Dz hm (.inr (.inr ⟨h43,by unfold Do;rw[decide_eq_false_iff_not];omega⟩))
       ·cases hn:Bg a with
        |false=>
         have hd:Gs l a=([],false):=by unfold Gs;rw[if_pos (.inr hn)]
         rw[hd,if_pos (.inr (.inl rfl))]
         exact Dz hm (.inr (.inl hn))
        |true=>
         have hd:Gs l a=(Dn l a,true):=by unfold Gs;rw[if_neg (by rw[hn];rintro(k|k);exact hpl k;cases k),XaQ h (by omega)];rfl
         rw[hd,if_neg (by simp;exact hab),Vz hm hn (by unfold Do;rw[decide_eq_true_eq];omega) h62,Xct (XgO h)]
   ·rw[Ym hne hhd (fun e=>h43 (by rw[hhd,e])) (fun e=>h45 (by rw[hhd,e])) (fun e=>h62 (by rw[hhd,e]))]
    exact Dz (Ve (.inr ⟨h43,h45,h62⟩)).symm (.inl rfl)
def X5(d:Ac)(k:Nat):Bool:=if(B9 d.old_ (d.steps_.take k)).2=true then El d (B9 d.old_ (d.steps_.take k)).1 (d.steps_.drop k)else false
theorem Xcq{s:ByteArray}:∀(l:List ByteArray) (now:List Aj),B9 now (l++[s])=if(B9 now l).2=true then(if(Dp (B9 now l).1 s).2=false then([],false)else Dp (B9 now l).1 s)else([],false)
 |[],now=>by
  show(if(Dp now s).2=false then _ else B9 (Dp now s).1 [])=if true=true then _ else _
  rw[if_pos rfl]
  cases h:Dp now s with
  |mk x b=>cases b<;>simp[B9,h]
 |y::l,now=>by
  show(if(Dp now y).2=false then _ else B9 (Dp now y).1 (l++[s]))=if(if(Dp now y).2=false then _ else B9 (Dp now y).1 l).2=true then _ else _
  by_cases h:(Dp now y).2=false
  ·rw[if_pos h,if_pos h,if_neg (by decide)]
  ·rw[if_neg h,if_neg h,Xcq l]
   have e:B9 now (y::l)=B9 (Dp now y).1 l:=if_neg h
   rw[e]
theorem Xcv{d:Ac}{k:Nat}{x:List Aj}(hk:k<d.steps_.length)(h:B9 d.old_ (d.steps_.take k)=(x,true))(hr:A9 d x=true):B9 d.old_ (d.steps_.take (k+1))=if(Ay x d.steps_[k]).2=false then([],false)else Ay x d.steps_[k]:=by
 rw[List.take_succ_eq_append_getElem hk,Xcq,h,if_pos rfl,Rx (Xfn hr)]
theorem XdP{d:Ac}{k:Nat}{x:List Aj}(hk:k<d.steps_.length)(h:B9 d.old_ (d.steps_.take k)=(x,true))(hr:A9 d x=true):X5 d (k+1)=X5 d k:=by
 obtain⟨y,b,hy⟩:∃y b,Ay x d.steps_[k]=(y,b):=⟨_,_,rfl⟩
 unfold X5
 rw[Xcv hk h hr,h,if_pos (show(x,true).2=true from rfl),List.drop_eq_getElem_cons hk]
 show _=(A9 d x&&(Ay x d.steps_[k]).2&&El d (Ay x d.steps_[k]).1 _)
 rw[hr,hy]
 cases b<;>rfl
theorem Yb{old:List Aj}{steps:List ByteArray}{k:Int}(h0:0≤k)(h1:k≤steps.length):Dt old steps k=B9 old (steps.take k.toNat):=by
 unfold Dt
 rw[show E5 k 0 steps.length=k from by unfold E5;split<;>(try split)<;>(try split)<;>omega]
def Xgx(d:Ac)(k:Nat):Prop:=El d d.old_ d.steps_=X5 d k∧okL (B9 d.old_ (d.steps_.take k)).1∧(B9 d.old_ (d.steps_.take k)).1.length≤1000000000
theorem XdB{d:Ac}(hd:H0 d):Xgx d 0:=⟨rfl,hd.2.1,hd.1.2.2.2.2.1⟩
theorem XdR{d:Ac}(hd:H0 d){k:Nat}{x:List Aj}(hq:Xgx d k)(hk:k<d.steps_.length)(h:B9 d.old_ (d.steps_.take k)=(x,true))(hr:A9 d x=true):Xgx d (k+1):=by
 obtain⟨h1,h2,h3⟩:=hq
 have hx:=XbP hr
 rw[h]at h2 h3
 refine⟨by rw[h1,XdP hk h hr],?_⟩
 rw[Xcv hk h hr]
 obtain⟨y,b,hy⟩:∃y b,Ay x d.steps_[k]=(y,b):=⟨_,_,rfl⟩
 have hl:=O4 hy
 have ho:=Wl h2 (hd.2.2 _ (List.getElem_mem hk)) hy
 rw[hy]
 cases b
 ·exact⟨fun e he=>(by cases he),Nat.zero_le _⟩
 ·exact⟨ho,by show y.length≤_;omega⟩
theorem Lw:Setup Tryz.prog ((3000007,D2 Tryz.prog 3000007)::((3000001,D2 Tryz.prog 3000001)::Tt)):=(Setup.mark 3000007 (Setup.mark 3000001 XgQ))
theorem Rl{Ah:List Bs}{Bo:List (List D)}{Al:List Aj}{Bm:List (List D)}{Ak:List Aj}{Bl:List (List D)}{Ai:List ByteArray}{Bn:List (List D)}{An:Int}{Am:Int}{o:Bool}(Aq:Ah.map A5=Bo)(As:Al.map Ae=Bm)(Av:Ak.map Ae=Bl)(At:Ai.map cS=Bn)(ac:H0 ⟨Ah,Al,Ak,Ai,An,Am⟩)(hr:B0 (⟨Ah,Al,Ak,Ai,An,Am⟩:Ac)=o):Fn Tryz.prog 84 [.agg [.d (.row 3 Bo),.d (.row 2 Bm),.d (.row 2 Bl),.d (.row 1 Bn),I An,I Am]] [] ⟨B o,[],[]⟩:=by
 refine Fn.go Lw Tryz.func84 fun P hP Q hQ=>?_
 conv=>cbv
 refine .go Aq fun v1 bg=>?_
 conv=>cbv
 have hdo:Ak.length≤1000000000:=ac.1.2.2.2.2.1
 have hds:Ai.length≤1000000000:=ac.1.2.2.2.2.2
 refine .gtr (fun h2=>?_) fun h2=>?_
 conv=>cbv
 refine .go2 (by kernel_rfl) ?_
 conv=>cbv
 have e:false=B0 (⟨Ah,Al,Ak,Ai,An,Am⟩:Ac):=(by exact C2 fun h=>by rw[diskOk_iff]at h;have:=h.2.2.1;unfold Dg at this;rw[decide_eq_false (by simp only[];omega),Bool.and_false]at this;cases this)
 rw[hr]at e
 subst e
 exact hQ _ _ (.b rfl rfl)
 conv=>cbv
 generalize af:A8 An 0 1000000000=r3
 refine .dd hP (Cy af) ?_
 cases r3
 simp only[A8,decide_eq_true_eq,decide_eq_false_iff_not]at af
 conv=>cbv
 refine .go2 (by kernel_rfl) ?_
 conv=>cbv
 have e:false=B0 (⟨Ah,Al,Ak,Ai,An,Am⟩:Ac):=(by exact C2 fun h=>by rw[diskOk_iff]at h;exact af h.1)
 rw[hr]at e
 subst e
 exact hQ _ _ (.b rfl rfl)
 simp only[A8,decide_eq_true_eq,decide_eq_false_iff_not]at af
 conv=>cbv
 generalize ag:A8 Am 1 1000000000=r4
 refine .dd hP (Cy ag) ?_
 cases r4
 simp only[A8,decide_eq_true_eq,decide_eq_false_iff_not]at ag
 conv=>cbv
 refine .go2 (by kernel_rfl) ?_
 conv=>cbv
 have e:false=B0 (⟨Ah,Al,Ak,Ai,An,Am⟩:Ac):=(by exact C2 fun h=>by rw[diskOk_iff]at h;exact ag h.2.1)
 rw[hr]at e
 subst e
 exact hQ _ _ (.b rfl rfl)
 simp only[A8,decide_eq_true_eq,decide_eq_false_iff_not]at ag
 conv=>cbv
 generalize aq:D4 (⟨Ah,Al,Ak,Ai,An,Am⟩:Ac)=r5
 refine .dd hP (Xj Aq As Av At ac.1 aq) ?_
 conv=>cbv
 refine .gtr (fun h6=>?_) fun h6=>?_
 conv=>cbv
 refine .go2 (by kernel_rfl) ?_
 conv=>cbv
 have e:false=B0 (⟨Ah,Al,Ak,Ai,An,Am⟩:Ac):=(by exact C2 fun h=>by rw[diskOk_iff]at h;have:=h.2.2.2.1;rw[aq]at this;simp only[]at this;omega)
 rw[hr]at e
 subst e
 exact hQ _ _ (.b rfl rfl)
 conv=>cbv
 refine .go2 (by kernel_rfl) ?_
 conv=>cbv
 refine LoopW.lp (κ:=Int) Lw hP [] [1] (fun i3=>[(3,I i3)]) (fun i3=>[])
  (fun i3=>0≤i3∧i3≤Ah.length∧∀j:Nat,j<i3.toNat→D1 (⟨Ah,Al,Ak,Ai,An,Am⟩:Ac) j=true)
  (fun i3=>(Ah.length - i3).toNat) (0) ⟨by omega,by omega,fun j h=>by simp at h⟩ ⟨rfl,trivial⟩ rfl ?_
 rintro i3 J ⟨h0,h1,hb⟩ hJ
 have bh:Ah.length≤1000000000:=ac.1.1
 conv=>cbv
 refine .go Aq fun v7 bi=>?_
 conv=>cbv
 refine .lss (fun h8=>?_) fun h8=>?_
 conv=>cbv
 refine .go i3.toNat Aq fun ad ⟨aw,a3,ah⟩ a4=>?_
 conv=>cbv
 refine .sub fun a5 be=>?_
 conv=>cbv
 have hnd:=Xgp (d:=(⟨Ah,Al,Ak,Ai,An,Am⟩:Ac)) ad a4
 generalize ab:A8 aw 1 a5=a6
 refine .dd hP (Cy ab) ?_
 cases a6
 simp only[A8,decide_eq_true_eq,decide_eq_false_iff_not]at ab
 conv=>cbv
 refine .go2 (by kernel_rfl) ?_
 conv=>cbv
 have e:false=B0 (⟨Ah,Al,Ak,Ai,An,Am⟩:Ac):=(by exact C2 fun h=>by rw[diskOk_iff]at h;have h3:=h.2.2.1;rw[←Ii (d:=(⟨Ah,Al,Ak,Ai,An,Am⟩:Ac)) ad (by unfold D1;rw[decide_eq_false_iff_not,hnd];simp only[];omega)]at h3;cases h3)
 rw[hr]at e
 subst e
 exact hQ _ _ (.b rfl rfl)
 simp only[A8,decide_eq_true_eq,decide_eq_false_iff_not]at ab
 conv=>cbv
 refine .gtr (fun h12=>?_) fun h12=>?_
 conv=>cbv
 refine .sub fun ai ao=>?_
 conv=>cbv
 refine .go ai.toNat Aq fun ar ⟨a7,a1,a2⟩ ax=>?_
 conv=>cbv
 have hpd:=Xgp (d:=(⟨Ah,Al,Ak,Ai,An,Am⟩:Ac)) ar ax
 rw[show ai.toNat=i3.toNat - 1 by omega]at hpd
 refine .geq (fun h15=>?_) fun h15=>?_
 conv=>cbv
 refine .go2 (by kernel_rfl) ?_
 conv=>cbv
 have e:false=B0 (⟨Ah,Al,Ak,Ai,An,Am⟩:Ac):=(by exact C2 fun h=>by rw[diskOk_iff]at h;have h3:=h.2.2.1;rw[←Ii (d:=(⟨Ah,Al,Ak,Ai,An,Am⟩:Ac)) ad (by unfold D1;rw[decide_eq_false_iff_not,hnd];simp only[];rw[hpd];simp only[];omega)]at h3;cases h3)
 rw[hr]at e
 subst e
 exact hQ _ _ (.b rfl rfl)
 conv=>cbv
 refine .go fun au ay=>?_
 conv=>cbv
 generalize aj:A8 ah 0 au=a8
 refine .dd hP (Cy aj) ?_
 cases a8
 simp only[A8,decide_eq_true_eq,decide_eq_false_iff_not]at aj
 conv=>cbv
 refine .go2 (by kernel_rfl) ?_
 conv=>cbv
 have e:false=B0 (⟨Ah,Al,Ak,Ai,An,Am⟩:Ac):=(by exact C2 fun h=>by rw[diskOk_iff]at h;have h3:=h.2.2.1;rw[←Ii (d:=(⟨Ah,Al,Ak,Ai,An,Am⟩:Ac)) ad (by unfold D1;rw[decide_eq_false_iff_not,hnd];simp only[];omega)]at h3;cases h3)
 rw[hr]at e
 subst e
 exact hQ _ _ (.b rfl rfl)
 simp only[A8,decide_eq_true_eq,decide_eq_false_iff_not]at aj
 conv=>cbv
 refine .go2 (by kernel_rfl) ?_
 conv=>cbv
 refine .add fun a9 bf=>?_
 conv=>cbv
 exact .go [] (a9) (hJ _ ⟨by omega,by omega,fun j h=>if e:j=i3.toNat then by subst e;unfold D1;rw[decide_eq_true_eq,hnd,hpd];simp only[];omega else hb j (by omega)⟩ mlt)
 conv=>cbv
 refine .go fun ai ao=>?_
 conv=>cbv
 generalize ak:A8 ah 0 ai=ba
 refine .dd hP (Cy ak) ?_
 cases ba
 simp only[A8,decide_eq_true_eq,decide_eq_false_iff_not]at ak
 conv=>cbv
 refine .go2 (by kernel_rfl) ?_
 conv=>cbv
 have e:false=B0 (⟨Ah,Al,Ak,Ai,An,Am⟩:Ac):=(by exact C2 fun h=>by rw[diskOk_iff]at h;have h3:=h.2.2.1;rw[←Ii (d:=(⟨Ah,Al,Ak,Ai,An,Am⟩:Ac)) ad (by unfold D1;rw[decide_eq_false_iff_not,hnd];simp only[];omega)]at h3;cases h3)
 rw[hr]at e
 subst e
 exact hQ _ _ (.b rfl rfl)
 simp only[A8,decide_eq_true_eq,decide_eq_false_iff_not]at ak
 conv=>cbv
 refine .go2 (by kernel_rfl) ?_
 conv=>cbv
 refine .add fun an az=>?_
 conv=>cbv
 exact .go [] (an) (hJ _ ⟨by omega,by omega,fun j h=>if e:j=i3.toNat then by subst e;unfold D1;rw[decide_eq_true_eq,hnd];simp only[];omega else hb j (by omega)⟩ mlt)
 conv=>cbv
 refine LoopW.lp (κ:=Int) Lw hP [] [1] (fun i5=>[(5,I i5)]) (fun i5=>[])
  (fun i5=>0≤i5∧i5≤Ai.length+1∧(i5≤Ai.length→Xgx (⟨Ah,Al,Ak,Ai,An,Am⟩:Ac) i5.toNat)∧(i5=Ai.length+1→El (⟨Ah,Al,Ak,Ai,An,Am⟩:Ac) Ak Ai=true))
  (fun i5=>(Ai.length+1 - i5).toNat) (0) ⟨by omega,by omega,fun _=>XdB ac,fun h=>by omega⟩ ⟨rfl,trivial⟩ rfl ?_
 rintro i5 J1 ⟨k0,k1,hQk,hQe⟩ a0
 conv=>cbv
 refine .go At fun v9 bj=>?_
 conv=>cbv
 refine .leq (fun h10=>?_) fun h10=>?_
 conv=>cbv
 have hq:=hQk (by omega)
 have hS0:=Yb (old:=Ak) (steps:=Ai) (k:=i5) (by omega) (by omega)
 rcases ab:Dt Ak Ai i5 with⟨aa,ap⟩
 generalize ae:aa.map Ae=bb
 refine .dd hP (Sz Av At (by omega) (by omega) ac.2.2 ab ae) ?_
 conv=>cbv
 have hS:B9 Ak (Ai.take i5.toNat)=(aa,ap):=hS0.symm.trans ab
 have hul:okL aa:=by have:=hq.2.1;simp only[]at this;rw[hS]at this;exact this
 have hun:aa.length≤1000000000:=by have:=hq.2.2;simp only[]at this;rw[hS]at this;exact this
 cases ap
 conv=>cbv
 have e:false=B0 (⟨Ah,Al,Ak,Ai,An,Am⟩:Ac):=(by exact C2 fun h=>by rw[diskOk_iff]at h;have hk:=h.2.2.2.2;simp only[]at hk;rw[hq.1]at hk;unfold X5 at hk;simp only[]at hk;rw[hS]at hk;cases hk)
 rw[hr]at e
 subst e
 exact hQ _ _ (.b rfl rfl)
 conv=>cbv
 generalize al:Gi (⟨Ah,Al,Ak,Ai,An,Am⟩:Ac) aa=bc
 refine .dd hP (Xav Aq As Av At ae ac.1 hul (by omega) al) ?_
 cases bc
 conv=>cbv
 have e:false=B0 (⟨Ah,Al,Ak,Ai,An,Am⟩:Ac):=(by exact C2 fun h=>by rw[diskOk_iff]at h;have hk:=h.2.2.2.2;simp only[]at hk;rw[hq.1]at hk;unfold X5 at hk;simp only[]at hk;rw[hS]at hk;rw[if_pos rfl,Vx (show A9 _ aa=false from al)]at hk;cases hk)
 rw[hr]at e
 subst e
 exact hQ _ _ (.b rfl rfl)
 conv=>cbv
 have hre:A9 (⟨Ah,Al,Ak,Ai,An,Am⟩:Ac) aa=true:=al
 refine .go At fun ai ao=>?_
 conv=>cbv
 refine .eql (fun h14=>?_) fun h14=>?_
 conv=>cbv
 generalize am:Jm aa Al=bd
 refine .dd hP (XfE ae As (by omega) am) ?_
 cases bd
 conv=>cbv
 have e:false=B0 (⟨Ah,Al,Ak,Ai,An,Am⟩:Ac):=(by exact C2 fun h=>by rw[diskOk_iff]at h;have hk:=h.2.2.2.2;simp only[]at hk;rw[hq.1]at hk;unfold X5 at hk;simp only[]at hk;rw[hS]at hk;rw[if_pos rfl,List.drop_of_length_le (by omega)]at hk;unfold El at hk;rw[show Hz aa _=false from am,Bool.and_false]at hk;cases hk)
 rw[hr]at e
 subst e
 exact hQ _ _ (.b rfl rfl)
 conv=>cbv
 refine .add fun au ay=>?_
 conv=>cbv
 exact .go [] (au) (a0 _ ⟨by omega,by omega,fun h=>by omega,fun _=>by have:=hq.1;simp only[]at this;rw[this];unfold X5;simp only[];rw[hS,List.drop_of_length_le (by omega),if_pos rfl];show(A9 _ aa&&Hz aa Al)=true;rw[hre,show Hz aa Al=true from am];rfl⟩ mlt)
 conv=>cbv
 refine .add fun an az=>?_
 conv=>cbv
 exact .go [] (an) (a0 _ ⟨by omega,by omega,fun h=>by rw[show an.toNat=i5.toNat+1 by omega];exact XdR ac hq (by simp only[];omega) hS hre,fun h=>by omega⟩ mlt)
 conv=>cbv
 have e:true=B0 (⟨Ah,Al,Ak,Ai,An,Am⟩:Ac):=(by symm;rw[diskOk_iff];exact⟨af,ag,(S8 (d:=(⟨Ah,Al,Ak,Ai,An,Am⟩:Ac)) (fun j hj=>hb j (by simp only[]at hj;omega)) (by symm;rw[decide_eq_true_eq];simp only[];omega)).symm,by rw[aq];exact h6,hQe (by omega)⟩)
 rw[hr]at e
 subst e
 exact hQ _ _ (.b rfl rfl)
end
section
open Go Go.Proofs
set_option maxRecDepth 20000
set_option maxHeartbeats 4000000
def X6:List (Nat×TyRow):=[ty3,Xd8,Xx,Xit]
theorem Xaf:By Tryz.prog X6:=By.of (by kernel_rfl)
theorem O3:Setup Tryz.prog X6:=⟨Xaf,mixed⟩
def D0(x:Bs)(used:List Int):Bool:=!decide (x.id_∈used)
variable {used:List Int} {l:List Bs} {xl:List (List D)} {nl:Nat}
theorem Nm{xid:Int}{xtex:ByteArray}{xsur:Int}{o:Bool}(hr:D0 (⟨xid,xtex,xsur⟩:Bs) used=o):Fn Tryz.prog 329 [.agg [I xid,S xtex,I xsur],.ptr 0 0 0] [.box 256 [.ptr 1 0 0],.map used] ⟨B o,[],[]⟩:=by
 refine Fn.goR O3 Tryz.func329 fun P hP Q hQ=>?_
 conv=>cbv
 refine .go hP Tryz.underlying256 (by kernel_rfl) (by kernel_rfl) (by kernel_rfl) fun b1 aa=>?_
 conv=>cbv
 cases b1
 conv=>cbv
 have e:true=D0 (⟨xid,xtex,xsur⟩:Bs) used:=(by unfold D0;simp[←aa])
 rw[hr]at e
 subst e
 exact hQ _ _ (.of [] (.inl rfl) rfl rfl rfl rfl)
 conv=>cbv
 have e:false=D0 (⟨xid,xtex,xsur⟩:Bs) used:=(by unfold D0;simp[←aa])
 rw[hr]at e
 subst e
 exact hQ _ _ (.of [] (.inl rfl) rfl rfl rfl rfl)
def E7(l:List Bs)(used:List Int):Int:=Ub (fun x=>D0 x used) l
theorem N0{o:Int}(hl:l.map A5=xl)(hnl:nl=l.length)(hn:l.length<2^40)(hr:E7 l used=o):Fn Tryz.prog 302 [.ref 0 0 nl,.clo 329 [.ptr 1 0 0]] [.row 3 false xl,.box 256 [.ptr 2 0 0],.map used] ⟨I o,[],[]⟩:=by
 refine Fn.goR O3 Tryz.func302 fun P hP Q hQ=>?_
 conv=>cbv
 refine .go fun v1 ai=>?_
 conv=>cbv
 refine LoopW.lp (κ:=Int) O3 hP [] [0,1,7] (fun i8=>[(8,I i8)]) (fun i8=>[])
  (fun i8=>0≤i8∧i8≤l.length∧∀(j:Nat) (hj:j<l.length),j<i8.toNat→D0 l[j] used=false)
  (fun i8=>(l.length - i8).toNat) (0) ⟨by omega,by omega,fun j _ h=>by simp at h⟩ ⟨rfl,trivial⟩ rfl ?_
 rintro i8 J ⟨h0,h1,hb⟩ hJ
 conv=>cbv
 refine .lss (fun h2=>?_) fun h2=>?_
 conv=>cbv
 refine .go i8.toNat fun p3 af ag=>?_
 conv=>cbv
 refine .go hl fun ah ⟨ad,aa,ab⟩ ae=>?_
 conv=>cbv
 subst af
 generalize ac:D0 (⟨ad,aa,ab⟩:Bs) used=r5
 refine .bx [1,2] [2] hP (Nm ac) rfl rfl rfl rfl ?_
 cases r5
 conv=>cbv
 refine .add fun v6 aj=>?_
 conv=>cbv
 exact .go [] (v6) (hJ _ ⟨by omega,by omega,fun j hj h=>if e:j=i8.toNat then by subst e;rw[←ae];exact ac else hb j hj (by omega)⟩ mlt)
 conv=>cbv
 have e:i8=E7 l used:=(by exact Nz (p:=fun x=>D0 x used) h0 (by omega) (by rw[←ae];exact ac) hb)
 rw[hr]at e
 subst e
 exact hQ _ _ (.of [] (.inl rfl) rfl rfl rfl rfl)
 conv=>cbv
 have e:(-1)=E7 l used:=(by exact Iv (p:=fun x=>D0 x used) fun j hj=>hb j hj (by omega))
 rw[hr]at e
 subst e
 exact hQ _ _ (.of [] (.inl rfl) rfl rfl rfl rfl)
def Ep(l:List Bs)(used:List Int):List Bs:=l.filter (fun x=>!D0 x used)
theorem Na{o:List Bs}{xf:List (List D)}{no:Nat}(hl:l.map A5=xl)(hnl:nl=l.length)(hn:l.length<2^40)(hr:Ep l used=o)(hf:(o++List.replicate (l.length - o.length) (⟨0,tx [],0⟩:Bs)).map A5=xf)(hno:no=o.length):Fn Tryz.prog 328 [.ref 0 0 nl,.clo 329 [.ptr 1 0 0]] [.row 3 false xl,.box 256 [.ptr 2 0 0],.map used] ⟨.ref 0 0 no,[],[(0,.row 3 false xf)]⟩:=by
 refine Fn.goR O3 Tryz.func328 fun P hP Q hQ=>?_
 conv=>cbv
 generalize af:E7 l used=r1
 refine .bx [0,1,2] [2] hP (N0 hl (by first|rfl|omega|(simp;omega)) hn af) rfl rfl rfl rfl ?_
 conv=>cbv
 refine .eql (fun h2=>?_) fun h2=>?_
 conv=>cbv
 have e:l=o:=by rw[←hr];unfold Ep;symm;rw[List.filter_eq_self];intro x hx;rw[Xh1 (p:=fun x=>D0 x used) af (by omega) x hx];rfl
 subst e
 obtain rfl:xl=xf:=by rw[←hl,←hf];simp
 obtain rfl:nl=no:=by omega
 exact hQ _ _ (.of [] (.inl rfl) rfl rfl rfl rfl)
 conv=>cbv
 have hd:=XhJ (p:=fun x=>D0 x used) af h2
 refine .add fun v3 am=>?_
 conv=>cbv
 refine LoopW.lp (κ:=Int×Int×(List (List D))) O3 hP [] [0,1] (fun(i5,i6,aa)=>[(5,I i5),(6,I i6)]) (fun(i5,i6,aa)=>[(0,.row 3 false aa)])
  (fun(i5,i6,aa)=>∃(w0:List Bs),w0.map A5=aa∧(0≤i5∧i5<i6∧i6≤l.length)∧w0.length=l.length∧w0.take i5.toNat=(l.take i6.toNat).filter (fun x=>!D0 x used)∧w0.drop i6.toNat=l.drop i6.toNat)
  (fun(i5,i6,aa)=>(l.length - i6).toNat) (r1,v3,xl) ⟨l,hl,by omega,rfl,by rw[hd.2.2,am],rfl⟩ ⟨rfl,rfl,trivial⟩ rfl ?_
 rintro⟨i5,i6,aa⟩ J ⟨w0,ae,hb,hwl,hwt,hwd⟩ hJ
 conv=>cbv
 refine .go fun v4 az=>?_
 conv=>cbv
 refine .lss (fun h5=>?_) fun h5=>?_
 conv=>cbv
 refine .go i6.toNat fun p6 an au=>?_
 conv=>cbv
 refine .go ae fun aj ⟨ad,ab,ac⟩ ao=>?_
 conv=>cbv
 subst an
 have ag:(⟨ad,ab,ac⟩:Bs)=l[i6.toNat]:=ao.trans (df_at aj (by omega) hwd)
 generalize ah:D0 (⟨ad,ab,ac⟩:Bs) used=r8
 refine .bx [1,2] [2] hP (Nm ah) rfl rfl rfl rfl ?_
 cases r8
 conv=>cbv
 refine .go i5.toNat fun p9 ap aw=>?_
 conv=>cbv
 refine .all ((⟨ad,ab,ac⟩:Bs)) ae rfl fun aq ak=>?_
 conv=>cbv
 refine .add fun al ax=>?_
 conv=>cbv
 refine .add fun ai ay=>?_
 conv=>cbv
 have hk:=Xhy (i:=i5.toNat) (p:=fun x=>D0 x used) (show i6.toNat<l.length by omega) (by omega) hwl hwt hwd (by rw[←ag];exact ah)
 rw[←ag]at hk
 subst ap
 exact .go [] (al,ai,aq) (hJ _ ⟨_,ak,by omega,by rw[List.length_set];exact hwl,by rw[show al.toNat=i5.toNat+1 by omega,show ai.toNat=i6.toNat+1 by omega];exact hk.1,by rw[show ai.toNat=i6.toNat+1 by omega];exact hk.2⟩ mlt)
 conv=>cbv
 refine .add fun v9 a0=>?_
 conv=>cbv
 have hk:=XhE (p:=fun x=>D0 x used) (show i6.toNat<l.length by omega) hwt hwd (by rw[←ag];exact ah)
 exact .go [] (i5,v9,aa) (hJ _ ⟨_,ae,by omega,hwl,by rw[show v9.toNat=i6.toNat+1 by omega];exact hk.1,by rw[show v9.toNat=i6.toNat+1 by omega];exact hk.2⟩ mlt)
 conv=>cbv
 refine .lo fun on6 n6 hon6 a1=>?_
 conv=>cbv
 refine .goN (zz:=[(.int .i64 0,0),(.string ⟨#[]⟩,0),(.int .i64 0,0)]) (⟨0,tx [],0⟩:Bs) hP ae Tryz.underlying37 (by kernel_rfl) rfl rfl (by decide) fun z7 ar=>?_
 conv=>cbv
 refine .hi fun on8 n8 hon8 a2=>?_
 conv=>cbv
 have e:w0.take on6=o:=by rw[hon6,Nat.zero_add,hwt,List.take_of_length_le (by omega),←hr];rfl
 obtain⟨e1,e2⟩:=XiN (by omega) (by omega) e ar
 rw[hwl,hf]at e2
 subst e2
 obtain rfl:n8=no:=by omega
 subst hon8
 exact hQ _ _ (.of [] (.inl rfl) rfl rfl rfl rfl)
end
section
open Go Go.Proofs
set_option maxRecDepth 20000
set_option maxHeartbeats 4000000
def Y2:List (Nat×TyRow):=[ty3,ty9,Xc3,Xd8,Xde,XaI,XbM,Xit]
theorem Yx:By Tryz.prog Y2:=By.of (by kernel_rfl)
theorem Wx:Setup Tryz.prog Y2:=⟨Yx,mixed⟩
def Pf:List Aj→List ByteArray→Int→Bool
 |now,[],id=>now.any fun e=>decide (e.id_=id)
 |now,s::ss,id=>(now.any fun e=>decide (e.id_=id))||Pf (Ay now s).1 ss id
def Nh(nodes:List Bs)(old:List Aj)(steps:List ByteArray):List Bs:=nodes.filter fun x=>Pf old steps x.id_
theorem XcS{l:List Aj}{k:Nat}{id:Int}(hk:k<l.length):(l.take (k+1)).any (fun e=>decide (e.id_=id))=((l.take k).any (fun e=>decide (e.id_=id))||decide (l[k].id_=id)):=by
 rw[List.take_succ_eq_append_getElem hk,List.any_append]
 simp
theorem XdC{ks:List Int}{n id:Int}:id∈Nf ks n↔id∈ks∨n=id:=by
 unfold Nf
 split
 ·constructor
  ·exact .inl
  ·rintro(h|rfl)
   ·exact h
   ·assumption
 ·rw[List.mem_append,List.mem_singleton]
  constructor
  ·rintro(h|rfl)
   ·exact .inl h
   ·exact .inr rfl
  ·rintro(h|rfl)
   ·exact .inl h
   ·exact .inr rfl
theorem Qt{Ah:List Bs}{Bo:List (List D)}{Al:List Aj}{Bm:List (List D)}{Ak:List Aj}{Bl:List (List D)}{Ai:List ByteArray}{Bn:List (List D)}{An:Int}{Am:Int}{ndnod:Nat}{ndste:Nat}{o:List Bs}{no:Nat}{xf:List (List D)}(Aq:Ah.map A5=Bo)(As:Al.map Ae=Bm)(Av:Ak.map Ae=Bl)(At:Ai.map cS=Bn)(hndnod:ndnod=Ah.length)(hndste:ndste=Ai.length)(hn:Ah.length<2^40)(hol:Ak.length≤1000000000)(hsl:Ai.length≤1000000000)(hss:okS Ai)(hr:Nh Ah Ak Ai=o)(hno:no=o.length)(hf:(o++List.replicate (Ah.length - o.length) (⟨0,tx [],0⟩:Bs)).map A5=xf):Fn Tryz.prog 297 [.ptr 0 0 0] [.box 40 [.ref 1 0 ndnod,.d (.row 2 Bm),.d (.row 2 Bl),.ref 2 0 ndste,I An,I Am],.row 3 false Bo,.row 1 false Bn] ⟨.tup [],[],[(0,.box 40 [.ref 1 0 no,.d (.row 2 Bm),.d (.row 2 Bl),.ref 2 0 ndste,I An,I Am]),(1,.row 3 false xf)]⟩:=by
 refine Fn.goR Wx Tryz.func297 fun P hP Q hQ=>?_
 conv=>cbv
 refine LoopW.lp (κ:=(List (List D))×Int×(List Int)) Wx hP [] [0,2] (fun(ab,i4,ks3)=>[(3,.d (.row 2 ab)),(4,I i4)]) (fun(ab,i4,ks3)=>[(3,.map ks3)])
  (fun(ab,i4,ks3)=>∃(u3:List Aj),u3.map Ae=ab∧0≤i4∧i4≤Ai.length∧u3.length≤Ak.length+i4∧∀id,(id∈ks3∨Pf u3 (Ai.drop i4.toNat) id=true)↔Pf Ak Ai id=true)
  (fun(ab,i4,ks3)=>(Ai.length - i4).toNat) (Bl,0,[]) ⟨Ak,Av,by omega,by omega,by omega,fun id=>by simp⟩ ⟨rfl,rfl,trivial⟩ rfl ?_
 rintro⟨ab,i4,ks3⟩ J ⟨u3,ae,h0,h1,hun,hio⟩ hJ
 conv=>cbv
 refine .go ae fun v1 aw=>?_
 conv=>cbv
 refine LoopW.lp (κ:=Int×(List Int)) Wx hP [] [0,2,3,4,14,15] (fun(aa,ks3p)=>[(16,I aa)]) (fun(aa,ks3p)=>[(3,.map ks3p)])
  (fun(aa,ks3p)=>0≤aa∧aa≤u3.length∧∀id,id∈ks3p↔id∈ks3∨((u3.take aa.toNat).any fun e=>decide (e.id_=id))=true)
  (fun(aa,ks3p)=>(u3.length - aa).toNat) (0,ks3) ⟨by omega,by omega,fun id=>by simp⟩ ⟨rfl,trivial⟩ rfl ?_
 rintro⟨aa,ks3p⟩ J1 ⟨k0,k1,hi⟩ al
 conv=>cbv
 refine .lss (fun h2=>?_) fun h2=>?_
 conv=>cbv
 refine .go aa.toNat ae fun ag ⟨am,ar⟩ an=>?_
 conv=>cbv
 refine .go hP Tryz.underlying256 (by kernel_rfl) fun ks4 hks4=>?_
 conv=>cbv
 refine .add fun v5 ax=>?_
 conv=>cbv
 exact .go [] (v5,ks4) (al _ ⟨by omega,by omega,fun id=>by rw[hks4,XdC,hi id,show v5.toNat=aa.toNat+1 by omega,XcS ag,←an,Bool.or_eq_true,or_assoc,decide_eq_true_eq]⟩ mlt)
 conv=>cbv
 refine .go fun v3 ay=>?_
 conv=>cbv
 refine .eql (fun h4=>?_) fun h4=>?_
 conv=>cbv
 have hks:∀id,id∈ks3p↔Pf Ak Ai id=true:=fun id=>by rw[hi,←hio id,List.take_of_length_le (show u3.length≤aa.toNat by omega),List.drop_of_length_le (show Ai.length≤i4.toNat by omega)];show _↔_∨(u3.any fun e=>decide (e.id_=id))=true;exact Iff.rfl
 generalize ah:Ep Ah ks3p=l5
 generalize ai:(l5++List.replicate (Ah.length - l5.length) (⟨0,tx [],0⟩:Bs)).map A5=ao
 obtain⟨nl5,hnl5⟩:∃m,m=l5.length:=⟨_,rfl⟩
 refine .bx [1,4,3] [3] hP (Na Aq (by first|rfl|omega|(simp;omega)) hn ah ai hnl5) rfl rfl rfl rfl ?_
 conv=>cbv
 have e:l5=o:=by rw[←ah,←hr];unfold Ep D0 Nh;congr 1;funext x;simp only[Bool.not_not,hks x.id_,Bool.decide_eq_true]
 subst e
 obtain rfl:ao=xf:=by rw[←ai,←hf]
 obtain rfl:nl5=no:=by omega
 exact hQ _ _ (.of [] (.inr rfl) rfl rfl rfl rfl)
 conv=>cbv
 refine .go i4.toNat fun p5 ap au=>?_
 conv=>cbv
 refine .go At fun ac e6 aj=>?_
 conv=>cbv
 have az:e6.size≤1000000000:=aj▸hss _ (List.getElem_mem ac)
 subst ap
 have hdc:Ai.drop i4.toNat=e6::Ai.drop (i4.toNat+1):=by rw[List.drop_eq_getElem_cons ac,←aj]
 rcases af:Ay u3 e6 with⟨aq,a0⟩
 have hsl7:=O4 af
 generalize ad:aq.map Ae=ak
 refine .dd hP (Pn ae (by omega) (by omega) af ad) ?_
 conv=>cbv
 refine .add fun v8 a1=>?_
 conv=>cbv
 exact .go [] (ak,v8,ks3p) (hJ _ ⟨_,ad,by omega,by omega,by omega,fun id=>by rw[←hio id,hi id,show v8.toNat=i4.toNat+1 by omega,hdc,List.take_of_length_le (show u3.length≤aa.toNat by omega)];show _↔_∨((u3.any fun e=>decide (e.id_=id))||Pf (Ay u3 e6).1 (Ai.drop (i4.toNat+1)) id)=true;rw[af,Bool.or_eq_true,or_assoc]⟩ mlt)
end
section
open Go Go.Proofs
set_option maxRecDepth 20000
set_option maxHeartbeats 4000000
def Zz:List (Nat×TyRow):=[ty9,Xc3,Xde,XaI,ty255]
theorem Z2:By Tryz.prog Zz:=By.of (by kernel_rfl)
theorem XfV:Setup Tryz.prog Zz:=⟨Z2,mixed⟩
theorem W7{l:List ByteArray}{s:ByteArray}(h:okS l)(hs:s.size≤1000000000):okS (l++[s]):=fun t ht=>by
 rcases List.mem_append.1 ht with ht|ht
 ·exact h t ht
 ·rw[List.mem_singleton.1 ht];exact hs
theorem Xbv{Ah:List Bs}{Bo:List (List D)}{Al:List Aj}{Bm:List (List D)}{Ak:List Aj}{Bl:List (List D)}{Ai:List ByteArray}{Bn:List (List D)}{An:Int}{Am:Int}{ndnod:Nat}{ndste:Nat}{step:ByteArray}{xe:List (List D)}{o:List Bs}{no:Nat}{xf xs:List (List D)}{ns:Nat}(Aq:Ah.map A5=Bo)(As:Al.map Ae=Bm)(Av:Ak.map Ae=Bl)(At:Ai.map cS=Bn)(hndnod:ndnod=Ah.length)(hndste:ndste=Ai.length)(hn:Ah.length<2^40)(hel:Al.length≤4000000000)(hss0:step.size≤1000000000)(hol:Ak.length≤1000000000)(hsl:Ai.length<1000000000)(hss:okS Ai)(he:(Ay Al step).1.map Ae=xe)(hr:Nh Ah Ak (Ai++[step])=o)(hno:no=o.length)(hf:(o++List.replicate (Ah.length - o.length) (⟨0,tx [],0⟩:Bs)).map A5=xf)(hs:(Ai++[step]).map cS=xs)(hns:ns=(Ai++[step]).length):Fn Tryz.prog 295 [.ptr 0 0 0,S step] [.box 40 [.ref 1 0 ndnod,.d (.row 2 Bm),.d (.row 2 Bl),.ref 2 0 ndste,I An,I Am],.row 3 false Bo,.row 1 false Bn] ⟨.tup [],[.row 1 false xs],[(0,.box 40 [.ref 1 0 no,.d (.row 2 xe),.d (.row 2 Bl),.ref 3 0 ns,I An,I Am]),(1,.row 3 false xf),(2,.dead)]⟩:=by
 refine Fn.goR XfV Tryz.func295 fun P hP Q hQ=>?_
 conv=>cbv
 refine .one step At rfl fun ai z1 ad ae=>?_
 conv=>cbv
 rcases af:Ay Al step with⟨aj,am⟩
 generalize aa:aj.map Ae=ag
 refine .dd hP (Pn As hel hss0 af aa) ?_
 conv=>cbv
 generalize ah:Nh Ah Ak (Ai++[step])=o4
 obtain⟨ak,ab⟩:∃m,m=o4.length:=⟨_,rfl⟩
 generalize ac:(o4++List.replicate (Ah.length - o4.length) (⟨0,tx [],0⟩:Bs)).map A5=al
 refine .bx [0,1,4] [1,4] hP (Qt Aq aa Av ae (by first|assumption|omega) (by first|assumption|omega|rfl|(simp at*;omega)) hn hol (by rw[List.length_append];simp;omega) (W7 hss hss0) ah ab ac) rfl rfl rfl rfl ?_
 conv=>cbv
 obtain rfl:ag=xe:=by rw[←aa,←he,af]
 obtain rfl:z1=xs:=by rw[←ae,←hs]
 obtain rfl:ai=ns:=by rw[hns,ad,List.length_append];rfl
 obtain rfl:o4=o:=by rw[←ah,←hr]
 obtain rfl:ak=no:=by rw[hno,ab]
 obtain rfl:al=xf:=by rw[←ac,←hf]
 exact hQ _ _ (.of [4] (.inr rfl) rfl rfl rfl rfl)
end
section
open Go Go.Proofs
set_option maxRecDepth 20000
set_option maxHeartbeats 4000000
def Y4:List (Nat×TyRow):=[Xc3,Xd8,Xde,XaI]
theorem Xae:By Tryz.prog Y4:=By.of (by kernel_rfl)
theorem Xb4:Setup Tryz.prog Y4:=⟨Xae,mixed⟩
variable {Ah:List Bs} {Bo Bm Bl Bn:List (List D)} {Al Ak:List Aj} {Ai:List ByteArray} {An Am:Int}
theorem M2{nn ns:Nat}(Aq:Ah.map A5=Bo)(As:Al.map Ae=Bm)(Av:Ak.map Ae=Bl)(At:Ai.map cS=Bn)(hn:Ah.length≤4000000000)(he:Al.length≤4000000000)(ho:Ak.length≤4000000000)(hs:Ai.length≤4000000000)(hnn:nn=Ah.length)(hns:ns=Ai.length):Fn Tryz.prog 106 [.agg [.d (.row 3 Bo),.d (.row 2 Bm),.d (.row 2 Bl),.d (.row 1 Bn),I An,I Am]] [] ⟨.agg [.ref 0 0 nn,.d (.row 2 Bm),.d (.row 2 Bl),.ref 1 0 ns,I An,I Am],[.row 3 false Bo,.row 1 false Bn],[]⟩:=by
 refine Fn.goR Xb4 Tryz.func106 fun P hP Q hQ=>?_
 conv=>cbv
 generalize ac:Cq Ah=l1
 generalize aa:l1.map A5=ai
 obtain⟨nl1,hnl1⟩:∃m,m=l1.length:=⟨_,rfl⟩
 refine .ddA hP (J4 Aq (by omega) ac aa hnl1) rfl rfl rfl (aa▸Ra (fun _=>rfl) l1) ?_
 conv=>cbv
 generalize ad:Cq Al=l2
 generalize ae:l2.map Ae=aj
 refine .dd hP (Cb As (by omega) ad ae) ?_
 conv=>cbv
 generalize af:Cq Ak=l3
 generalize ag:l3.map Ae=ak
 refine .dd hP (Cb Av (by omega) af ag) ?_
 conv=>cbv
 generalize ah:Cq Ai=l4
 generalize ab:l4.map cS=al
 obtain⟨nl4,hnl4⟩:∃m,m=l4.length:=⟨_,rfl⟩
 refine .ddA hP (H4 At (by omega) ah ab hnl4) rfl rfl rfl (ab▸Ra (fun _=>rfl) l4) ?_
 conv=>cbv
 obtain rfl:l1=Ah:=ac.symm
 obtain rfl:l2=Al:=ad.symm
 obtain rfl:l3=Ak:=af.symm
 obtain rfl:l4=Ai:=ah.symm
 obtain rfl:nl1=nn:=by rw[hnn,hnl1]
 obtain rfl:nl4=ns:=by rw[hns,hnl4]
 obtain rfl:ai=Bo:=by rw[←aa,Aq]
 obtain rfl:aj=Bm:=by rw[←ae,As]
 obtain rfl:ak=Bl:=by rw[←ag,Av]
 obtain rfl:al=Bn:=by rw[←ab,At]
 exact hQ _ _ (.of [6,7] (.inl rfl) rfl rfl rfl rfl)
theorem K6(Aq:Ah.map A5=Bo)(As:Al.map Ae=Bm)(Av:Ak.map Ae=Bl)(At:Ai.map cS=Bn)(hn:Ah.length≤4000000000)(he:Al.length≤4000000000)(ho:Ak.length≤4000000000)(hs:Ai.length≤4000000000):Fn Tryz.prog 106 [.agg [.d (.row 3 Bo),.d (.row 2 Bm),.d (.row 2 Bl),.d (.row 1 Bn),I An,I Am]] [] ⟨.agg [.d (.row 3 Bo),.d (.row 2 Bm),.d (.row 2 Bl),.d (.row 1 Bn),I An,I Am],[],[]⟩:=by
 refine Fn.go Xb4 Tryz.func106 fun P hP Q hQ=>?_
 conv=>cbv
 generalize aa:Cq Ah=l1
 generalize ab:l1.map A5=ai
 refine .dd hP (Kg Aq (by omega) aa ab) ?_
 conv=>cbv
 generalize ac:Cq Al=l2
 generalize ad:l2.map Ae=aj
 refine .dd hP (Cb As (by omega) ac ad) ?_
 conv=>cbv
 generalize ae:Cq Ak=l3
 generalize af:l3.map Ae=ak
 refine .dd hP (Cb Av (by omega) ae af) ?_
 conv=>cbv
 generalize ag:Cq Ai=l4
 generalize ah:l4.map cS=al
 refine .dd hP (Il At (by omega) ag ah) ?_
 conv=>cbv
 obtain rfl:l1=Ah:=aa.symm
 obtain rfl:l2=Al:=ac.symm
 obtain rfl:l3=Ak:=ae.symm
 obtain rfl:l4=Ai:=ag.symm
 obtain rfl:ai=Bo:=by rw[←ab,Aq]
 obtain rfl:aj=Bm:=by rw[←ad,As]
 obtain rfl:ak=Bl:=by rw[←af,Av]
 obtain rfl:al=Bn:=by rw[←ah,At]
 exact hQ _ _ (.one (.inl rfl) rfl (.agg (.d rfl rfl (.d rfl rfl (.d rfl rfl (.d rfl rfl (.d rfl rfl (.d rfl rfl .nil)))))) .nil))
end
section
open Go Go.Proofs
set_option maxRecDepth 20000
set_option maxHeartbeats 4000000
def Sc(d:Ac)(s:ByteArray):Ac:=⟨Nh d.nodes_ d.old_ (d.steps_++[s]),(Ay d.entries_ s).1,d.old_,d.steps_++[s],d.room_,d.next_⟩
end
section
open Go Go.Proofs
set_option maxRecDepth 20000
set_option maxHeartbeats 4000000
end
end Go.Proofs.YtgdmjbcllgmepaaGreatDoor.Ab
