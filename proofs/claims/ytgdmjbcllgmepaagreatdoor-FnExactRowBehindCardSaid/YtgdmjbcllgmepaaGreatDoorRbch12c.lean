/- What functions of the program come to, for all arguments in the given bounds. -/
import Derived.Test.YtgdmjbcllgmepaaGreatDoorRbSh
import Derived.Test.YtgdmjbcllgmepaaGreatDoorRbZ9
import Derived.Lib.ItoaNum
import Derived.Lib.AppendIntMem
import Derived.Below
import Derived.ProofKit
import Derived.Shelf.Spec.SlicesInsertGrow
set_option linter.unusedVariables false
set_option linter.unusedSimpArgs false
namespace Go.Proofs.YtgdmjbcllgmepaaGreatDoor.Ab
section
open Go Go.Proofs
set_option maxRecDepth 20000
set_option maxHeartbeats 4000000
def Xc2:List (Nat×TyRow):=[ty3,ty4,ty9,Xcn,Xdg,XkQ]
theorem Xb3:B9 Tryz.prog Xc2:=B9.of (by kernel_rfl)
theorem XfJ:Setup Tryz.prog Xc2:=⟨Xb3,mixed⟩
def C3(b:ByteArray)(v:Int):ByteArray:=
 if(Bs b).ok_=true∧(0≤v∧v≤2)then(if 0<v then Ch ⟨v,(Bs b).head_.stride_,(Bs b).head_.base_,(Bs b).head_.link_⟩ (Bs b).records_ else Ch (Bs b).head_ (Bs b).records_)else tx []
theorem Qc{b:ByteArray}{v:Int}{o:ByteArray}(e:C3 b v=o):o.size≤200000:=by
 rw[←e]
 unfold C3
 split
 ·split
  ·exact Gq rfl
  ·exact Gq rfl
 ·simp[Bz]
variable {b o:ByteArray} {version:Int}
theorem Xgk(hn:b.size<2^40)(hr:C3 b version=o):Fn Tryz.prog 112 [S b,I version] [] ⟨S o,[],[]⟩:=by
 refine Fn.go XfJ Tryz.func112 fun P hP Q hQ=>?_
 conv=>cbv
 rcases ag:Bs b with⟨am,⟨af,aa,ab,ac⟩,ae,ak,ap,aq⟩
 generalize ad:ae.map cS=an
 generalize aj:ak.map cI=ao
 refine .dd hP (Xm (by omega) ag ad aj) ?_
 conv=>cbv
 have zl:=Io (b:=b)
 rw[ag]at zl
 simp only[]at zl
 cases am
 conv=>cbv
 have e:(tx [])=C3 b version:=(by unfold C3;rw[ag];simp only[];rw[if_neg];rintro⟨q,_⟩;cases q)
 rw[hr]at e
 subst e
 exact hQ _ _ (.s rfl rfl)
 conv=>cbv
 refine .neq (fun h2=>?_) fun h2=>?_
 conv=>cbv
 generalize al:C5 version=r3
 refine .dd hP (Ko al) ?_
 cases r3
 simp only[C5,decide_eq_true_eq,decide_eq_false_iff_not]at al
 conv=>cbv
 have e:(tx [])=C3 b version:=(by unfold C3;rw[ag];simp only[];rw[if_neg];rintro⟨_,q⟩;omega)
 rw[hr]at e
 subst e
 exact hQ _ _ (.s rfl rfl)
 simp only[C5,decide_eq_true_eq,decide_eq_false_iff_not]at al
 conv=>cbv
 refine .neq (fun h4=>?_) fun h4=>?_
 conv=>cbv
 generalize ah:Ch (⟨version,aa,ab,ac⟩:Ca) ae=r5
 have zr5:=Gq ah
 refine .dd hP (Pa ad (by omega) ah) ?_
 conv=>cbv
 have e:r5=C3 b version:=(by unfold C3;rw[ag];simp only[];rw[if_pos ⟨trivial,by omega⟩,if_pos (by omega)];exact ah.symm)
 rw[hr]at e
 subst e
 exact hQ _ _ (.s rfl rfl)
 conv=>cbv
 generalize ah:Ch (⟨af,aa,ab,ac⟩:Ca) ae=r5
 have zr5:=Gq ah
 refine .dd hP (Pa ad (by omega) ah) ?_
 conv=>cbv
 have e:r5=C3 b version:=(by exact absurd h4 h2)
 rw[hr]at e
 subst e
 exact hQ _ _ (.s rfl rfl)
 conv=>cbv
 refine .neq (fun h3=>?_) fun h3=>?_
 conv=>cbv
 generalize ai:Ch (⟨version,aa,ab,ac⟩:Ca) ae=r4
 have zr4:=Gq ai
 refine .dd hP (Pa ad (by omega) ai) ?_
 conv=>cbv
 have e:r4=C3 b version:=(by exact absurd h2 h3)
 rw[hr]at e
 subst e
 exact hQ _ _ (.s rfl rfl)
 conv=>cbv
 generalize ai:Ch (⟨af,aa,ab,ac⟩:Ca) ae=r4
 have zr4:=Gq ai
 refine .dd hP (Pa ad (by omega) ai) ?_
 conv=>cbv
 have e:r4=C3 b version:=(by unfold C3;rw[ag];simp only[];rw[if_pos ⟨trivial,by omega⟩,if_neg (by omega)];exact ai.symm)
 rw[hr]at e
 subst e
 exact hQ _ _ (.s rfl rfl)
theorem XgF(hn:b.size<2^40)(hr:C3 b version=o):Fn Tryz.prog 102 [S b,I version] [] ⟨S o,[],[]⟩:=by
 refine Fn.go XfJ Tryz.func102 fun P hP Q hQ=>?_
 conv=>cbv
 rcases ag:Bs b with⟨al,⟨ah,aa,ab,ac⟩,ae,aj,ao,ap⟩
 generalize ad:ae.map cS=am
 generalize ai:aj.map cI=an
 refine .dd hP (Sk (by omega) ag ad ai) ?_
 conv=>cbv
 have zl:=Io (b:=b)
 rw[ag]at zl
 simp only[]at zl
 cases al
 conv=>cbv
 have e:(tx [])=C3 b version:=(by unfold C3;rw[ag];simp only[];rw[if_neg];rintro⟨q,_⟩;cases q)
 rw[hr]at e
 subst e
 exact hQ _ _ (.s rfl rfl)
 conv=>cbv
 generalize ak:Bh version 0 2=r2
 refine .dd hP (Do ak) ?_
 cases r2
 simp only[Bh,decide_eq_true_eq,decide_eq_false_iff_not]at ak
 conv=>cbv
 have e:(tx [])=C3 b version:=(by unfold C3;rw[ag];simp only[];rw[if_neg];rintro⟨_,q⟩;omega)
 rw[hr]at e
 subst e
 exact hQ _ _ (.s rfl rfl)
 simp only[Bh,decide_eq_true_eq,decide_eq_false_iff_not]at ak
 conv=>cbv
 refine .gtr (fun h3=>?_) fun h3=>?_
 conv=>cbv
 generalize af:Ch (⟨version,aa,ab,ac⟩:Ca) ae=r4
 have zr4:=Gq af
 refine .dd hP (Y1 ad (by omega) af) ?_
 conv=>cbv
 have e:r4=C3 b version:=(by unfold C3;rw[ag];simp only[];rw[if_pos ⟨trivial,by omega⟩,if_pos (by omega)];exact af.symm)
 rw[hr]at e
 subst e
 exact hQ _ _ (.s rfl rfl)
 conv=>cbv
 generalize af:Ch (⟨ah,aa,ab,ac⟩:Ca) ae=r4
 have zr4:=Gq af
 refine .dd hP (Y1 ad (by omega) af) ?_
 conv=>cbv
 have e:r4=C3 b version:=(by unfold C3;rw[ag];simp only[];rw[if_pos ⟨trivial,by omega⟩,if_neg (by omega)];exact af.symm)
 rw[hr]at e
 subst e
 exact hQ _ _ (.s rfl rfl)
end
section
open Go Go.Proofs
set_option maxRecDepth 20000
set_option maxHeartbeats 4000000
def Q7:List (Nat×TyRow):=[ty3,ty9,Xcn,XgK,Zr,Xk9,XkY,Xk7,Zd,Xmn]
theorem Xdp:B9 Tryz.prog Q7:=B9.of (by kernel_rfl)
theorem Qh:Setup Tryz.prog Q7:=⟨Xdp,mixed⟩
def F9(base:Int)(text:ByteArray):List TOp:=[⟨2,Cg base,tx [],tx []⟩,⟨3,Cg base,tx [],text⟩,⟨4,Cg base,tx [],tx []⟩,⟨5,Cg base,As base,tx []⟩,⟨6,tx [],tx [],tx []⟩]
def Nc(n:ByteArray):TOp:=⟨1,n,tx [],tx []⟩
def Fm(names:List ByteArray):List TOp:=if names=[]then[]else names.map Nc++[⟨6,tx [],tx [],tx []⟩]
def Gm(d:Aa)(b:Int):List TOp:=if(Fl d (As b)).1.sure_=(Fl d (As b)).1.text_.size then[]else[⟨4,As b,tx [],tx []⟩]
def E8(d:Aa)(v:Int)(b:Int):List TOp:=if C3 (Dl d b) v=Dl d b then[]else F9 b (C3 (Dl d b) v)
def G7(n:ByteArray):Bool:=decide ((Bu n).1=2)
def W9(v:Int):Int:=if v=1∨v=2 then v else 0
def Zs(d:Aa):List TOp:=(Ex d).flatMap (Gm d)++(if d.steps_=[]then[]else[⟨6,tx [],tx [],tx []⟩])
def Xat(d:Aa):List TOp:=Fm ((Ce d).filter G7)
def D1(d:Aa)(v:Int):List TOp:=Zs d++Xat d++(Ex d).flatMap (E8 d (W9 v))++Fm ((Ce d).filter (fun n=>!G7 n)).reverse
theorem Xjc{α:Type}{l w:List α}{i j:Int}{a b:α}(hl:w.length=l.length)(h0:0≤i)(hij:i+j=l.length - 1)(hlt:i<j)(h:∀k:Nat,k<l.length→w[k]? =if(k:Int)<i∨j<k then l[l.length - 1 - k]? else l[k]?)
  (ha:w[j.toNat]? =some a)(hb:w[i.toNat]? =some b):∀k:Nat,k<l.length→((w.set i.toNat a).set j.toNat b)[k]? =if(k:Int)<i+1∨j - 1<k then l[l.length - 1 - k]? else l[k]? :=by
 intro k hk
 have hj:=h j.toNat (by omega)
 have hi:=h i.toNat (by omega)
 rw[if_neg (by omega),ha]at hj
 rw[if_neg (by omega),hb]at hi
 by_cases e1:k=j.toNat
 ·subst e1
  rw[List.getElem?_set_self (by rw[List.length_set];omega),if_pos (by omega),show l.length - 1 - j.toNat=i.toNat by omega,←hi]
 ·rw[List.getElem?_set_ne (fun e=>e1 e.symm)]
  by_cases e2:k=i.toNat
  ·subst e2
   rw[List.getElem?_set_self (by omega),if_pos (by omega),show l.length - 1 - i.toNat=j.toNat by omega,←hj]
  ·rw[List.getElem?_set_ne (fun e=>e2 e.symm),h k hk]
   by_cases e3:(k:Int)<i∨j<k
   ·rw[if_pos e3,if_pos (by omega)]
   ·rw[if_neg e3,if_neg (by omega)]
theorem XkI{α:Type}{l w:List α}{i j:Int}(hl:w.length=l.length)(hij:i+j=l.length - 1)(hlt:j≤i)(h:∀k:Nat,k<l.length→w[k]? =if(k:Int)<i∨j<k then l[l.length - 1 - k]? else l[k]?):w=l.reverse:=by
 refine List.ext_getElem? fun k=>?_
 by_cases hk:k<l.length
 ·rw[h k hk,List.getElem?_reverse hk]
  split
  ·rfl
  ·rw[show l.length - 1 - k=k by omega]
 ·rw[List.getElem?_eq_none (by omega),List.getElem?_eq_none (by rw[List.length_reverse];omega)]
theorem Rd{d:Aa}{α:Type}(f:So→List α)(g:Int→List α)(h:∀x,x.text_=Dl d x.base_→x.scan_=Bs (Dl d x.base_)→f x=g x.base_):(Li d).flatMap f=(Ex d).flatMap g:=by
 rw[List.flatMap_def,List.flatMap_def,XaY f g h]
theorem D6{α:Type}{p:α→Bool}{l:List α}{k:Nat}(h:k<l.length):(l.take (k+1)).filter p=(l.take k).filter p++(if p l[k]then[l[k]]else[]):=by
 rw[List.take_succ_eq_append_getElem h,List.filter_append,List.filter_cons,List.filter_nil]
theorem Ys{d:Aa}{l:List ByteArray}(e:Ce d=l):∀n∈l,(Bu n).1=2∨(Bu n).1=1:=by
 intro n hn
 rw[←e]at hn
 unfold Ce at hn
 have h:=(List.mem_filter.1 hn).2
 unfold Nj at h
 rw[decide_eq_true_eq]at h
 rcases h with h|⟨h,_⟩
 ·exact .inl h
 ·exact .inr h
theorem Zp{d:Aa}{l:List ByteArray}(hd:okD d)(e:Ce d=l):∀n∈l,n.size≤1000000000:=by
 intro n hn
 rw[←e]at hn
 unfold Ce at hn
 obtain⟨x,hx,rfl⟩:=List.mem_map.1 (List.mem_filter.1 hn).1
 exact hd.2.2.2.1 x hx
theorem Mx{l:List ByteArray}:(Fm l).length≤l.length+1:=by
 unfold Fm
 split
 ·simp
 ·simp
theorem Xfk{α β:Type}{f:α→List β}{m:Nat}(h:∀x,(f x).length≤m):∀l:List α,(l.flatMap f).length≤m*l.length
 |[]=>by simp
 |x::l=>by
  have:=Xfk h l
  have h2:=h x
  rw[List.flatMap_cons,List.length_append,List.length_cons,Nat.mul_succ]
  omega
theorem Ry{d:Aa}(b:Int):(Gm d b).length≤1:=by unfold Gm;split<;>simp
theorem XgY{d:Aa}{v:Int}(b:Int):(E8 d v b).length≤5:=by unfold E8;split<;>simp[F9]
theorem Xjx{α β:Type}{f:α→List β}{m:Nat}(h:∀x,(f x).length≤m){l:List α}{k:Nat}{w:List β}(e:w=(l.take k).flatMap f):w.length≤m*l.length:=by
 rw[e]
 have:=Xfk h (l.take k)
 have h2:(l.take k).length≤l.length:=by rw[List.length_take];omega
 exact Nat.le_trans this (Nat.mul_le_mul_left m h2)
variable {base Ao An version:Int} {text:ByteArray} {o:List TOp} {xo Bo Bl Bj Bn:List (List D)} {Ae:List Bk} {Ag Ah:List Ad} {Af:List ByteArray}
theorem Xgr(hr:F9 base text=o)(ho:o.map eOp=xo):Fn Tryz.prog 111 [I base,S text] [] ⟨.d (.row 4 xo),[],[]⟩:=by
 refine Fn.go Qh Tryz.func111 fun P hP Q hQ=>?_
 conv=>cbv
 generalize aa:Cg base=r1
 refine .dd hP (Yo aa) ?_
 conv=>cbv
 generalize ab:As base=r2
 refine .dd hP (Gt ab) ?_
 conv=>cbv
 have e:[(⟨2,r1,tx [],tx []⟩:TOp),(⟨3,r1,tx [],text⟩:TOp),(⟨4,r1,tx [],tx []⟩:TOp),(⟨5,r1,r2,tx []⟩:TOp),(⟨6,tx [],tx [],tx []⟩:TOp)]=F9 base text:=(by unfold F9;rw[aa,ab])
 rw[hr]at e
 subst e
 exact hQ _ _ (.r rfl rfl rfl (by rw[←ho];rfl))
theorem XfV(hr:F9 base text=o)(ho:o.map eOp=xo):Fn Tryz.prog 101 [I base,S text] [] ⟨.d (.row 4 xo),[],[]⟩:=by
 refine Fn.go Qh Tryz.func101 fun P hP Q hQ=>?_
 conv=>cbv
 generalize aa:Cg base=r1
 refine .dd hP (Xb aa) ?_
 conv=>cbv
 generalize ab:As base=r2
 refine .dd hP (H1 ab) ?_
 conv=>cbv
 have e:[(⟨2,r1,tx [],tx []⟩:TOp),(⟨3,r1,tx [],text⟩:TOp),(⟨4,r1,tx [],tx []⟩:TOp),(⟨5,r1,r2,tx []⟩:TOp),(⟨6,tx [],tx [],tx []⟩:TOp)]=F9 base text:=(by unfold F9;rw[aa,ab])
 rw[hr]at e
 subst e
 exact hQ _ _ (.r rfl rfl rfl (by rw[←ho];rfl))
theorem X8{names:List ByteArray}{xnames:List (List D)}{no:Nat}(hnames:names.map cS=xnames)(hn:names.length<2^40)(hr:Fm names=o)(ho:o.map eOp=xo)(hno:no=o.length):Fn Tryz.prog 277 [.d (.row 1 xnames)] [] ⟨.ref 0 0 no,[.row 4 false xo],[]⟩:=by
 refine Fn.goR Qh Tryz.func277 fun P hP Q hQ=>?_
 conv=>cbv
 refine .go hnames fun v1 am=>?_
 conv=>cbv
 refine LoopW.lp (κ:=Int×(List (List D))×Nat) Qh hP [1] [7,8] (fun(i9,aa,ab)=>[(3,.ref 2 0 ab),(9,I i9)]) (fun(i9,aa,ab)=>[(2,.row 4 false aa)])
  (fun(i9,aa,ab)=>∃(w2:List TOp),w2.map eOp=aa∧ab=w2.length∧0≤i9∧i9≤names.length∧w2=(names.take i9.toNat).map Nc∧w2.length=i9.toNat)
  (fun(i9,aa,ab)=>(names.length - i9).toNat) (0,[],0) ⟨[],rfl,rfl,by omega,by omega,by simp,rfl⟩ ⟨rfl,rfl,trivial⟩ rfl ?_
 rintro⟨i9,aa,ab⟩ J ⟨w2,ac,aj,h0,h1,hw,hwl⟩ hJ
 conv=>cbv
 refine .lss (fun h2=>?_) fun h2=>?_
 conv=>cbv
 refine .go i9.toNat hnames fun ad e3 ae=>?_
 conv=>cbv
 refine .one (⟨1,e3,tx [],tx []⟩:TOp) ac rfl fun af z4 ak ag=>?_
 conv=>cbv
 refine .add fun v5 an=>?_
 conv=>cbv
 exact .go [4] (v5,z4,af) (hJ _ ⟨_,ag,Hg,by omega,by omega,by rw[hw,show v5.toNat=i9.toNat+1 by omega,Z4 ad,←ae];rfl,by rw[List.length_append,List.length_singleton];omega⟩ mlt)
 conv=>cbv
 refine .go fun v3 ao=>?_
 conv=>cbv
 refine .gtr (fun h4=>?_) fun h4=>?_
 conv=>cbv
 refine .one (⟨6,tx [],tx [],tx []⟩:TOp) ac rfl fun ah z5 al ai=>?_
 conv=>cbv
 have e:(w2++[(⟨6,tx [],tx [],tx []⟩:TOp)])=Fm names:=(by unfold Fm;rw[if_neg (by intro e;subst e;simp at h1;omega),hw,List.take_of_length_le (by omega)])
 rw[hr]at e
 subst e
 obtain rfl:z5=xo:=by rw[←ai,←ho]
 obtain rfl:ah=no:=by first|omega|(rw[hno];simp;done)|(rw[hno];simp;omega)
 exact hQ _ _ (.of [4] (.inl rfl) rfl rfl rfl rfl)
 conv=>cbv
 have e:w2=Fm names:=(by unfold Fm;rw[if_pos (List.eq_nil_of_length_eq_zero (by omega))];exact List.eq_nil_of_length_eq_zero (by omega))
 rw[hr]at e
 subst e
 obtain rfl:aa=xo:=by rw[←ac,←ho]
 obtain rfl:ab=no:=by first|omega|(rw[hno];simp;done)|(rw[hno];simp;omega)
 exact hQ _ _ (.of [2] (.inl rfl) rfl rfl rfl rfl)
theorem Fa:Setup Tryz.prog ((3000003,Eu Tryz.prog 3000003)::Q7):=(Setup.mark 3000003 Qh)
theorem I7{l:List ByteArray}{xl:List (List D)}{nl:Nat}{xf:List (List D)}(hl:l.map cS=xl)(hnl:nl=l.length)(hn:l.length<2^40)(hf:l.reverse.map cS=xf):Fn Tryz.prog 278 [.ref 0 0 nl] [.row 1 false xl] ⟨.tup [],[],[(0,.row 1 false xf)]⟩:=by
 refine Fn.goR Fa Tryz.func278 fun P hP Q hQ=>?_
 conv=>cbv
 refine .go fun v1 ay=>?_
 conv=>cbv
 refine .sub fun v2 az=>?_
 conv=>cbv
 refine LoopW.lp (κ:=Int×Int×(List (List D))) Fa hP [] [0] (fun(i2,i3,aa)=>[(2,I i2),(3,I i3)]) (fun(i2,i3,aa)=>[(0,.row 1 false aa)])
  (fun(i2,i3,aa)=>∃(w0:List ByteArray),w0.map cS=aa∧(w0.length=l.length∧0≤i2∧i2+i3=l.length - 1∧i2≤i3+1)∧∀k:Nat,k<l.length→w0[k]? =if(k:Int)<i2∨i3<k then l[l.length - 1 - k]? else l[k]?)
  (fun(i2,i3,aa)=>(i3 - i2+1).toNat) (0,v2,xl) ⟨l,hl,⟨rfl,by omega,by omega,by omega⟩,fun k hk=>by rw[if_neg (by omega)]⟩ ⟨rfl,rfl,trivial⟩ rfl ?_
 rintro⟨i2,i3,aa⟩ J ⟨w0,ab,hb,hw⟩ hJ
 conv=>cbv
 refine .lss (fun h3=>?_) fun h3=>?_
 conv=>cbv
 refine .go i3.toNat fun p4 ag ao=>?_
 conv=>cbv
 refine .go ab fun ap e5 ah=>?_
 conv=>cbv
 refine .go i2.toNat fun p6 ai aq=>?_
 conv=>cbv
 refine .go ab fun ar e7 aj=>?_
 conv=>cbv
 refine .go i2.toNat fun p8 ak au=>?_
 conv=>cbv
 refine .all (e5) ab rfl fun z9 al=>?_
 conv=>cbv
 refine .go i3.toNat fun a1 ac am=>?_
 conv=>cbv
 have hls:(w0.set p8 e5).length=w0.length:=List.length_set
 refine .all (e7) al rfl fun an ad=>?_
 conv=>cbv
 refine .go2 (by kernel_rfl) ?_
 conv=>cbv
 refine .add fun ae aw=>?_
 conv=>cbv
 refine .sub fun af ax=>?_
 conv=>cbv
 subst ak ac
 exact .go [] (ae,af,an) (hJ _ ⟨_,ad,⟨by rw[List.length_set,List.length_set];exact hb.1,by omega,by omega,by omega⟩,by have:=Xjc hb.1 (by omega) hb.2.2.1 h3 hw (a:=e5) (b:=e7) (by subst ag;rw[ah];exact List.getElem?_eq_getElem _) (by subst ai;rw[aj];exact List.getElem?_eq_getElem _);rw[show ae=i2+1 by omega,show af=i3 - 1 by omega];exact this⟩ mlt)
 conv=>cbv
 have e:=XkI hb.1 hb.2.2.1 (by omega) hw
 subst e
 obtain rfl:aa=xf:=by rw[←ab,←hf]
 exact hQ _ _ (.of [] (.inr rfl) rfl rfl rfl rfl)
theorem Hq:Setup Tryz.prog ((1000090,Eu Tryz.prog 1000090)::((1000054,Eu Tryz.prog 1000054)::Q7)):=(Setup.mark 1000090 (Setup.mark 1000054 Qh))
theorem Xev(Aj:Ae.map Bg=Bo)(Am:Ag.map Ac=Bl)(At:Ah.map Ac=Bj)(Ap:Af.map cS=Bn)(hd:okD ⟨Ae,Ag,Ah,Af,Ao,An⟩)(hr:D1 (⟨Ae,Ag,Ah,Af,Ao,An⟩:Aa) version=o)(ho:o.map eOp=xo):Fn Tryz.prog 208 [.agg [.d (.row 3 Bo),.d (.row 2 Bl),.d (.row 2 Bj),.d (.row 1 Bn),I Ao,I An],I version] [] ⟨.d (.row 4 xo),[],[]⟩:=by
 refine Fn.go Hq Tryz.func208 fun P hP Q hQ=>?_
 conv=>cbv
 generalize bi:Li (⟨Ae,Ag,Ah,Af,Ao,An⟩:Aa)=l1
 generalize bm:l1.map Xg7=d2
 refine .dd hP (Xdq Aj Am At Ap hd bi bm) ?_
 conv=>cbv
 refine .go bm fun v2 d3=>?_
 conv=>cbv
 refine LoopW.lp (κ:=Int×(List (List D))×Nat) Hq hP [2] [1,2,6,23,24] (fun(ai,a1,a2)=>[(5,.ref 3 0 a2),(25,I ai)]) (fun(ai,a1,a2)=>[(3,.row 4 false a1)])
  (fun(ai,a1,a2)=>∃(w3:List TOp),w3.map eOp=a1∧a2=w3.length∧0≤ai∧ai≤l1.length∧w3=(l1.take ai.toNat).flatMap fun x=>Gm (⟨Ae,Ag,Ah,Af,Ao,An⟩:Aa) x.base_)
  (fun(ai,a1,a2)=>(l1.length - ai).toNat) (0,[],0) ⟨[],rfl,rfl,by omega,by omega,by simp⟩ ⟨rfl,rfl,trivial⟩ rfl ?_
 rintro⟨ai,a1,a2⟩ J ⟨w3,b5,dq,h0,h1,hx⟩ hJ
 have b9:=O4 bi
 have hwb:=Xjx (fun x:So=>Ry x.base_) hx
 conv=>cbv
 refine .lss (fun h3=>?_) fun h3=>?_
 conv=>cbv
 refine .goX ai.toNat bm fun ca ⟨aj,ci,⟨bn,⟨au,aw,ax,ay⟩,ap,aq,bj,bk⟩⟩ fe4 cw hfe4=>?_
 replace hfe4:[.sc (.int .i64 aj),.sc (.string ci),.sc (.bool bn),.sc (.int .i64 au),.sc (.int .i64 aw),.sc (.int .i64 ax),.sc (.int .i64 ay),.row 1 (ap.map cS),.row 1 (aq.map cI),.sc (.int .i64 bj),.sc (.bool bk)]=fe4:=hfe4
 generalize cj:ap.map cS=ck at hfe4
 generalize cm:aq.map cI=cn at hfe4
 subst hfe4
 conv=>cbv
 generalize b6:As aj=r5
 refine .dd hP (Gt b6) ?_
 conv=>cbv
 rcases co:Fl (⟨Ae,Ag,Ah,Af,Ao,An⟩:Aa) r5 with⟨⟨c7,c5,c6⟩,d4⟩
 refine .dd hP (Xft Aj Am At Ap hd co) ?_
 conv=>cbv
 refine .go fun v7 cx=>?_
 conv=>cbv
 refine .neq (fun h8=>?_) fun h8=>?_
 conv=>cbv
 generalize a6:As aj=r9
 refine .dd hP (Gt a6) ?_
 conv=>cbv
 refine .one (⟨4,r9,tx [],tx []⟩:TOp) b5 rfl fun a7 bo bp a8=>?_
 conv=>cbv
 refine .add fun ao cb=>?_
 conv=>cbv
 have hso:Gm (⟨Ae,Ag,Ah,Af,Ao,An⟩:Aa) aj=[⟨4,r9,tx [],tx []⟩]:=by unfold Gm;rw[b6,co,←a6,b6,if_neg (by rw[←cx];exact h8)]
 exact .go [9] (ao,bo,a7) (hJ _ ⟨_,a8,Hg,by omega,by omega,by rw[show ao.toNat=ai.toNat+1 by omega,L0 ca,←hx,←cw];simp only[];rw[hso]⟩ mlt)
 conv=>cbv
 refine .add fun v9 c8=>?_
 conv=>cbv
 have hso:Gm (⟨Ae,Ag,Ah,Af,Ao,An⟩:Aa) aj=[]:=by unfold Gm;rw[b6,co,if_pos (by rw[←cx];exact h8)]
 exact .go [3] (v9,a1,a2) (hJ _ ⟨_,b5,Hg,by omega,by omega,by rw[show v9.toNat=ai.toNat+1 by omega,L0 ca,←hx,←cw];simp only[];rw[hso,List.append_nil]⟩ mlt)
 conv=>cbv
 have hS:w3=(Ex (⟨Ae,Ag,Ah,Af,Ao,An⟩:Aa)).flatMap (Gm (⟨Ae,Ag,Ah,Af,Ao,An⟩:Aa)):=by rw[hx,List.take_of_length_le (by omega),←Rd (fun x=>Gm (⟨Ae,Ag,Ah,Af,Ao,An⟩:Aa) x.base_) _ fun x _ _=>rfl,bi]
 have d5:=Xjx (fun x:So=>Ry x.base_) hx
 refine JoinW.jn (κ:=(List (List D))×Nat) Hq hP [3] [1,2,6] (fun(bq,bt)=>[(5,.ref 4 0 bt)]) (fun(bq,bt)=>[(4,.row 4 false bq)])
  (fun(bq,bt)=>∃(w4:List TOp),w4.map eOp=bq∧bt=w4.length∧w4=Zs (⟨Ae,Ag,Ah,Af,Ao,An⟩:Aa)∧w4.length≤17) (fun Jj1 hJj1=>?_) ?_
 conv=>cbv
 refine .go Ap fun v4 cy=>?_
 conv=>cbv
 refine .gtr (fun h5=>?_) fun h5=>?_
 conv=>cbv
 refine .one (⟨6,tx [],tx [],tx []⟩:TOp) b5 rfl fun c9 z6 dr da=>?_
 conv=>cbv
 exact .go [6] (z6,c9) (hJj1 _ ⟨_,da,Hg,by unfold Zs;rw[←hS,if_neg (by intro e;rw[show Af=[]from e]at cy;simp at cy;omega)],by simp;omega⟩)
 conv=>cbv
 exact .go [4] (a1,a2) (hJj1 _ ⟨_,b5,Hg,by unfold Zs;rw[←hS,if_pos (List.eq_nil_of_length_eq_zero (show Af.length=0 by omega)),List.append_nil],by omega⟩)
 rintro⟨bq,bt⟩ ⟨w4,db,ds,hA,hAl⟩
 conv=>cbv
 have dc:=b9
 generalize bu:Ce (⟨Ae,Ag,Ah,Af,Ao,An⟩:Aa)=l4
 generalize cp:l4.map cS=d6
 refine .dd hP (XaZ Aj Am At Ap hd bu cp) ?_
 conv=>cbv
 refine .go cp fun v5 d7=>?_
 conv=>cbv
 refine LoopW.lp (κ:=Int×(List (List D))×Nat×(List (List D))×Nat) Hq hP [5,6] [1,5,6,62,63] (fun(i64,ba,bb,bc,bd)=>[(11,.ref 7 0 bb),(12,.ref 8 0 bd),(64,I i64)]) (fun(i64,ba,bb,bc,bd)=>[(7,.row 1 false ba),(8,.row 1 false bc)])
  (fun(i64,ba,bb,bc,bd)=>∃(w7:List ByteArray) (w8:List ByteArray),w7.map cS=ba∧bb=w7.length∧w8.map cS=bc∧bd=w8.length∧(0≤i64∧i64≤l4.length)∧w7=(l4.take i64.toNat).filter G7∧w8=(l4.take i64.toNat).filter (fun n=>!G7 n)∧w7.length+w8.length≤i64)
  (fun(i64,ba,bb,bc,bd)=>(l4.length - i64).toNat) (0,[],0,[],0) ⟨[],[],rfl,rfl,rfl,rfl,by omega,rfl,rfl,by simp⟩ ⟨rfl,rfl,rfl,trivial⟩ rfl ?_
 rintro⟨i64,ba,bb,bc,bd⟩ J2 ⟨w7,w8,b7,dt,cq,du,h0,hwt,hwu,hwl⟩ cz
 have de:=Zw hd bu
 conv=>cbv
 refine .lss (fun h6=>?_) fun h6=>?_
 conv=>cbv
 refine .go i64.toNat cp fun bg e7 bv=>?_
 conv=>cbv
 have hsz7:=Zp hd bu e7 (bv▸List.getElem_mem _)
 rcases cr:Bu e7 with⟨d8,d9⟩
 refine .dd hP (X9 (by omega) cr) ?_
 conv=>cbv
 refine .eql (fun h9=>?_) fun h9=>?_
 conv=>cbv
 refine .one e7 b7 rfl fun a7 bo bp a8=>?_
 conv=>cbv
 refine .add fun ao cb=>?_
 conv=>cbv
 have hte:G7 e7=true:=by unfold G7;rw[cr];exact decide_eq_true h9
 exact .go [10,8] (ao,bo,a7,bc,bd) (cz _ ⟨_,_,a8,Hg,cq,Hg,by omega,by rw[show ao.toNat=i64.toNat+1 by omega,D6 bg,←hwt,←bv,hte];simp,by rw[show ao.toNat=i64.toNat+1 by omega,D6 bg,←hwu,←bv,hte];simp,by simp;omega⟩ mlt)
 conv=>cbv
 refine .one e7 cq rfl fun a7 bo bp a8=>?_
 conv=>cbv
 refine .add fun ao cb=>?_
 conv=>cbv
 have hte:G7 e7=false:=by unfold G7;rw[cr];exact decide_eq_false h9
 exact .go [7,10] (ao,ba,bb,bo,a7) (cz _ ⟨_,_,b7,Hg,a8,Hg,by omega,by rw[show ao.toNat=i64.toNat+1 by omega,D6 bg,←hwt,←bv,hte];simp,by rw[show ao.toNat=i64.toNat+1 by omega,D6 bg,←hwu,←bv,hte];simp,by simp;omega⟩ mlt)
 conv=>cbv
 have hT:w7=l4.filter G7:=by rw[hwt,List.take_of_length_le (by omega)]
 have hU:w8=l4.filter (fun n=>!G7 n):=by rw[hwu,List.take_of_length_le (by omega)]
 have hTl:=List.length_filter_le G7 l4
 have hUl:=List.length_filter_le (fun n=>!G7 n) l4
 rw[←hT]at hTl
 rw[←hU]at hUl
 generalize ct:Fm w7=l7
 generalize cu:l7.map eOp=ea
 obtain⟨nl7,hnl7⟩:∃m,m=l7.length:=⟨_,rfl⟩
 refine .lntR hP (X8 b7 (by omega) ct cu hnl7) (.ref rfl (by rw[←b7,List.length_map];first|omega|(simp;omega)) .nil) (cu▸Hk (fun _=>rfl) l7) ?_
 conv=>cbv
 have hrl7:l7.length≤w7.length+1:=by rw[←ct];exact Mx
 refine .sub (m:=l7) db cu fun df z8 dv dg=>?_
 conv=>cbv
 refine JoinW.jn (κ:=Int) Hq hP [] [5,6,12] (fun i1=>[(1,I i1)]) (fun i1=>[])
  (fun i1=>i1=W9 version∧0≤i1∧i1≤2) (fun Jj3 hJj3=>?_) ?_
 conv=>cbv
 generalize a6:C5 version=r9
 refine .dd hP (Ko a6) ?_
 cases r9
 simp only[C5,decide_eq_true_eq,decide_eq_false_iff_not]at a6
 conv=>cbv
 exact .go [] (0) (hJj3 _ ⟨by unfold W9;rw[if_neg a6],by omega,by omega⟩)
 simp only[C5,decide_eq_true_eq,decide_eq_false_iff_not]at a6
 conv=>cbv
 exact .go [] (version) (hJj3 _ ⟨by unfold W9;rw[if_pos a6],by omega,by omega⟩)
 rintro i1 ⟨hV,hV0,hV2⟩
 conv=>cbv
 refine .go bm fun v9 c8=>?_
 conv=>cbv
 refine LoopW.lp (κ:=Int×(List (List D))×Nat) Hq hP [10] [1,12,91,92] (fun(ah,ak,al)=>[(5,.ref 11 0 al),(93,I ah)]) (fun(ah,ak,al)=>[(11,.row 4 false ak)])
  (fun(ah,ak,al)=>∃(be:List TOp),be.map eOp=ak∧al=be.length∧(0≤ah∧ah≤l1.length)∧be=w4++l7++((l1.take ah.toNat).flatMap fun x=>E8 (⟨Ae,Ag,Ah,Af,Ao,An⟩:Aa) i1 x.base_)∧be.length≤w4.length+l7.length+5*ah)
  (fun(ah,ak,al)=>(l1.length - ah).toNat) (0,z8,df) ⟨(w4++l7),dg,(by first|omega|(simp;omega)),by omega,by simp,by simp⟩ ⟨rfl,rfl,trivial⟩ rfl ?_
 rintro⟨ah,ak,al⟩ J4 ⟨be,bw,dh,h0,hx,hxl⟩ c0
 have b9:=O4 bi
 have de:=Zw hd bu
 conv=>cbv
 refine .lss (fun h10=>?_) fun h10=>?_
 conv=>cbv
 refine .goX ah.toNat bm fun bz ⟨ag,az,⟨ar,⟨aa,ab,ac,ad⟩,ae,af,am,an⟩⟩ fe11 b0 hfe11=>?_
 replace hfe11:[.sc (.int .i64 ag),.sc (.string az),.sc (.bool ar),.sc (.int .i64 aa),.sc (.int .i64 ab),.sc (.int .i64 ac),.sc (.int .i64 ad),.row 1 (ae.map cS),.row 1 (af.map cI),.sc (.int .i64 am),.sc (.bool an)]=fe11:=hfe11
 generalize cc:ae.map cS=cd at hfe11
 generalize ce:af.map cI=cf at hfe11
 subst hfe11
 conv=>cbv
 have hm:=Sf bi (x:=⟨ag,az,⟨ar,⟨aa,ab,ac,ad⟩,ae,af,am,an⟩⟩) (by rw[b0];exact List.getElem_mem _)
 obtain⟨b8,di,s9,dj⟩:=hm
 simp only[]at b8 di dj
 have hz:=Ka hd b8.symm
 generalize bh:C3 az i1=dk
 have zr12:=Qc bh
 refine .dd hP (Xgk (by omega) bh) ?_
 conv=>cbv
 refine .neq (fun h13=>?_) fun h13=>?_
 conv=>cbv
 generalize b2:F9 ag dk=cv
 generalize cg:cv.map eOp=dw
 refine .dd hP (Xgr b2 cg) ?_
 conv=>cbv
 have dl:cv.length=5:=by rw[←b2];rfl
 refine .row bw cg fun c1 dm dn c2=>?_
 conv=>cbv
 refine .add fun c3 dx=>?_
 conv=>cbv
 have hfo:E8 (⟨Ae,Ag,Ah,Af,Ao,An⟩:Aa) i1 ag=cv:=by unfold E8;rw[←b8,bh,if_neg h13,b2]
 exact .go [15] (c3,dm,c1) (c0 _ ⟨_,c2,Hg,by omega,by rw[show c3.toNat=ah.toNat+1 by omega,L0 bz,←List.append_assoc,←hx,←b0];simp only[];rw[hfo],by rw[List.length_append];omega⟩ mlt)
 conv=>cbv
 refine .add fun c4 dy=>?_
 conv=>cbv
 have hfo:E8 (⟨Ae,Ag,Ah,Af,Ao,An⟩:Aa) i1 ag=[]:=by unfold E8;rw[←b8,bh,if_pos h13]
 exact .go [11] (c4,ak,al) (c0 _ ⟨_,bw,Hg,by omega,by rw[show c4.toNat=ah.toNat+1 by omega,L0 bz,←List.append_assoc,←hx,←b0];simp only[];rw[hfo,List.append_nil],by omega⟩ mlt)
 conv=>cbv
 have hrv:w8.reverse.length=w8.length:=List.length_reverse
 generalize bf:(w8.reverse).map cS=dz
 refine .bx [8] [] hP (I7 cq (by first|rfl|omega|(simp;omega)) (by omega) bf) rfl rfl rfl rfl ?_
 conv=>cbv
 generalize b3:Fm (w8.reverse)=bl
 generalize b4:bl.map eOp=d0
 obtain⟨nl13,hnl13⟩:∃m,m=bl.length:=⟨_,rfl⟩
 refine .lntR hP (X8 bf (by omega) b3 b4 hnl13) (.ref rfl (by rw[←bf,List.length_map];first|omega|(simp;omega)) .nil) (b4▸Hk (fun _=>rfl) bl) ?_
 conv=>cbv
 have hrl13:bl.length≤w8.length+1:=by rw[←b3];have:=Mx (l:=w8.reverse);rw[List.length_reverse]at this;exact this
 have hF:be=w4++l7++(Ex (⟨Ae,Ag,Ah,Af,Ao,An⟩:Aa)).flatMap (E8 (⟨Ae,Ag,Ah,Af,Ao,An⟩:Aa) i1):=by rw[hx,List.take_of_length_le (by omega),←Rd (fun x=>E8 (⟨Ae,Ag,Ah,Af,Ao,An⟩:Aa) i1 x.base_) _ fun x _ _=>rfl,bi]
 refine .sub (m:=bl) bw b4 fun d1 eb dp ch=>?_
 conv=>cbv
 have e:(be++bl)=D1 (⟨Ae,Ag,Ah,Af,Ao,An⟩:Aa) version:=(by unfold D1 Xat;rw[hF,hA,←ct,←b3,hT,hU,hV,bu])
 rw[hr]at e
 subst e
 exact hQ _ _ (.r rfl rfl (by rw[←ch,List.length_map];first|omega|(simp;omega)) (by rw[←ch,←ho]))
theorem XgA{α:Type}{p:α→Bool}{l:List α}{i:Int}(h0:0≤i)(hi:i.toNat<l.length):(l.drop (i - 1+1).toNat).reverse.filter p=(l.drop (i+1).toNat).reverse.filter p++(if p l[i.toNat]then[l[i.toNat]]else[]):=by
 rw[show(i - 1+1).toNat=i.toNat by omega,show(i+1).toNat=i.toNat+1 by omega,List.drop_eq_getElem_cons hi,List.reverse_cons,List.filter_append,List.filter_cons,List.filter_nil]
theorem Wp{l:List ByteArray}(h:false= !l.isEmpty):Fm l=l.map Nc:=by
 have:l=[]:=by cases l with
  |nil=>rfl
  |cons=>cases h
 subst this
 rfl
theorem Tg{l:List ByteArray}(h:true= !l.isEmpty):Fm l=l.map Nc++[⟨6,tx [],tx [],tx []⟩]:=by
 unfold Fm
 rw[if_neg]
 rintro rfl
 cases h
theorem XhP{d:Aa}{l:List ByteArray}{n:ByteArray}(e:Ce d=l)(hn:n∈l):(Bu n).1=1↔G7 n=false:=by
 have:=Ys e n hn
 unfold G7
 rw[decide_eq_false_iff_not]
 omega
theorem Fw:Setup Tryz.prog ((1000095,Eu Tryz.prog 1000095)::((1000088,Eu Tryz.prog 1000088)::((1000057,Eu Tryz.prog 1000057)::Q7))):=(Setup.mark 1000095 (Setup.mark 1000088 (Setup.mark 1000057 Qh)))
theorem XfK(Aj:Ae.map Bg=Bo)(Am:Ag.map Ac=Bl)(At:Ah.map Ac=Bj)(Ap:Af.map cS=Bn)(hd:okD ⟨Ae,Ag,Ah,Af,Ao,An⟩)(hr:D1 (⟨Ae,Ag,Ah,Af,Ao,An⟩:Aa) version=o)(ho:o.map eOp=xo):Fn Tryz.prog 127 [.agg [.d (.row 3 Bo),.d (.row 2 Bl),.d (.row 2 Bj),.d (.row 1 Bn),I Ao,I An],I version] [] ⟨.d (.row 4 xo),[],[]⟩:=by
 refine Fn.go Fw Tryz.func127 fun P hP Q hQ=>?_
 conv=>cbv
 generalize aw:Ex (⟨Ae,Ag,Ah,Af,Ao,An⟩:Aa)=l1
 generalize ax:l1.map cI=d5
 refine .dd hP (XdD Aj Am At Ap hd aw ax) ?_
 conv=>cbv
 refine LoopW.lp (κ:=Int×(List (List D))×Nat) Fw hP [2] [1,2,6] (fun(i7,af,ag)=>[(5,.ref 3 0 ag),(7,I i7)]) (fun(i7,af,ag)=>[(3,.row 4 false af)])
  (fun(i7,af,ag)=>∃(w3:List TOp),w3.map eOp=af∧ag=w3.length∧0≤i7∧i7≤l1.length∧w3=(l1.take i7.toNat).flatMap (Gm (⟨Ae,Ag,Ah,Af,Ao,An⟩:Aa)))
  (fun(i7,af,ag)=>(l1.length - i7).toNat) (0,[],0) ⟨[],rfl,rfl,by omega,by omega,by simp⟩ ⟨rfl,rfl,trivial⟩ rfl ?_
 rintro⟨i7,af,ag⟩ J ⟨w3,bf,dl,h0,h1,hx⟩ hJ
 have bh:=J7 aw
 have hwb:=Xjx (fun x=>Ry x) hx
 conv=>cbv
 refine .go ax fun v2 d6=>?_
 conv=>cbv
 refine .lss (fun h3=>?_) fun h3=>?_
 conv=>cbv
 refine .go i7.toNat ax fun bi e4 b6=>?_
 conv=>cbv
 generalize bo:As e4=r5
 refine .dd hP (H1 bo) ?_
 conv=>cbv
 rcases bp:Fl (⟨Ae,Ag,Ah,Af,Ao,An⟩:Aa) r5 with⟨⟨cv,ct,cu⟩,d7⟩
 refine .dd hP (Xfo Aj Am At Ap hd bp) ?_
 conv=>cbv
 refine .go fun v7 bq=>?_
 conv=>cbv
 refine .neq (fun h8=>?_) fun h8=>?_
 conv=>cbv
 refine .one (⟨4,r5,tx [],tx []⟩:TOp) bf rfl fun cw z9 dm cx=>?_
 conv=>cbv
 refine .add fun ah bj=>?_
 conv=>cbv
 have hso:Gm (⟨Ae,Ag,Ah,Af,Ao,An⟩:Aa) e4=[⟨4,r5,tx [],tx []⟩]:=by unfold Gm;rw[bo,bp,if_neg (by rw[←bq];exact h8)]
 exact .go [6] (ah,z9,cw) (hJ _ ⟨_,cx,Hg,by omega,by omega,by rw[show ah.toNat=i7.toNat+1 by omega,L0 bi,←hx,←b6,hso]⟩ mlt)
 conv=>cbv
 refine .add fun v9 cy=>?_
 conv=>cbv
 have hso:Gm (⟨Ae,Ag,Ah,Af,Ao,An⟩:Aa) e4=[]:=by unfold Gm;rw[bo,bp,if_pos (by rw[←bq];exact h8)]
 exact .go [3] (v9,af,ag) (hJ _ ⟨_,bf,Hg,by omega,by omega,by rw[show v9.toNat=i7.toNat+1 by omega,L0 bi,←hx,←b6,hso,List.append_nil]⟩ mlt)
 conv=>cbv
 have hS:w3=(Ex (⟨Ae,Ag,Ah,Af,Ao,An⟩:Aa)).flatMap (Gm (⟨Ae,Ag,Ah,Af,Ao,An⟩:Aa)):=by rw[hx,List.take_of_length_le (by omega),aw]
 have d8:=Xjx (fun x=>Ry x) hx
 refine JoinW.jn (κ:=(List (List D))×Nat) Fw hP [3] [1,2,6] (fun(ay,az)=>[(5,.ref 4 0 az)]) (fun(ay,az)=>[(4,.row 4 false ay)])
  (fun(ay,az)=>∃(w4:List TOp),w4.map eOp=ay∧az=w4.length∧w4=Zs (⟨Ae,Ag,Ah,Af,Ao,An⟩:Aa)∧w4.length≤17) (fun Jj1 hJj1=>?_) ?_
 conv=>cbv
 refine .go Ap fun v4 b7=>?_
 conv=>cbv
 refine .gtr (fun h5=>?_) fun h5=>?_
 conv=>cbv
 refine .one (⟨6,tx [],tx [],tx []⟩:TOp) bf rfl fun cz z6 dn c0=>?_
 conv=>cbv
 exact .go [6] (z6,cz) (hJj1 _ ⟨_,c0,Hg,by unfold Zs;rw[←hS,if_neg (by intro e;rw[show Af=[]from e]at b7;simp at b7;omega)],by simp;omega⟩)
 conv=>cbv
 exact .go [4] (af,ag) (hJj1 _ ⟨_,bf,Hg,by unfold Zs;rw[←hS,if_pos (List.eq_nil_of_length_eq_zero (show Af.length=0 by omega)),List.append_nil],by omega⟩)
 rintro⟨ay,az⟩ ⟨w4,c1,dp,hA,hAl⟩
 conv=>cbv
 have c2:=bh
 generalize ad:Ce (⟨Ae,Ag,Ah,Af,Ao,An⟩:Aa)=l4
 generalize an:l4.map cS=d9
 refine .dd hP (XbS Aj Am At Ap hd ad an) ?_
 conv=>cbv
 refine LoopW.lp (κ:=Bool×Int×(List (List D))×Nat) Fw hP [4] [1,2,6,11] (fun(ae,ab,ai,aj)=>[(5,.ref 5 0 aj),(12,B ae),(13,I ab)]) (fun(ae,ab,ai,aj)=>[(5,.row 4 false ai)])
  (fun(ae,ab,ai,aj)=>∃(w5:List TOp),w5.map eOp=ai∧aj=w5.length∧(0≤ab∧ab≤l4.length)∧w5=w4++((l4.take ab.toNat).filter G7).map Nc∧ae= !((l4.take ab.toNat).filter G7).isEmpty∧w5.length≤w4.length+ab)
  (fun(ae,ab,ai,aj)=>(l4.length - ab).toNat) (false,0,ay,az) ⟨w4,c1,(by first|omega|(simp;omega)),by omega,by simp,rfl,by simp⟩ ⟨rfl,rfl,rfl,trivial⟩ rfl ?_
 rintro⟨ae,ab,ai,aj⟩ J2 ⟨w5,bg,dq,h0,hwt,hwb,hwl⟩ b8
 have b9:=Zw hd ad
 conv=>cbv
 refine .go an fun v5 ea=>?_
 conv=>cbv
 refine .lss (fun h6=>?_) fun h6=>?_
 conv=>cbv
 refine .go ab.toNat an fun aq e7 a1=>?_
 conv=>cbv
 have hsz7:=Zp hd ad e7 (a1▸List.getElem_mem _)
 rcases bt:Bu e7 with⟨eb,ec⟩
 refine .dd hP (Tc (by omega) bt) ?_
 conv=>cbv
 refine .eql (fun h9=>?_) fun h9=>?_
 conv=>cbv
 refine .go ab.toNat an fun c3 bu ca=>?_
 conv=>cbv
 have cb:bu=e7:=ca.trans a1.symm
 subst cb
 refine .one (⟨1,bu,tx [],tx []⟩:TOp) bg rfl fun cc c4 c5 cd=>?_
 conv=>cbv
 refine .add fun bv dr=>?_
 conv=>cbv
 have hte:G7 bu=true:=by unfold G7;rw[bt];exact decide_eq_true h9
 exact .go [7] (true,bv,c4,cc) (b8 _ ⟨_,cd,Hg,by omega,by rw[show bv.toNat=ab.toNat+1 by omega,D6 aq,←a1,hte,hwt];simp;rfl,by rw[show bv.toNat=ab.toNat+1 by omega,D6 aq,←a1,hte];simp,by simp;omega⟩ mlt)
 conv=>cbv
 refine .add fun ah bj=>?_
 conv=>cbv
 have hte:G7 e7=false:=by unfold G7;rw[bt];exact decide_eq_false h9
 exact .go [5] (ae,ah,ai,aj) (b8 _ ⟨_,bg,Hg,by omega,by rw[show ah.toNat=ab.toNat+1 by omega,D6 aq,←a1,hte,hwt];simp,by rw[show ah.toNat=ab.toNat+1 by omega,D6 aq,←a1,hte,hwb];simp,by omega⟩ mlt)
 conv=>cbv
 have hT:w5=w4++(l4.filter G7).map Nc:=by rw[hwt,List.take_of_length_le (by omega)]
 have hT2:ae= !(l4.filter G7).isEmpty:=by rw[hwb,List.take_of_length_le (by omega)]
 have ds:=b9
 refine JoinW.jn (κ:=(List (List D))×Nat) Fw hP [5] [1,2,6,11] (fun(a2,a6)=>[(5,.ref 6 0 a6)]) (fun(a2,a6)=>[(6,.row 4 false a2)])
  (fun(a2,a6)=>∃(w6:List TOp),w6.map eOp=a2∧a6=w6.length∧w6=w4++Xat (⟨Ae,Ag,Ah,Af,Ao,An⟩:Aa)∧w6.length≤1073741900) (fun Jj3 hJj3=>?_) ?_
 conv=>cbv
 cases ae
 conv=>cbv
 exact .go [6] (ai,aj) (hJj3 _ ⟨_,bg,Hg,by unfold Xat;rw[ad,Wp hT2];exact hT,by omega⟩)
 conv=>cbv
 refine .one (⟨6,tx [],tx [],tx []⟩:TOp) bg rfl fun c6 z7 dt c7=>?_
 conv=>cbv
 exact .go [8] (z7,c6) (hJj3 _ ⟨_,c7,Hg,by unfold Xat;rw[ad,Tg hT2,←List.append_assoc,←hT],by simp;omega⟩)
 rintro⟨a2,a6⟩ ⟨w6,c8,du,hB,hBl⟩
 conv=>cbv
 refine JoinW.jn (κ:=Int) Fw hP [] [2,5,6,11] (fun i1=>[(1,I i1)]) (fun i1=>[])
  (fun i1=>i1=W9 version∧0≤i1∧i1≤2) (fun Jj4 hJj4=>?_) ?_
 conv=>cbv
 generalize bw:Bh version 1 2=r7
 refine .dd hP (Do bw) ?_
 cases r7
 simp only[Bh,decide_eq_true_eq,decide_eq_false_iff_not]at bw
 conv=>cbv
 exact .go [] (0) (hJj4 _ ⟨by unfold W9;rw[if_neg (by omega)],by omega,by omega⟩)
 simp only[Bh,decide_eq_true_eq,decide_eq_false_iff_not]at bw
 conv=>cbv
 exact .go [] (version) (hJj4 _ ⟨by unfold W9;rw[if_pos (by omega)],by omega,by omega⟩)
 rintro i1 ⟨hV,hV0,hV2⟩
 conv=>cbv
 refine LoopW.lp (κ:=Int×(List (List D))×Nat) Fw hP [6] [1,2,6,11] (fun(ac,ak,al)=>[(5,.ref 7 0 al),(16,I ac)]) (fun(ac,ak,al)=>[(7,.row 4 false ak)])
  (fun(ac,ak,al)=>∃(w7:List TOp),w7.map eOp=ak∧al=w7.length∧(0≤ac∧ac≤l1.length)∧w7=w6++(l1.take ac.toNat).flatMap (E8 (⟨Ae,Ag,Ah,Af,Ao,An⟩:Aa) i1)∧w7.length≤w6.length+5*ac)
  (fun(ac,ak,al)=>(l1.length - ac).toNat) (0,a2,a6) ⟨w6,c8,(by first|omega|(simp;omega)),by omega,by simp,by simp⟩ ⟨rfl,rfl,trivial⟩ rfl ?_
 rintro⟨ac,ak,al⟩ J5 ⟨w7,bz,dv,h0,hx,hxl⟩ ce
 have bh:=J7 aw
 conv=>cbv
 refine .go ax fun v7 bq=>?_
 conv=>cbv
 refine .lss (fun h8=>?_) fun h8=>?_
 conv=>cbv
 refine .go ac.toNat ax fun bk e9 b0=>?_
 conv=>cbv
 generalize ar:Dl (⟨Ae,Ag,Ah,Af,Ao,An⟩:Aa) e9=c9
 refine .dd hP (Y6 Aj Am At Ap hd ar) ?_
 conv=>cbv
 have ed:=Ka hd ar
 generalize au:C3 c9 i1=da
 have zr11:=Qc au
 refine .dd hP (XgF (by omega) au) ?_
 conv=>cbv
 refine .neq (fun h12=>?_) fun h12=>?_
 conv=>cbv
 refine .go ac.toNat ax fun db b2 cf=>?_
 conv=>cbv
 have cg:b2=e9:=cf.trans b0.symm
 subst cg
 generalize a7:F9 b2 da=b3
 generalize bl:b3.map eOp=dw
 refine .dd hP (XfV a7 bl) ?_
 conv=>cbv
 have dc:b3.length=5:=by rw[←a7];rfl
 refine .row bz bl fun ch de df ci=>?_
 conv=>cbv
 refine .add fun cj dx=>?_
 conv=>cbv
 have hfo:E8 (⟨Ae,Ag,Ah,Af,Ao,An⟩:Aa) i1 b2=b3:=by unfold E8;rw[ar,au,if_neg h12,a7]
 exact .go [8] (cj,de,ch) (ce _ ⟨_,ci,Hg,by omega,by rw[show cj.toNat=ac.toNat+1 by omega,L0 bk,←List.append_assoc,←hx,←b0,hfo],by rw[List.length_append];omega⟩ mlt)
 conv=>cbv
 refine .add fun ck dy=>?_
 conv=>cbv
 have hfo:E8 (⟨Ae,Ag,Ah,Af,Ao,An⟩:Aa) i1 e9=[]:=by unfold E8;rw[ar,au,if_pos h12]
 exact .go [7] (ck,ak,al) (ce _ ⟨_,bz,Hg,by omega,by rw[show ck.toNat=ac.toNat+1 by omega,L0 bk,←List.append_assoc,←hx,←b0,hfo,List.append_nil],by omega⟩ mlt)
 conv=>cbv
 refine .go an fun v9 cy=>?_
 conv=>cbv
 refine .sub fun ah bj=>?_
 conv=>cbv
 refine LoopW.lp (κ:=Bool×Int×(List (List D))×Nat) Fw hP [7] [11] (fun(am,aa,ao,ap)=>[(5,.ref 8 0 ap),(19,B am),(20,I aa)]) (fun(am,aa,ao,ap)=>[(8,.row 4 false ao)])
  (fun(am,aa,ao,ap)=>∃(w8:List TOp),w8.map eOp=ao∧ap=w8.length∧(-1≤aa∧aa<l4.length)∧w8=w7++((l4.drop (aa+1).toNat).reverse.filter (fun n=>!G7 n)).map Nc∧am= !((l4.drop (aa+1).toNat).reverse.filter (fun n=>!G7 n)).isEmpty∧w8.length≤w7.length+(l4.length - 1 - aa))
  (fun(am,aa,ao,ap)=>(aa+1).toNat) (false,ah,ak,al) ⟨w7,bz,(by first|omega|(simp;omega)),by omega,by rw[List.drop_of_length_le (by omega)];simp,by rw[List.drop_of_length_le (by omega)];rfl,by omega⟩ ⟨rfl,rfl,rfl,trivial⟩ rfl ?_
 rintro⟨am,aa,ao,ap⟩ J6 ⟨w8,a8,dz,h0,hwv,hwc,hwl2⟩ cm
 have b9:=Zw hd ad
 conv=>cbv
 refine .geq (fun h11=>?_) fun h11=>?_
 conv=>cbv
 refine .go aa.toNat an fun dg ba bb=>?_
 conv=>cbv
 have bm:ba∈l4:=bb▸List.getElem_mem _
 have hsz12:=Zp hd ad ba bm
 have hnt:=XhP ad bm
 have hrs:=XgA (p:=(fun n=>!G7 n)) (l:=l4) (i:=aa) (by omega) (by omega)
 rw[←bb]at hrs
 rcases bc:Bu ba with⟨d0,d1⟩
 refine .dd hP (Tc (by omega) bc) ?_
 conv=>cbv
 refine .eql (fun h14=>?_) fun h14=>?_
 conv=>cbv
 refine .go aa.toNat an fun dh b4 cn=>?_
 conv=>cbv
 have b5:b4=ba:=cn.trans bb.symm
 subst b5
 refine .one (⟨1,b4,tx [],tx []⟩:TOp) a8 rfl fun co di dj cp=>?_
 conv=>cbv
 refine .sub fun cq d2=>?_
 conv=>cbv
 have hte:(!G7 b4)=true:=by rw[bc]at hnt;rw[hnt.1 h14];rfl
 rw[hte,if_pos rfl]at hrs
 have bd:cq=aa - 1:=by omega
 exact .go [10] (true,cq,di,co) (cm _ ⟨_,cp,Hg,by omega,by rw[bd,hrs,hwv];simp;rfl,by rw[bd,hrs];simp,by simp;omega⟩ mlt)
 conv=>cbv
 refine .sub fun cr d3=>?_
 conv=>cbv
 have hte:¬((!G7 ba)=true):=by intro hh;rw[bc]at hnt;exact h14 (hnt.2 (by simpa using hh))
 rw[if_neg hte,List.append_nil]at hrs
 have be:cr=aa - 1:=by omega
 exact .go [8] (am,cr,ao,ap) (cm _ ⟨_,a8,Hg,by omega,by rw[be,hrs,hwv],by rw[be,hrs,hwc],by omega⟩ mlt)
 conv=>cbv
 have hE:(l4.drop (aa+1).toNat).reverse.filter (fun n=>!G7 n)=(l4.filter (fun n=>!G7 n)).reverse:=by rw[show(aa+1).toNat=0 by omega,List.drop_zero,List.filter_reverse]
 rw[hE]at hwv hwc
 cases am
 conv=>cbv
 have hF:w7=w4++Xat (⟨Ae,Ag,Ah,Af,Ao,An⟩:Aa)++(Ex (⟨Ae,Ag,Ah,Af,Ao,An⟩:Aa)).flatMap (E8 (⟨Ae,Ag,Ah,Af,Ao,An⟩:Aa) (W9 version)):=by rw[hx,List.take_of_length_le (by omega),aw,←hV,←hB]
 have e:w8=D1 (⟨Ae,Ag,Ah,Af,Ao,An⟩:Aa) version:=(by unfold D1;rw[ad,Wp hwc,←hA,←hF,hwv])
 rw[hr]at e
 subst e
 exact hQ _ _ (.r rfl rfl (by rw[←a8,List.length_map];first|omega|(simp;omega)) (by rw[←a8,←ho]))
 conv=>cbv
 refine .one (⟨6,tx [],tx [],tx []⟩:TOp) a8 rfl fun d4 ee dk bn=>?_
 conv=>cbv
 have hF:w7=w4++Xat (⟨Ae,Ag,Ah,Af,Ao,An⟩:Aa)++(Ex (⟨Ae,Ag,Ah,Af,Ao,An⟩:Aa)).flatMap (E8 (⟨Ae,Ag,Ah,Af,Ao,An⟩:Aa) (W9 version)):=by rw[hx,List.take_of_length_le (by omega),aw,←hV,←hB]
 have e:(w8++[(⟨6,tx [],tx [],tx []⟩:TOp)])=D1 (⟨Ae,Ag,Ah,Af,Ao,An⟩:Aa) version:=(by unfold D1;rw[ad,Tg hwc,←hA,←hF,hwv,List.append_assoc])
 rw[hr]at e
 subst e
 exact hQ _ _ (.r rfl rfl (by rw[←bn,List.length_map];first|omega|(simp;omega)) (by rw[←bn,←ho]))
end
section
open Go Go.Proofs
set_option maxRecDepth 20000
set_option maxHeartbeats 4000000
def XcQ:List (Nat×TyRow):=[ty3,ty5,ty9,XgK,XgG]
theorem Xbm:B9 Tryz.prog XcQ:=B9.of (by kernel_rfl)
theorem Rl:Setup Tryz.prog XcQ:=⟨Xbm,mixed⟩
def fig(x:Int):UInt8:=UInt8.ofNat (if x<10 then 48+x.toNat else 87+x.toNat)
def Fb(x:Int):Int:=(if x<10 then 48+x else 97+x - 10)% 256
theorem XhM{x:Int}(h:0≤x∧x<16):((fig x).toNat:Int)=Fb x:=by
 unfold fig Fb
 split
 ·rw[UInt8.toNat_ofNat',Nat.mod_eq_of_lt (by omega)];omega
 ·rw[UInt8.toNat_ofNat',Nat.mod_eq_of_lt (by omega)];omega
theorem XfH{x r:Int}(hr:Fb x=r)(h:0≤x∧x<16):[D.sc (.int .u8 r)]=cB (fig x):=by
 show _=[D.sc (.int .u8 ((fig x).toNat:Int))]
 rw[XhM h,hr]
theorem fig10(n:Nat):fig ((n% 10:Nat):Int)=UInt8.ofNat (48+n% 10):=by
 unfold fig
 rw[if_pos (by omega),Int.toNat_natCast]
theorem H7:∀(k u:Nat),u<10^ (k+1)→1≤(Lib.decDigits u).length∧(Lib.decDigits u).length≤k+1
 |0,u,h=>by rw[Lib.decDigits,dif_pos (by simpa using h)];simp
 |k+1,u,h=>by
  by_cases hn:u<10
  ·rw[Lib.decDigits,dif_pos hn];simp
  ·rw[Lib.decDigits,dif_neg hn]
   have:=H7 k (u/10) (by rw[Nat.pow_succ]at h;omega)
   simp;omega
def XgU(n:Nat):List UInt8:=if n=0 then[]else Lib.decDigits n
theorem Ra{n:Nat}(h:n≠0):XgU n=XgU (n/10)++[fig ((n% 10:Nat):Int)]:=by
 unfold XgU
 rw[if_neg h,Lib.decDigits,fig10]
 split
 ·rw[if_pos (by omega),Nat.mod_eq_of_lt (by omega)];rfl
 ·rw[if_neg (by omega)]
theorem Xex{u:Nat}(h:u≤9223372036854775808):(XgU u).length≤19:=by
 unfold XgU
 split
 ·simp
 ·exact(H7 18 u (by omega)).2
abbrev Zz(n:Int):Prop:=-9223372036854775808≤n∧n≤9223372036854775807
def Ck(n:Int):ByteArray:=tx (Lib.itoa n)
def Xmg(n:Int):ByteArray:=Ck n
theorem Xis(n:Int)(h:n≠0):Lib.itoa n=(if n<0 then[45]else[])++XgU n.natAbs:=by
 unfold Lib.itoa XgU
 rw[if_neg (show¬n.natAbs=0 by omega)]
 split
 ·rfl
 ·rw[show n.toNat=n.natAbs by omega];rfl
theorem Xjz{n:Int}(h:Zz n):1≤(Lib.itoa n).length∧(Lib.itoa n).length≤20:=by
 unfold Zz at h
 unfold Lib.itoa
 split
 ·have:=H7 18 n.natAbs (by omega)
  simp;omega
 ·have:=H7 18 n.toNat (by omega)
  omega
theorem Sw{n:Int}{o:ByteArray}(e:Ck n=o)(h:Zz n):1≤o.size∧o.size≤20:=by
 rw[←e]
 unfold Ck
 rw[Bz]
 exact Xjz h
theorem ArW.quoT{K:Int→Prop}{a:Int}(h:∀v,v=a.tdiv 10→K v)(hr: -9223372036854775808≤a∧a<9223372036854775808:=by omega):ArW .quo .i64 .i64 a 10 K:=by
 refine⟨a.tdiv 10,?_,h _ rfl⟩
 show(if(10:Int)=0 then none else some (Value.int .i64 (IntKind.i64.wrap (a.tdiv 10))))=_
 rw[if_neg (by decide),N3]
 rcases Int.le_total 0 a with h0|h0
 ·rw[Int.tdiv_eq_ediv_of_nonneg h0];omega
 ·have:a.tdiv 10= -((-a)/10):=by rw[←Int.tdiv_eq_ediv_of_nonneg (by omega),Int.neg_tdiv];omega
  omega
theorem ArW.remT{K:Int→Prop}{k:IntKind}{a:Int}(h:∀v,v=a.tmod 10→K v):ArW .rem k k a 10 K:=by
 refine⟨a.tmod 10,?_,h _ rfl⟩
 show(if k=k then(if(10:Int)=0 then none else some (Value.int k (a.tmod 10)))else none)=_
 rw[if_pos rfl,if_neg (by decide)]
theorem Xmi{a:Int}{q:Nat}(h:a= -(q:Int)):a.tdiv 10= -((q/10:Nat):Int):=by
 subst h
 rw[Int.neg_tdiv,Int.tdiv_eq_ediv_of_nonneg (by omega)]
 omega
theorem XlX{a:Int}{q:Nat}(h:a= -(q:Int)):a.tmod 10= -((q% 10:Nat):Int):=by
 subst h
 rw[Int.neg_tmod,Int.tmod_eq_emod_of_nonneg (by omega)]
 omega
theorem Xmh{a:Int}{q:Nat}(h:a=(q:Int)):a.tdiv 10=((q/10:Nat):Int):=by
 subst h
 rw[Int.tdiv_eq_ediv_of_nonneg (by omega)]
 omega
theorem Xmr{a:Int}{q:Nat}(h:a=(q:Int)):a.tmod 10=((q% 10:Nat):Int):=by
 subst h
 rw[Int.tmod_eq_emod_of_nonneg (by omega)]
 omega
variable {n:Int} {o:ByteArray}
theorem W8(hn:Zz n)(hr:Xmg n=o):Fn Tryz.prog 216 [I n] [] ⟨S o,[],[]⟩:=by
 refine⟨Et Tryz.func216 rfl rfl,CallOk.ofCallsG fun E vs hS hG hA=>?_⟩
 obtain⟨u,rfl,h1⟩:=XjI hA
 rw[Pt h1]
 have ht:=Xll hG
 refine(Tryz.strconv_Itoa n hn.1 hn.2 E.w ht).mono ?_
 rintro e w' ⟨rfl,k,os,rfl⟩
 exact⟨_,rfl,Lib.below_grow _ _ (Nat.le_refl _) k os,by rw[←hr];exact .sc _ rfl⟩
theorem M7{x:Int}{o:Int}(hx:0≤x∧x<16)(hr:Fb x=o):Fn Tryz.prog 136 [I x] [] ⟨.d (.sc (.int .u8 o)),[],[]⟩:=by
 refine Fn.go Rl Tryz.func136 fun P hP Q hQ=>?_
 conv=>cbv
 refine .lss (fun h1=>?_) fun h1=>?_
 conv=>cbv
 refine .add fun v2 aa=>?_
 conv=>cbv
 refine .go fun v3 ab=>?_
 conv=>cbv
 have e:v3=Fb x:=(by rw[ab,Lr,aa];unfold Fb;rw[if_pos (by omega)])
 rw[hr]at e
 subst e
 exact hQ _ _ (.i rfl rfl)
 conv=>cbv
 refine .add fun v2 aa=>?_
 conv=>cbv
 refine .sub fun v3 ab=>?_
 conv=>cbv
 refine .go fun v4 ac=>?_
 conv=>cbv
 have e:v4=Fb x:=(by rw[ac,Lr,ab,aa];unfold Fb;rw[if_neg (by omega)])
 rw[hr]at e
 subst e
 exact hQ _ _ (.i rfl rfl)
theorem XcR(hn:Zz n)(hr:Ck n=o):Fn Tryz.prog 144 [I n] [] ⟨S o,[],[]⟩:=by
 refine Fn.go Rl Tryz.func144 fun P hP Q hQ=>?_
 conv=>cbv
 generalize aa:Xmg n=r1
 refine .dd hP (W8 hn aa) ?_
 conv=>cbv
 have e:r1=Ck n:=(by exact aa.symm)
 rw[hr]at e
 subst e
 exact hQ _ _ (.s rfl rfl)
theorem XcI(hn:Zz n)(hr:Ck n=o):Fn Tryz.prog 56 [I n] [] ⟨S o,[],[]⟩:=by
 refine Fn.go Rl Tryz.func56 fun P hP Q hQ=>?_
 conv=>cbv
 refine .eql (fun h1=>?_) fun h1=>?_
 conv=>cbv
 have e:(tx [48])=Ck n:=(by unfold Ck;rw[h1,show Lib.itoa 0=[48]by unfold Lib.itoa;rw[if_neg (by decide),Lib.decDigits];rfl])
 rw[hr]at e
 subst e
 exact hQ _ _ (.s rfl rfl)
 conv=>cbv
 refine .lss (fun h2=>?_) fun h2=>?_
 conv=>cbv
 refine LoopW.lp (κ:=Int×ByteArray) Rl hP [] [3] (fun(i0,s4)=>[(0,I i0),(4,S s4)]) (fun(i0,s4)=>[])
  (fun(i0,s4)=>∃(q:Nat) (w:List UInt8),s4=tx w∧XgU n.natAbs=XgU q++w∧q≤n.natAbs∧(n<0→i0= -(q:Int))∧(0≤n→i0=(q:Int)))
  (fun(i0,s4)=>i0.natAbs) (n,tx []) ⟨n.natAbs,[],rfl,by simp,by omega,by omega,by omega⟩ ⟨rfl,rfl,trivial⟩ rfl ?_
 rintro⟨i0,s4⟩ J ⟨q,w,aa,hw,hq,hiN,hiP⟩ hJ
 have hwl:=congrArg List.length hw
 rw[List.length_append]at hwl
 have hdl:=Xex (u:=n.natAbs) (by unfold Zz at hn;omega)
 have ai:s4.size=w.length:=by rw[aa,Bz]
 have et:(n<0→i0.tdiv 10= -((q/10:Nat):Int))∧(0≤n→i0.tdiv 10=((q/10:Nat):Int)):=⟨fun h=>Xmi (hiN h),fun h=>Xmh (hiP h)⟩
 have em:(n<0→i0.tmod 10= -((q% 10:Nat):Int))∧(0≤n→i0.tmod 10=((q% 10:Nat):Int)):=⟨fun h=>XlX (hiN h),fun h=>Xmr (hiP h)⟩
 have hn_:=hn
 unfold Zz at hn_
 conv=>cbv
 refine .neq (fun h3=>?_) fun h3=>?_
 conv=>cbv
 refine .remT fun v4 ak=>?_
 conv=>cbv
 refine .lss (fun h5=>?_) fun h5=>?_
 conv=>cbv
 refine .go fun v6 al=>?_
 conv=>cbv
 generalize ad:Fb v6=r7
 refine .dd hP (M7 (by omega) ad) ?_
 conv=>cbv
 refine .go (l:=[fig ((q% 10:Nat):Int)]) (by show[cB (fig _)]=_;rw[show((q% 10:Nat):Int)=v6 by omega,←XfH ad (by omega)]) (hn:=rfl) fun s8 ab=>?_
 conv=>cbv
 have ag:s8.size=1:=by rw[ab];rfl
 refine .go fun s9 ae am=>?_
 conv=>cbv
 refine .quoT fun ah aj=>?_
 conv=>cbv
 exact .go [] (ah,s9) (hJ _ ⟨q/10,fig ((q% 10:Nat):Int)::w,by first|(rw[ae,ab,aa,Dw];rfl)|(rw[ab,ac,aa,Dw];rfl),by rw[hw,Ra (show q≠0 by omega),List.append_assoc];rfl,by omega,by omega,by omega⟩ mlt)
 conv=>cbv
 generalize af:Fb v4=r6
 refine .dd hP (M7 (by omega) af) ?_
 conv=>cbv
 refine .go (l:=[fig ((q% 10:Nat):Int)]) (by show[cB (fig _)]=_;rw[show((q% 10:Nat):Int)=v4 by omega,←XfH af (by omega)]) (hn:=rfl) fun s7 ac=>?_
 conv=>cbv
 have an:s7.size=1:=by rw[ac];rfl
 refine .go fun s8 ab ag=>?_
 conv=>cbv
 refine .quoT fun v9 ao=>?_
 conv=>cbv
 exact .go [] (v9,s8) (hJ _ ⟨q/10,fig ((q% 10:Nat):Int)::w,by first|(rw[ae,ab,aa,Dw];rfl)|(rw[ab,ac,aa,Dw];rfl),by rw[hw,Ra (show q≠0 by omega),List.append_assoc];rfl,by omega,by omega,by omega⟩ mlt)
 conv=>cbv
 refine .litL 1 fun s4 aa ai=>?_
 conv=>cbv
 have e:s4=Ck n:=(by unfold Ck;rw[Xis n h1,if_pos h2,hw,show q=0 by omega,aa];rename_i hs4_ _;rw[hs4_];show tx [45]++tx _=_;rw[Dw];rfl)
 rw[hr]at e
 subst e
 exact hQ _ _ (.s rfl rfl)
 conv=>cbv
 refine LoopW.lp (κ:=Int×ByteArray) Rl hP [] [3] (fun(i0,s4)=>[(0,I i0),(4,S s4)]) (fun(i0,s4)=>[])
  (fun(i0,s4)=>∃(q:Nat) (w:List UInt8),s4=tx w∧XgU n.natAbs=XgU q++w∧q≤n.natAbs∧(n<0→i0= -(q:Int))∧(0≤n→i0=(q:Int)))
  (fun(i0,s4)=>i0.natAbs) (n,tx []) ⟨n.natAbs,[],rfl,by simp,by omega,by omega,by omega⟩ ⟨rfl,rfl,trivial⟩ rfl ?_
 rintro⟨i0,s4⟩ J ⟨q,w,aa,hw,hq,hiN,hiP⟩ hJ
 have hwl:=congrArg List.length hw
 rw[List.length_append]at hwl
 have hdl:=Xex (u:=n.natAbs) (by unfold Zz at hn;omega)
 have ai:s4.size=w.length:=by rw[aa,Bz]
 have et:(n<0→i0.tdiv 10= -((q/10:Nat):Int))∧(0≤n→i0.tdiv 10=((q/10:Nat):Int)):=⟨fun h=>Xmi (hiN h),fun h=>Xmh (hiP h)⟩
 have em:(n<0→i0.tmod 10= -((q% 10:Nat):Int))∧(0≤n→i0.tmod 10=((q% 10:Nat):Int)):=⟨fun h=>XlX (hiN h),fun h=>Xmr (hiP h)⟩
 have hn_:=hn
 unfold Zz at hn_
 conv=>cbv
 refine .neq (fun h3=>?_) fun h3=>?_
 conv=>cbv
 refine .remT fun v4 ak=>?_
 conv=>cbv
 refine .lss (fun h5=>?_) fun h5=>?_
 conv=>cbv
 refine .go fun v6 al=>?_
 conv=>cbv
 generalize ad:Fb v6=r7
 refine .dd hP (M7 (by omega) ad) ?_
 conv=>cbv
 refine .go (l:=[fig ((q% 10:Nat):Int)]) (by show[cB (fig _)]=_;rw[show((q% 10:Nat):Int)=v6 by omega,←XfH ad (by omega)]) (hn:=rfl) fun s8 ab=>?_
 conv=>cbv
 have ag:s8.size=1:=by rw[ab];rfl
 refine .go fun s9 ae am=>?_
 conv=>cbv
 refine .quoT fun ah aj=>?_
 conv=>cbv
 exact .go [] (ah,s9) (hJ _ ⟨q/10,fig ((q% 10:Nat):Int)::w,by first|(rw[ae,ab,aa,Dw];rfl)|(rw[ab,ac,aa,Dw];rfl),by rw[hw,Ra (show q≠0 by omega),List.append_assoc];rfl,by omega,by omega,by omega⟩ mlt)
 conv=>cbv
 generalize af:Fb v4=r6
 refine .dd hP (M7 (by omega) af) ?_
 conv=>cbv
 refine .go (l:=[fig ((q% 10:Nat):Int)]) (by show[cB (fig _)]=_;rw[show((q% 10:Nat):Int)=v4 by omega,←XfH af (by omega)]) (hn:=rfl) fun s7 ac=>?_
 conv=>cbv
 have an:s7.size=1:=by rw[ac];rfl
 refine .go fun s8 ab ag=>?_
 conv=>cbv
 refine .quoT fun v9 ao=>?_
 conv=>cbv
 exact .go [] (v9,s8) (hJ _ ⟨q/10,fig ((q% 10:Nat):Int)::w,by first|(rw[ae,ab,aa,Dw];rfl)|(rw[ab,ac,aa,Dw];rfl),by rw[hw,Ra (show q≠0 by omega),List.append_assoc];rfl,by omega,by omega,by omega⟩ mlt)
 conv=>cbv
 have e:s4=Ck n:=(by unfold Ck;rw[Xis n h1,if_neg (by omega),hw,show q=0 by omega,aa];rfl)
 rw[hr]at e
 subst e
 exact hQ _ _ (.s rfl rfl)
end
section
open Go Go.Proofs
set_option maxRecDepth 20000
set_option maxHeartbeats 4000000
end
section
open Go Go.Proofs
set_option maxRecDepth 20000
set_option maxHeartbeats 4000000
open Go.Lib
open Go.RowKit
abbrev zE:Value:=.agg #[.string ⟨#[]⟩,.int .i64 0]
theorem Xgh:∃i,Tryz.prog.info? 133=some i∧i.zero=some zE∧i.size=2∧i.bytes=24:=by
 have h:(Tryz.prog.info? 133).map (fun i=>(i.zero,i.size,i.bytes))=some (some zE,2,24):=by kernel_rfl
 obtain⟨i,hi,h⟩:=Option.map_eq_some_iff.1 h
 simp only[Prod.mk.injEq]at h
 exact⟨i,hi,h.1,h.2.1,h.2.2⟩
theorem U6{w:World}{b o:Nat}{vs:List Value}{N:Nat}(h:∀j,j<N→(w.cell? ⟨b,j,none⟩).isSome=true)(hle:o+vs.length≤N):∀j,j<N→((w.setCells b o vs).cell? ⟨b,j,none⟩).isSome=true:=
 fun j hj=>isSome_setCells b _ _ _ (fun t ht=>h _ (by omega)) _ (h _ hj)
theorem Xmb(w:World)(ty b o c:Nat)(hc:∀j,j<2→(w.cell? ⟨b,o+j,none⟩).isSome=true)(hf:∀j,j<2→w.frozen? ⟨b,o+j,none⟩=false):
  (Builtin.clear_ #[38] ty #[.slice (some ⟨b,o,none⟩) 1 c]).run Tryz.prog w= .ok (.tuple #[]) (w.setCells b o [.string ⟨#[]⟩,.int .i64 0]):=by
 obtain⟨i,hi,hz,hs,_⟩:=Xgh
 have hst:=run_storeCells_cells (P:=Tryz.prog) b o [.string ⟨#[]⟩,.int .i64 0] 0 w (by simpa using hc) (by simpa using hf) (by intro v hv;simp at hv;rcases hv with rfl|rfl<;>rfl)
 simp only[Nat.add_zero]at hst
 have hzc:(Builtin.zeroCells zE.cells 1).toList=[.string ⟨#[]⟩,.int .i64 0]:=by simp[Builtin.zeroCells,Value.cells,List.range_succ]
 simp[Builtin.clear_,run_underlying Tryz.underlying38,zeroValue,typeInfo,hi,hz,hzc,hst]
theorem delE(b n cap i j:Nat)(w:World)(cs:List Value)(hi:i<n)(hj:j=i+1)(hnc:n≤cap)(hm:n≤4000000000)(hcl:cs.length=n*2)(h1c:∀u∈cs,u.oneCell'=true)
  (hcs:∀j v,cs[j]? =some v→w.cell? ⟨b,j,none⟩=some v)(hfz:∀j,j<n*2→w.frozen? ⟨b,j,none⟩=false):
  Calls Tryz.prog 308 #[.slice (some ⟨b,0,none⟩) n cap,.int .i64 i,.int .i64 j] w fun e w'=>e= .returned (.slice (some ⟨b,0,none⟩) (n - 1) cap)∧
   w'=(w.drew.setCells b (i*2) (cs.drop (j*2))).setCells b ((n - 1)*2) [.string ⟨#[]⟩,.int .i64 0]:=by
 obtain⟨i0,aa,ac,ab,ad⟩:=Xgh
 have hlen:(cs.drop (j*2)).length=(n - j)*2:=by rw[List.length_drop];omega
 obtain⟨A,hA,hsrc⟩:∃A:Addr,(if cap=j then some (⟨b,0,none⟩:Addr)else some ⟨b,j*2,none⟩)=some A∧Hid (∀t u,(cs.drop (j*2))[t]? =some u→w.drew.cell? (A.add t)=some u):=by
  by_cases h:cap=j
  ·refine⟨⟨b,0,none⟩,by simp[h],fun t u hu=>?_⟩
   have h0:(cs.drop (j*2)).length=0:=by omega
   rw[List.length_eq_zero_iff.1 h0]at hu
   simp at hu
  ·refine⟨⟨b,j*2,none⟩,by simp[h],fun t u hu=>?_⟩
   rw[List.getElem?_drop]at hu
   rw[Addr.add_lit]
   exact hcs _ _ hu
 have s1:Hid ((cs.drop (j*2)).length=(n - j)*2):=hlen
 have s2:Hid (∀u∈cs.drop (j*2),u.oneCell'=true):=fun u hu=>h1c u (List.mem_of_mem_drop hu)
 have hsome:∀j,j<n*2→(w.cell? ⟨b,j,none⟩).isSome=true:=fun j hj=>by rw[hcs j _ (List.getElem?_eq_getElem (by omega))];rfl
 have s3:Hid (∀t,t<(cs.drop (j*2)).length→(w.drew.cell? ⟨b,0+i*2+t,none⟩).isSome=true∧w.drew.frozen? ⟨b,0+i*2+t,none⟩=false):=by
  intro t ht
  exact⟨hsome _ (by omega),hfz _ (by omega)⟩
 obtain⟨W1,hW1⟩:∃W1,W1=w.drew.setCells b (0+i*2) (cs.drop (j*2)):=⟨_,rfl⟩
 have hcl:∀ty,(Builtin.clear_ #[38] ty #[.slice (some ⟨b,(i+(n - j))*2,none⟩) (n - (i+(n - j))) (cap - (i+(n - j)))]).run Tryz.prog W1= .ok (.tuple #[]) (W1.setCells b ((n - 1)*2) [.string ⟨#[]⟩,.int .i64 0]):=fun ty=>by
  rw[show n - (i+(n - j))=1 by omega,show i+(n - j)=n - 1 by omega]
  refine Xmb W1 ty b ((n - 1)*2) _ (fun k hk=>?_) (fun k hk=>?_)
  ·rw[hW1]
   exact U6 (w:=w.drew) hsome (by omega) _ (by omega)
  ·rw[hW1,World.frozen?_setCells]
   exact hfz _ (by omega)
 have hW:Hid (W1=w.drew.setCells b (0+i*2) (cs.drop (j*2))):=hW1
 have hic:i≤cap:=by omega
 have hjc:j≤cap:=by omega
 have hij:i≤j:=by omega
 have hjn:j≤n:=by omega
 have hne:¬(i:Int)=(j:Int):=by omega
 have mixed:Tryz.prog.follows .mixedOrders=true:=by kernel_rfl
 have hjH:Hid (j=i+1):=hj
 have hjl:i<j:=by omega
 clear hj hW1 hlen hsome hcs hfz
 go_enter Tryz.func308,Tryz.ntmps308
 go_wp2_with fail
 go_region_law_o (refine step_append_room rfl (.tmp 22) (.tmp 25) 38 rfl 133 i0 2 Tryz.underlying38 aa ab b 0 i cap (by simp[Act.eval,Act.put]) A (n - j) (cap - j) (cs.drop (j*2)) (by simp[Act.eval,Act.put]) s1.out hsrc.out s2.out (by omega) s3.out ?_;rw[←hW.out])
 go_wp2
 go_ret
 refine⟨by have:=hjH.out;rw[show n - 1=i+(n - j)by omega];rfl,?_⟩
 rw[hW.out,Nat.zero_add]
theorem Ia{P:Program}(w:World)(dT sT ty elem sz:TypeId)(b o dLen dCap:Nat)(a:Addr)(Xlg sCap:Nat)(cs:List Value)
  (hu:P.underlying dT=some (.slice elem))(hs:(P.info? elem).map (·.size)=some sz)(hn:cs.length=Nat.min Xlg dLen*sz)
  (hsrc:∀j v,cs[j]? =some v→w.cell? (a.add j)=some v)(hc:∀j,j<cs.length→(w.cell? ⟨b,o+j,none⟩).isSome=true)(hf:∀j,j<cs.length→w.frozen? ⟨b,o+j,none⟩=false)(h1:∀v∈cs,v.oneCell'=true):
  (Builtin.copy_ #[dT,sT] ty #[.slice (some ⟨b,o,none⟩) dLen dCap,.slice (some a) Xlg sCap]).run P w= .ok (goInt (Nat.min Xlg dLen)) (w.setCells b o cs):=by
 have hl:=run_loadCells_list (P:=P) w a cs hsrc
 have hst:=run_storeCells_cells (P:=P) b o cs 0 w (by simpa using hc) (by simpa using hf) h1
 cases hq:P.info? elem with
 |none=>simp[hq]at hs
 |some i=>
  have hi:i.size=sz:=by simpa[hq]using hs
  simp[Builtin.copy_,run_underlying hu,Builtin.lenOf,Builtin.firstCells,sizeOf,typeInfo,hq,hi,←hn,hl,hst]
theorem szE:(Tryz.prog.info? 133).map (·.size)=some 2:=by kernel_rfl
theorem Xf8(b n c i vb vc:Nat)(cs vs:List Value)(w:World)(hi:i<n)(hroom:n+1≤c)(hm:n≤4000000000)(hvb:vb≠b)
  (hcl:cs.length=n*2)(hvl:vs.length=2)
  (hcs:∀j v,cs[j]? =some v→w.cell? ⟨b,j,none⟩=some v)(hsp:∀j,j<(n+1)*2→(w.cell? ⟨b,j,none⟩).isSome=true)(hfz:∀j,j<(n+1)*2→w.frozen? ⟨b,j,none⟩=false)
  (hvs:∀j v,vs[j]? =some v→w.cell? ⟨vb,j,none⟩=some v)(h1c:∀v∈cs,v.oneCell'=true)(h1v:∀v∈vs,v.oneCell'=true)
  (tA tB:TypeId)(kA kB:Nat)(hsa:w.shape? vb=some (tA,kA))(hsb:w.shape? b=some (tB,kB))(hkB:kB≠0)(hfa:w.frozen? ⟨vb,0,none⟩=false)(hfe:w.frozen? ⟨vb,kA,none⟩=false):
  Calls Tryz.prog 307 #[.slice (some ⟨b,0,none⟩) n c,.int .i64 i,.slice (some ⟨vb,0,none⟩) 1 vc] w fun e w'=>
   e= .returned (.slice (some ⟨b,0,none⟩) (n+1) c)∧w'=(w.drew.setCells b ((i+1)*2) (cs.drop (i*2))).setCells b (i*2) vs:=by
 have ab:¬((i:Int)=(n:Int)):=by omega
 have hsz:=szE
 obtain⟨i0,aa,ac,hzs,hzb⟩:=Xgh
 have hszo:∀w,(Go.sizeOf 133).run Tryz.prog w= .ok 2 w:=fun w=>by simp[Go.sizeOf,typeInfo,aa,hzs]
 have hov:∀lb cb,(callFunc 332 #[.slice (some ⟨vb,0,none⟩) 1 vc,.slice (some ⟨b,(i+1)*2,none⟩) lb cb]).run Tryz.prog w= .ok (.value (.bool false)) w:=fun lb cb=>by
  rw[run_callFunc_extern Tryz.func332 (by kernel_rfl) (by kernel_rfl) (by kernel_rfl) (e:=Extern.SlicesOverlaps.overlaps #[38,38] #[4]) (by kernel_rfl),
   Lib.run_overlaps_apart w 38 4 133 Tryz.underlying38 2 hszo ⟨vb,0,none⟩ ⟨b,(i+1)*2,none⟩ 1 vc lb cb hvb tA tB kA kB hsa hsb hkB hfa hfe]
  rfl
 have hdl:(cs.drop (i*2)).length=(n - i)*2:=by rw[List.length_drop,hcl];omega
 have mixed:Tryz.prog.follows .mixedOrders=true:=by kernel_rfl
 have ad:IntKind.i64.wrap ((i:Int)+1)=(i:Int)+1:=by rw[IntKind.wrap_i64];omega
 have ae:(0:Int)≤(i:Int)+1:=by omega
 have hin:i≤n:=by omega
 have htn:((i:Int)+1).toNat=i+1:=by omega
 have hb2:¬(c=i+1):=by omega
 have af:(i:Int)≤(n:Int)+1:=by omega
 have ag:¬(c=i):=by omega
 have hcp1:∀ty dc sc,(Builtin.copy_ #[38,38] ty #[.slice (some ⟨b,(i+1)*2,none⟩) (n - i) dc,.slice (some ⟨b,i*2,none⟩) (n+1 - i) sc]).run Tryz.prog w.drew= .ok (goInt (Nat.min (n+1 - i) (n - i))) (w.drew.setCells b ((i+1)*2) (cs.drop (i*2))):=fun ty dc sc=>
  Ia w.drew _ _ ty 133 2 b ((i+1)*2) (n - i) dc ⟨b,i*2,none⟩ (n+1 - i) sc (cs.drop (i*2)) Tryz.underlying38 hsz (by rw[hdl];simp only[Nat.min_def];split<;>omega)
   (fun j v hj=>by rw[Addr.add_lit];exact hcs (i*2+j) v (by rwa[List.getElem?_drop]at hj))
   (fun j hj=>hsp _ (by omega)) (fun j hj=>hfz _ (by omega)) (fun v hv=>h1c v (List.mem_of_mem_drop hv))
 obtain⟨W1,hW1⟩:∃W1,W1=w.drew.setCells b ((i+1)*2) (cs.drop (i*2)):=⟨_,rfl⟩
 have hsp1:∀k,k<(n+1)*2→(W1.cell? ⟨b,k,none⟩).isSome=true:=fun k hk=>by
  rw[hW1]
  exact U6 (w:=w.drew) hsp (by omega) _ hk
 have hcp2:∀(W:World),(∀x,W.cell? x=W1.cell? x)→(∀x,W.frozen? x=W1.frozen? x)→∀ty dc,(Builtin.copy_ #[38,38] ty #[.slice (some ⟨b,i*2,none⟩) (n+1 - i) dc,.slice (some ⟨vb,0,none⟩) 1 vc]).run Tryz.prog W= .ok (goInt (Nat.min 1 (n+1 - i))) (W.setCells b (i*2) vs):=fun W hWc hWf ty dc=>
  Ia W _ _ ty 133 2 b (i*2) (n+1 - i) dc ⟨vb,0,none⟩ 1 vc vs Tryz.underlying38 hsz (by rw[hvl];simp only[Nat.min_def];split<;>omega)
   (fun j v hj=>by
    rw[Addr.add_lit,hWc,hW1,World.cell?_setCells_out b _ _ _ _ (fun h _=>absurd h hvb),Nat.zero_add]
    exact hvs j v hj)
   (fun j hj=>by rw[hWc];exact hsp1 _ (by omega)) (fun j hj=>by rw[hWf,hW1,World.frozen?_setCells];exact hfz _ (by omega)) h1v
 rw[←hW1]at hcp1
 go_enter Tryz.func307,Tryz.ntmps307
 go_wp2_with (simp only[hov])
 go_region_law_o (refine step_copy_runI rfl _ _ 38 38 rfl _ _ (by simp[Act.eval,Act.put]) (by simp[Act.eval,Act.put]) (hcp1 _ _ _) ?_)
 go_wp2_with (at_builtin;refine wpList_copy_runI _ rfl _ _ 38 38 rfl _ _ rfl rfl (hcp2 _ (fun _=>rfl) (fun _=>rfl) _ _) ?_)
 go_ret
 first|exact⟨rfl,rfl⟩|exact⟨rfl,by rw[hW1]⟩
theorem XlL{need old:Nat}(h:old<need)(hb:need≤1000000000*8):Builtin.nextslicecap need old*24≤281474976710656:=by
 have:=Yr h
 have:=Nat.mul_le_mul_right 24 this
 omega
theorem Xar(b n c vb vc:Nat)(vs:List Value)(w:World)(hroom:n+1≤c)(hm:n≤4000000000)
  (hvl:vs.length=2)(hsp:∀j,j<2→(w.cell? ⟨b,n*2+j,none⟩).isSome=true)(hfz:∀j,j<2→w.frozen? ⟨b,n*2+j,none⟩=false)
  (hvs:∀j v,vs[j]? =some v→w.cell? ⟨vb,j,none⟩=some v)(h1v:∀v∈vs,v.oneCell'=true):
  Calls Tryz.prog 307 #[.slice (some ⟨b,0,none⟩) n c,.int .i64 n,.slice (some ⟨vb,0,none⟩) 1 vc] w fun e w'=>
   e= .returned (.slice (some ⟨b,0,none⟩) (n+1) c)∧w'=w.setCells b (n*2) vs:=by
 obtain⟨i0,aa,ab,hzs,hzb⟩:=Xgh
 have hsrc:Go.Src Tryz.prog i0.size 38 (.slice (some ⟨vb,0,none⟩) 1 vc) 1 vs w:=by
  rw[hzs]
  exact Go.Src.ofSlice w Tryz.underlying38 ⟨vb,0,none⟩ 1 vc vs (by omega) (fun j u hj=>by rw[Addr.add_lit,Nat.zero_add];exact hvs j u hj) h1v
 have hrun:∀ty,(Builtin.append_ #[38,38] ty #[.slice (some ⟨b,0,none⟩) n c,.slice (some ⟨vb,0,none⟩) 1 vc]).run Tryz.prog w= .ok (.slice (some ⟨b,0,none⟩) (n+1) c) (w.setCells b (n*2) vs):=fun ty=>by
  have h:=run_append_room_src w 38 38 ty 133 i0 Tryz.underlying38 aa b 0 n c _ 1 vs hsrc hroom (fun j hj=>by rw[hzs,Nat.zero_add];exact hsp j (by omega)) (fun j hj=>by rw[hzs,Nat.zero_add];exact hfz j (by omega))
  rw[hzs,Nat.zero_add]at h
  exact h
 go_enter Tryz.func307,Tryz.ntmps307
 go_wp2_with (at_builtin;refine Lib.wpList_append_run _ rfl _ _ _ _ rfl _ _ rfl rfl _ _ (hrun _) ?_)
 go_ret
 exact⟨rfl,rfl⟩
theorem Rt(base:Option Addr)(n c vb vc:Nat)(cs vs:List Value)(w:World)(hnc:n≤c)(hroom:c<n+1)(hbig:n≤4000000000)
  (hcl:cs.length=n*2)(hvl:vs.length=2)(hnil:base=none→n=0)
  (hcs:∀a,base=some a→∀j v,cs[j]? =some v→w.cell? (a.add j)=some v)
  (hvs:∀j v,vs[j]? =some v→w.cell? ⟨vb,j,none⟩=some v)(h1v:∀v∈vs,v.oneCell'=true):
  Calls Tryz.prog 307 #[.slice base n c,.int .i64 n,.slice (some ⟨vb,0,none⟩) 1 vc] w fun e w'=>
   e= .returned (.slice (some ⟨w.heap.size,0,none⟩) (n+1) (grownCap w (n+1) c 133))∧
   w'=w.drew.alloc (.cells ((cs++vs).toArray++Builtin.zeroCells zE.cells (grownCap w (n+1) c 133 - (n+1))) 133):=by
 obtain⟨i0,aa,ac,hzs,hzb⟩:=Xgh
 have hsrc:Go.Src Tryz.prog i0.size 38 (.slice (some ⟨vb,0,none⟩) 1 vc) 1 vs w:=by
  rw[hzs]
  exact Go.Src.ofSlice w Tryz.underlying38 ⟨vb,0,none⟩ 1 vc vs (by omega) (fun j u hj=>by rw[Addr.add_lit,Nat.zero_add];exact hvs j u hj) h1v
 have hold:(Builtin.firstCells i0.size n (.slice base n c)).run Tryz.prog w.drew= .ok cs.toArray w.drew:=by
  rw[hzs]
  cases base with
  |none=>
   have h0:=hnil rfl
   subst h0
   rw[List.length_eq_zero_iff.1 hcl]
   exact run_firstCells_none w.drew 2 0 0 c
  |some a=>exact run_firstCells_some w.drew 2 n a n c cs (by omega) (fun j v hj=>hcs a rfl j v hj)
 have hrun:∀ty,(Builtin.append_ #[38,38] ty #[.slice base n c,.slice (some ⟨vb,0,none⟩) 1 vc]).run Tryz.prog w=_:=fun ty=>
  run_append_grow_src w 38 38 ty 133 i0 _ Tryz.underlying38 aa ac base n c cs hold _ 1 vs hsrc hroom (by omega) (by rw[hzb];exact XlL hroom (by omega))
 go_enter Tryz.func307,Tryz.ntmps307
 cases base with
 |none=>
  have h0:=hnil rfl
  subst h0
  go_wp2_with (at_builtin;refine Lib.wpList_append_run _ rfl _ _ _ _ rfl _ _ rfl rfl _ _ (hrun _) ?_)
  go_ret
  exact⟨rfl,rfl⟩
 |some a=>
  obtain⟨ab,ao,asp⟩:=a
  go_wp2_with (at_builtin;refine Lib.wpList_append_run _ rfl _ _ _ _ rfl _ _ rfl rfl _ _ (hrun _) ?_)
  all_goals (go_ret;exact⟨rfl,rfl⟩)
theorem XgO(b n c i vb vc:Nat)(cs vs:List Value)(w:World)(hi:i<n)(hnc:n≤c)(hroom:c<n+1)(hbig:n≤4000000000)
  (hcl:cs.length=n*2)(hvl:vs.length=2)
  (hcs:∀j v,cs[j]? =some v→w.cell? ⟨b,j,none⟩=some v)
  (hvs:∀j v,vs[j]? =some v→w.cell? ⟨vb,j,none⟩=some v)(h1c:∀v∈cs,v.oneCell'=true)(h1v:∀v∈vs,v.oneCell'=true):
  Calls Tryz.prog 307 #[.slice (some ⟨b,0,none⟩) n c,.int .i64 i,.slice (some ⟨vb,0,none⟩) 1 vc] w fun e w'=>
   e= .returned (.slice (some ⟨w.heap.size,0,none⟩) (n+1) (grownCap w (n+1) c 133))∧
   w'=(((w.alloc (.cells ((cs.take (i*2)).toArray++Builtin.zeroCells zE.cells (n+1 - i)++Builtin.zeroCells zE.cells (grownCap w (n+1) c 133 - (n+1))) 133)).drew.setCells w.heap.size (i*2) vs).drew).setCells w.heap.size ((i+1)*2) (cs.drop (i*2)):=by
 have mixed:Tryz.prog.follows .mixedOrders=true:=by kernel_rfl
 obtain⟨i0,aa,ab,hzs,hzb⟩:=Xgh
 have ac:¬((i:Int)=(n:Int)):=by omega
 have ad:(c:Int)<(n:Int)+1:=by omega
 have hsz:=szE
 have hbw:b<w.heap.size:=block_lt_of_cell (hcs 0 _ (List.getElem?_eq_getElem (by omega)))
 have hvw:vb<w.heap.size:=block_lt_of_cell (hvs 0 _ (List.getElem?_eq_getElem (by omega)))
 have hkk:(n:Int)+1 - (i:Int)=((n+1 - i:Nat):Int):=by omega
 have hik:i+(n+1 - i)=n+1:=by omega
 have hold:(Builtin.firstCells i0.size i (.slice (some ⟨b,0,none⟩) i c)).run Tryz.prog w.drew= .ok (cs.take (i*2)).toArray w.drew:=by
  rw[hzs]
  exact run_firstCells_some w.drew 2 i ⟨b,0,none⟩ i c (cs.take (i*2)) (by rw[List.length_take];omega) (fun j v hj=>by
   rw[Addr.add_lit,Nat.zero_add]
   rw[List.getElem?_take]at hj
   split at hj
   ·exact hcs j v hj
   ·cases hj)
 have hrz:∀ty,(Builtin.append_ #[38,3] ty #[.slice (some ⟨b,0,none⟩) i c,.int .i64 ((n:Int)+1 - (i:Int))]).run Tryz.prog w=
   .ok (.slice (some ⟨w.heap.size,0,none⟩) (n+1) (grownCap w (n+1) c 133)) (w.drew.alloc (.cells ((cs.take (i*2)).toArray++Builtin.zeroCells zE.cells (n+1 - i)++Builtin.zeroCells zE.cells (grownCap w (n+1) c 133 - (n+1))) 133)):=fun ty=>by
  have h:=Lib.run_append_grow_zeros w 38 3 ty 133 i0 _ .i64 .i64 Tryz.underlying38 Tryz.underlying3 aa ab (some ⟨b,0,none⟩) i c (cs.take (i*2)) hold (n+1 - i) (by omega) (by omega) (by omega) (by omega) (by rw[hzb];omega) (by rw[hzb,hik];exact XlL hroom (by omega))
  rw[hik]at h
  rw[hkk]
  exact h
 obtain⟨G,hG⟩:∃G,G=grownCap w (n+1) c 133:=⟨_,rfl⟩
 obtain⟨ROW,hROW⟩:∃ROW:Array Value,ROW=(cs.take (i*2)).toArray++Builtin.zeroCells zE.cells (n+1 - i)++Builtin.zeroCells zE.cells (G - (n+1)):=⟨_,rfl⟩
 rw[←hG]at hrz⊢
 rw[←hROW]at hrz⊢
 have hRl:(n+1)*2≤ROW.size:=by
  rw[hROW]
  simp[Builtin.zeroCells,Value.cells]
  omega
 obtain⟨W1,hW1⟩:∃W1,W1=w.drew.alloc (.cells ROW 133):=⟨_,rfl⟩
 rw[←hW1]at hrz
 have hN:∀j,j<(n+1)*2→(W1.cell? ⟨w.heap.size,j,none⟩).isSome=true:=fun j hj=>by
  rw[hW1,World.cell?_alloc_at (w:=w.drew) ROW _ w.heap.size j rfl,Array.getElem?_eq_getElem (by omega)];rfl
 have hNf:∀j,W1.frozen? ⟨w.heap.size,j,none⟩=false:=fun j=>by rw[hW1];exact World.frozen?_alloc_at (w:=w.drew) ROW _ w.heap.size j rfl
 have hOb:∀j v,w.cell? ⟨b,j,none⟩=some v→W1.cell? ⟨b,j,none⟩=some v:=fun j v h=>by rw[hW1,World.cell?_alloc_past (w:=w.drew) _ b j hbw];exact h
 have hOv:∀j v,w.cell? ⟨vb,j,none⟩=some v→W1.cell? ⟨vb,j,none⟩=some v:=fun j v h=>by rw[hW1,World.cell?_alloc_past (w:=w.drew) _ vb j hvw];exact h
 have hcpA:∀(W:World),(∀x,W.cell? x=W1.cell? x)→(∀x,W.frozen? x=W1.frozen? x)→∀ty dc,(Builtin.copy_ #[38,38] ty #[.slice (some ⟨w.heap.size,i*2,none⟩) (n+1 - i) dc,.slice (some ⟨vb,0,none⟩) 1 vc]).run Tryz.prog W= .ok (goInt (Nat.min 1 (n+1 - i))) (W.setCells w.heap.size (i*2) vs):=fun W hWc hWf ty dc=>
  Ia W _ _ ty 133 2 w.heap.size (i*2) (n+1 - i) dc ⟨vb,0,none⟩ 1 vc vs Tryz.underlying38 hsz (by rw[hvl];simp only[Nat.min_def];split<;>omega)
   (fun j v hj=>by rw[Addr.add_lit,hWc,Nat.zero_add];exact hOv _ v (hvs j v hj))
   (fun j hj=>by rw[hWc];exact hN _ (by omega)) (fun j hj=>by rw[hWf];exact hNf _) h1v
 have hGn:n+1≤G:=by rw[hG];exact grownCap_ge w _ _ _
 have hG63:G≤9223372036854775807:=by
  have:=grownCap_le_maxLen w (n+1) c 133 (by unfold maxLen;omega)
  rw[←hG]at this
  unfold maxLen at this
  omega
 have hGi:¬(G=i):=by omega
 have hGim:¬(G=i+1):=by omega
 have hci:¬(c=i):=by omega
 have hbN:b≠w.heap.size:=by omega
 have hdl:(cs.drop (i*2)).length=(n - i)*2:=by rw[List.length_drop,hcl];omega
 have hcpB:∀(W:World),(∀x,W.cell? x=(W1.setCells w.heap.size (i*2) vs).cell? x)→(∀x,W.frozen? x=(W1.setCells w.heap.size (i*2) vs).frozen? x)→∀ty dc sc,(Builtin.copy_ #[38,38] ty #[.slice (some ⟨w.heap.size,(i+1)*2,none⟩) (n - i) dc,.slice (some ⟨b,i*2,none⟩) (n - i) sc]).run Tryz.prog W= .ok (goInt (Nat.min (n - i) (n - i))) (W.setCells w.heap.size ((i+1)*2) (cs.drop (i*2))):=fun W hWc hWf ty dc sc=>
  Ia W _ _ ty 133 2 w.heap.size ((i+1)*2) (n - i) dc ⟨b,i*2,none⟩ (n - i) sc (cs.drop (i*2)) Tryz.underlying38 hsz (by rw[hdl];simp only[Nat.min_def];split<;>omega)
   (fun j v hj=>by
    rw[Addr.add_lit,hWc,World.cell?_setCells_out _ _ _ _ _ (fun h _=>absurd h hbN)]
    exact hOb _ v (hcs (i*2+j) v (by rwa[List.getElem?_drop]at hj)))
   (fun j hj=>by rw[hWc];exact U6 (w:=W1) hN (by omega) _ (by omega))
   (fun j hj=>by rw[hWf,World.frozen?_setCells];exact hNf _) (fun v hv=>h1c v (List.mem_of_mem_drop hv))
 subst hW1
 have hE1:∀x,((w.alloc (.cells ROW 133)).drew).cell? x=(w.drew.alloc (.cells ROW 133)).cell? x:=fun x=>rfl
 have hE2:∀x,((w.alloc (.cells ROW 133)).drew).frozen? x=(w.drew.alloc (.cells ROW 133)).frozen? x:=fun x=>rfl
 have hF1:∀x,(((w.alloc (.cells ROW 133)).drew.setCells w.heap.size (i*2) vs).drew).cell? x=((w.drew.alloc (.cells ROW 133)).setCells w.heap.size (i*2) vs).cell? x:=fun x=>rfl
 have hF2:∀x,(((w.alloc (.cells ROW 133)).drew.setCells w.heap.size (i*2) vs).drew).frozen? x=((w.drew.alloc (.cells ROW 133)).setCells w.heap.size (i*2) vs).frozen? x:=fun x=>rfl
 have ae:IntKind.i64.wrap ((i:Int)+1)=(i:Int)+1:=by rw[IntKind.wrap_i64];omega
 have af:(0:Int)≤(i:Int)+1:=by omega
 have hin:i≤n:=by omega
 have htn:((i:Int)+1).toNat=i+1:=by omega
 have ag:(i:Int)≤(n:Int):=by omega
 clear hkk hik hold hROW hG hRl
 go_enter Tryz.func307,Tryz.ntmps307
 go_wp2_with (first
  |(at_builtin;refine Lib.wpList_append_run _ rfl _ _ _ _ rfl _ _ rfl rfl _ _ (hrz _) ?_)
  |(at_builtin;refine wpList_copy_runI _ rfl _ _ 38 38 rfl _ _ rfl rfl (hcpA _ hE1 hE2 _ _) ?_)
  |(at_builtin;refine wpList_copy_runI _ rfl _ _ 38 38 rfl _ _ rfl rfl (hcpB _ (fun _=>rfl) (fun _=>rfl) _ _ _) ?_))
 go_region_law_o (refine step_copy_runI rfl _ _ 38 38 rfl (.slice (some ⟨w.heap.size,(i+1)*2,none⟩) (n - i) (G - (i+1))) (.slice (some ⟨b,i*2,none⟩) (n - i) (c - i)) (by simp[Act.eval,Act.put]) (by simp[Act.eval,Act.put]) (hcpB _ hF1 hF2 3 (G - (i+1)) (c - i)) ?_)
 go_wp2
 go_ret
 exact⟨rfl,rfl⟩
theorem Wrote.trans{w w1 w2:World}{b:Nat}{cs c1 c2:Array Value}{t:TypeId}{fr:Nat×Nat}(h:Wrote w w1 b cs c1 t fr)(k:Wrote w1 w2 b c1 c2 t fr):Wrote w w2 b cs c2 t fr:=
 ⟨k.at_,k.size.trans h.size,fun x hx=>(k.others x hx).trans (h.others x hx),k.hsize.trans h.hsize,k.os.trans h.os,k.output.trans h.output,k.tape.trans h.tape⟩
theorem Wrote.ofDrew{w w1:World}{b:Nat}{cs c1:Array Value}{t:TypeId}{fr:Nat×Nat}(h:Wrote w.drew w1 b cs c1 t fr):Wrote w w1 b cs c1 t fr:=
 ⟨h.at_,h.size,h.others,h.hsize,h.os,h.output,h.tape⟩
theorem XhN{c:Ctx}{E:Env}(hM:Mem c E){r n sz:Nat}{xs:List (List D)}{v:Value}(hr:E.rt r=some (.row sz false xs))(hp:E.pres r)(hv:RelAV E (.ref r 0 n) v)(hn:n=xs.length)(hsz:0<sz):
  (n=0∧∃a,v= .slice a 0 0)∨∃b cap cs t fr,v= .slice (some ⟨b,0,none⟩) n cap∧E.β r=some b∧E.w.heap[b]? =some (.cells cs t fr)∧n≤cap∧cap*sz≤cs.size∧I4 cs.size fr∧Xcb sz fr∧(∀(i:Nat) x,xs[i]? =some x→x.length=sz)∧
   (∀(i:Nat) x (j:Nat) y,xs[i]? =some x→x[j]? =some y→∃u,cs[i*sz+j]? =some u∧RelD E.w E.S y u)∧
   (cs.toList.take (n*sz)).length=n*sz∧(∀(k:Nat),k<n*sz→(cs.toList.take (n*sz))[k]? =cs[k]?)∧(∀u∈cs.toList.take (n*sz),u.oneCell'=true):=by
 cases hv with
 |dref r off len v h1 ho=>rw[hr]at h1;cases h1
 |refz r off R sz0 a h1 hk h2=>exact .inl ⟨rfl,a,rfl⟩
 |ref r off len R sz0 b cap t0 N h1 hk h2 h3 h4 h5 h6=>
  rw[hr]at h1
  obtain rfl:=Option.some.inj h1
  simp only[Root.kind,Kind.row.injEq]at hk
  subst hk
  rcases hM.roots r _ hp hr with⟨hb',_⟩|⟨b',cs,t,fr,hb',hh,hxl,hxs,hxr,hfz⟩
  ·rw[h3]at hb';cases hb'
  rw[h3]at hb'
  obtain rfl:=Option.some.inj hb'
  rcases hfz with⟨hf,_⟩|⟨_,hnS,hfr⟩
  ·cases hf
  have hN:N=cs.size:=by
   unfold World.shape? at h4
   rw[hh]at h4
   exact(Prod.mk.inj (Option.some.inj h4)).2.symm
  subst hN
  rw[Nat.zero_add]at h6
  have hle:n*sz≤cs.size:=Nat.le_trans (Nat.mul_le_mul_right _ h5) h6
  have hget:∀(k:Nat),k<n*sz→(cs.toList.take (n*sz))[k]? =cs[k]? :=fun k hk=>by rw[List.getElem?_take,if_pos hk,Array.getElem?_toList]
  refine .inr ⟨b,cap,cs,t,fr,by rw[Nat.zero_mul],h3,hh,h5,h6,hfr.1,hfr.2,hxl,hxr,by rw[List.length_take,Array.length_toList];omega,hget,?_⟩
  intro u hu
  obtain⟨k,hk⟩:=List.getElem?_of_mem hu
  have hkl:k<n*sz:=by
   have:=(List.getElem?_eq_some_iff.1 hk).1
   rw[List.length_take,Array.length_toList]at this
   omega
  rw[hget k hkl]at hk
  have hi:k/sz<xs.length:=by rw[←hn];exact(Nat.div_lt_iff_lt_mul hsz).2 hkl
  have hj:k% sz<sz:=Nat.mod_lt _ hsz
  have hx:=List.getElem?_eq_getElem hi
  have hxl':=hxl _ _ hx
  obtain⟨u',hu',hrel⟩:=hxr (k/sz) _ (k% sz) _ hx (List.getElem?_eq_getElem (by rw[hxl'];exact hj))
  have e:k/sz*sz+k% sz=k:=by rw[Nat.mul_comm];exact Nat.div_add_mod k sz
  rw[e,hk]at hu'
  rw[Option.some.inj hu']
  exact hrel.one
theorem Xkp{c:Ctx}{E:Env}(hM:Mem c E){r n sz:Nat}{xs:List (List D)}{v:Value}(hr:E.rt r=some (.row sz false xs))(hp:E.pres r)(hv:RelAV E (.ref r 0 n) v)(hn:n=xs.length)(h0:0<n)(hsz:0<sz):
  ∃b cap cs t fr,v= .slice (some ⟨b,0,none⟩) n cap∧E.β r=some b∧E.w.heap[b]? =some (.cells cs t fr)∧n≤cap∧cap*sz≤cs.size∧I4 cs.size fr∧Xcb sz fr∧(∀(i:Nat) x,xs[i]? =some x→x.length=sz)∧
   (∀(i:Nat) x (j:Nat) y,xs[i]? =some x→x[j]? =some y→∃u,cs[i*sz+j]? =some u∧RelD E.w E.S y u)∧
   (cs.toList.take (n*sz)).length=n*sz∧(∀(k:Nat),k<n*sz→(cs.toList.take (n*sz))[k]? =cs[k]?)∧(∀u∈cs.toList.take (n*sz),u.oneCell'=true):=
 (XhN hM hr hp hv hn hsz).resolve_left fun h=>by omega
theorem U5{w:World}{b k:Nat}{cs:Array Value}{t:TypeId}{fr:Nat×Nat}(hh:w.heap[b]? =some (.cells cs t fr)):w.cell? ⟨b,k,none⟩=cs[k]? :=by
 simp[World.cell?,hh]
theorem Xk3{E:Env}{k:IntKind}{n:Int}{v:Value}(h:RelAV E (.d (.sc (.int k n))) v):v= .int k n:=by
 cases h with
 |d _ _ h=>cases h with|sc=>rfl
theorem Xkj{E:Env}{x y z:AV}{vs:Array Value}(h:Xdo E [x,y,z] vs):∃u v t,vs= #[u,v,t]∧RelAV E x u∧RelAV E y v∧RelAV E z t:=by
 obtain⟨hs,hr⟩:=h
 have:vs.size=3:=hs
 obtain⟨l⟩:=vs
 match l,this with
 |[u,v,t],_=>exact⟨u,v,t,rfl,hr 0 x rfl,hr 1 y rfl,hr 2 z rfl⟩
theorem Xfn{w:World}{S:Nat→Prop}{β:Nat→Option Nat}{r0:List Root}{R:Root}:Fresh (Fz w S β r0) (Bx w S β r0 [R]) r0.length [R]:=by
 refine⟨Nat.le_refl _,?_,?_⟩
 ·intro k R' hk
  show(r0++[R])[r0.length+k]? =some R'
  rw[List.getElem?_append_right (by omega)]
  simpa using hk
 ·intro k hk hp
  have:r0.length+k<r0.length:=hp
  omega
theorem Xh0{xs:List (List D)}{n:Nat}{i j:Int}(hn:n=xs.length)(h0:0≤i)(hi:i<n)(hj:j=i+1)(hm:n≤4000000000):CallOk Tryz.prog 308 [.ref 0 0 n,.d (.sc (.int .i64 i)),.d (.sc (.int .i64 j))] [.row 2 false xs] ⟨.ref 1 0 (xs.eraseIdx i.toNat).length,[.row 2 false (xs.eraseIdx i.toNat)],[(0,.dead)]⟩:=by
 intro w S β vs hM hA
 obtain⟨vl,vi,vj,rfl,h1,h2,h3⟩:=Xkj hA
 obtain rfl:=Xk3 h2
 obtain rfl:=Xk3 h3
 obtain⟨b,cap,cs,t,fr,rfl,hb,hh,hnc,hcs,hfr,-,hxl,hxr,hvl,hvg,hone⟩:=Xkp hM (r:=0) rfl (show(0:Nat)<1 by decide) h1 hn (by omega) (by decide)
 have hh':w.heap[b]? =some (.cells cs t fr):=hh
 obtain⟨i,rfl⟩:∃k:Nat,i=k:=⟨i.toNat,by omega⟩
 obtain⟨j,rfl⟩:∃k:Nat,j=k:=⟨j.toNat,by omega⟩
 have hjn:j=i+1:=by omega
 have hin:i<n:=by omega
 have hcn:n*2≤cs.size:=by omega
 rw[Int.toNat_natCast]
 refine(delE b n cap i j w (cs.toList.take (n*2)) hin hjn hnc hm hvl hone (fun k v hk=>by
   have hkl:k<n*2:=by rw[←hvl];exact(List.getElem?_eq_some_iff.1 hk).1
   rw[hvg k hkl]at hk
   rw[U5 hh'];exact hk) (fun k hk=>Gu hh' hfr (by omega))).mono ?_
 rintro e w' ⟨rfl,rfl⟩
 have hdl:((cs.toList.take (n*2)).drop (j*2)).length=(n - j)*2:=by rw[List.length_drop,hvl];omega
 obtain⟨c1,aa,ab⟩:=Dc b t fr ((cs.toList.take (n*2)).drop (j*2)) (i*2) w.drew cs hh' (by rw[hdl];omega)
 obtain⟨c2,ac,ad⟩:=Dc b t fr [.string ⟨#[]⟩,.int .i64 0] ((n - 1)*2) _ c1 aa.at_ (by rw[aa.size];simp;omega)
 have hlen:(xs.eraseIdx i).length=n - 1:=by rw[List.length_eraseIdx,if_pos (by omega)];omega
 obtain⟨E',e1,e2⟩:=XeA (sz:=2) (cap:=cap) (ys:=xs.eraseIdx i) (nb:=1) hM (r:=0) rfl (show(0:Nat)<1 by decide) Xfn hb hh ((Wrote.ofDrew aa).trans ac)
  (by
   intro k x hk
   rw[List.getElem?_eraseIdx]at hk
   split at hk<;>exact hxl _ _ hk) hcs (by omega) (by
   intro k x f y hk hf
   have ae:k<n - 1:=by rw[←hlen];exact(List.getElem?_eq_some_iff.1 hk).1
   have hxs:∃q,xs[q]? =some x∧q=(if k<i then k else k+1):=by
    rw[List.getElem?_eraseIdx]at hk
    split at hk
    ·rename_i h;exact⟨k,hk,by rw[if_pos h]⟩
    ·rename_i h;exact⟨k+1,hk,by rw[if_neg h]⟩
   obtain⟨q,hq,hqk⟩:=hxs
   have af:f<2:=by rw[←hxl q x hq];exact(List.getElem?_eq_some_iff.1 hf).1
   obtain⟨u,hu,hrel⟩:=hxr q x f y hq hf
   refine⟨u,?_,hrel⟩
   rw[ad,if_neg (by simp;omega),ab,hdl]
   split at hqk
   ·subst hqk
    rw[if_neg (by omega)];exact hu
   ·subst hqk
    rw[if_pos (by omega),List.getElem?_drop,hvg _ (by omega),show j*2+(k*2+f - i*2)=(k+1)*2+f by omega]
    exact hu)
 rw[hlen]at e2
 exact⟨_,E',rfl,e1,by rw[hlen];exact e2⟩
theorem Grow.ofDrew{w w':World}{o:Obj}(g:Grow w.drew w' o):Grow w w' o:=⟨g.heap,g.os,g.output,g.tape⟩
theorem Grow.drew{w w':World}{o:Obj}(g:Grow w w' o):Grow w w'.drew o:=⟨g.heap,g.os,g.output,g.tape⟩
theorem Yh{w:World}{b k:Nat}{cs:Array Value}{t:TypeId}{fr:Nat×Nat}(hh:w.heap[b]? =some (.cells cs t fr))(h:Xcb 2 fr):w.frozen? ⟨b,k,none⟩=false:=by
 obtain rfl:fr=(0,0):=h.resolve_left (by decide)
 simp[World.frozen?,hh]
theorem Wt{w:World}{S:Nat→Prop}{xs:List (List D)}{v:List D}{i n:Nat}{cs':Array Value}{vals vs:List Value}(hn:n=xs.length)(hi:i≤n)(hxl:∀(i:Nat) x,xs[i]? =some x→x.length=2)(hv:v.length=2)
  (hxr:∀(i:Nat) x (j:Nat) y,xs[i]? =some x→x[j]? =some y→∃u,vals[i*2+j]? =some u∧RelD w S y u)(hvr:∀(j:Nat) y,v[j]? =some y→∃u,vs[j]? =some u∧RelD w S y u)
  (hc:∀k f,k<n+1→f<2→cs'[k*2+f]? =if k<i then vals[k*2+f]? else if k=i then vs[f]? else vals[(k - 1)*2+f]?):
  (∀(k:Nat) x,(xs.take i++v::xs.drop i)[k]? =some x→x.length=2)∧∀(k:Nat) x (j:Nat) y,(xs.take i++v::xs.drop i)[k]? =some x→x[j]? =some y→∃u,cs'[k*2+j]? =some u∧RelD w S y u:=by
 have key:∀(k:Nat) x,(xs.take i++v::xs.drop i)[k]? =some x→(k<i∧xs[k]? =some x)∨(k=i∧x=v)∨(i<k∧xs[k - 1]? =some x):=by
  intro k x hk
  have hl:(xs.take i).length=i:=by rw[List.length_take];omega
  by_cases h:k<i
  ·rw[List.getElem?_append_left (by omega),List.getElem?_take,if_pos h]at hk
   exact .inl ⟨h,hk⟩
  ·rw[List.getElem?_append_right (by omega),hl]at hk
   by_cases h':k=i
   ·subst h'
    rw[Nat.sub_self]at hk
    exact .inr (.inl ⟨rfl,(Option.some.inj hk).symm⟩)
   ·obtain⟨m,hm⟩:∃m,k - i=m+1:=⟨k - i - 1,by omega⟩
    rw[hm,List.getElem?_cons_succ,List.getElem?_drop,show i+m=k - 1 by omega]at hk
    exact .inr (.inr ⟨by omega,hk⟩)
 refine⟨fun k x hk=>?_,fun k x j y hk hy=>?_⟩
 ·rcases key k x hk with⟨_,h⟩|⟨_,h⟩|⟨_,h⟩
  ·exact hxl _ _ h
  ·rw[h];exact hv
  ·exact hxl _ _ h
 ·rcases key k x hk with⟨h,hx⟩|⟨h,hx⟩|⟨h,hx⟩
  ·have hkn:=(List.getElem?_eq_some_iff.1 hx).1
   have hj:j<2:=by rw[←hxl _ _ hx];exact(List.getElem?_eq_some_iff.1 hy).1
   rw[hc k j (by omega) hj,if_pos h]
   exact hxr _ _ _ _ hx hy
  ·subst hx h
   have hj:j<2:=by rw[←hv];exact(List.getElem?_eq_some_iff.1 hy).1
   rw[hc k j (by omega) hj,if_neg (by omega),if_pos rfl]
   exact hvr _ _ hy
  ·have hkn:=(List.getElem?_eq_some_iff.1 hx).1
   have hj:j<2:=by rw[←hxl _ _ hx];exact(List.getElem?_eq_some_iff.1 hy).1
   rw[hc k j (by omega) hj,if_neg (by omega),if_neg (by omega)]
   exact hxr _ _ _ _ hx hy
theorem Xip{xs:List (List D)}{v:List D}{n i:Nat}(hn:n=xs.length)(hin:i≤n)(hm:n≤4000000000):CallOk Tryz.prog 307 [.ref 0 0 n,.d (.sc (.int .i64 i)),.ref 1 0 1] [.row 2 false xs,.row 2 false [v]]
  ⟨.ref 2 0 (xs.take i++v::xs.drop i).length,[.row 2 false (xs.take i++v::xs.drop i)],[(0,.dead)]⟩:=by
 intro w S β vs hM hA
 obtain⟨vl,vi,vv,rfl,h1,h2,h3⟩:=Xkj hA
 obtain rfl:=Xk3 h2
 obtain⟨vb,vc,cv,tv,frv,rfl,hbv,hhv,hvc,hcv,hfrv,hplv,hvxl,hvxr,hvvl,hvvg,hvone⟩:=Xkp hM (r:=1) rfl (show(1:Nat)<2 by decide) h3 rfl (by decide) (by decide)
 have hhv':w.heap[vb]? =some (.cells cv tv frv):=hhv
 have hlen:(xs.take i++v::xs.drop i).length=n+1:=by simp;omega
 have ac:v.length=2:=hvxl 0 v rfl
 have hvr:∀(j:Nat) y,v[j]? =some y→∃u,(cv.toList.take (1*2))[j]? =some u∧RelD w S y u:=by
  intro j y hy
  have hj:j<2:=by rw[←ac];exact(List.getElem?_eq_some_iff.1 hy).1
  obtain⟨u,hu,hrel⟩:=hvxr 0 v j y rfl hy
  rw[Nat.zero_mul,Nat.zero_add]at hu
  exact⟨u,by rw[hvvg j (by omega)];exact hu,hrel⟩
 have hvs:∀j u,(cv.toList.take (1*2))[j]? =some u→w.cell? ⟨vb,j,none⟩=some u:=fun k u hk=>by
  have hkl:k<1*2:=by rw[←hvvl];exact(List.getElem?_eq_some_iff.1 hk).1
  rw[hvvg k hkl]at hk
  rw[U5 hhv'];exact hk
 generalize hvsd:cv.toList.take (1*2)=vs at hvr hvs hvvl hvone
 have hvl2:vs.length=2:=hvvl
 rcases XhN hM (r:=0) rfl (show(0:Nat)<2 by decide) h1 hn (by decide)with⟨h0,a,rfl⟩|⟨b,cap,cs,t,fr,rfl,hb,hh,hnc,hcs,hfr,hpl,hxl,hxr,hvl,hvg,hone⟩
 ·obtain rfl:xs=[]:=List.eq_nil_of_length_eq_zero (by omega)
  obtain rfl:i=0:=by omega
  subst h0
  refine(Rt a 0 0 vb vc [] vs w (by omega) (by omega) (by omega) rfl hvl2 (fun _=>rfl) (fun a _ j v h=>by simp at h) hvs hvone).mono ?_
  rintro e w' ⟨rfl,rfl⟩
  have hge:=grownCap_ge w (0+1) 0 133
  obtain⟨k1,k2⟩:=Wt (w:=w) (S:=S) (xs:=[]) (v:=v) (i:=0) (n:=0) (cs':=(([]++vs).toArray++Builtin.zeroCells zE.cells (grownCap w (0+1) 0 133 - (0+1)))) (vals:=[]) (vs:=vs) rfl (by omega) (by simp) ac (by simp) hvr (by
   intro k f hk hf
   obtain rfl:k=0:=by omega
   rw[if_neg (by omega),if_pos rfl,Nat.zero_mul,Nat.zero_add,Array.getElem?_append_left (by simp;omega)]
   simp)
  obtain⟨E',e1,e2⟩:=Xkg (sz:=2) (cap:=grownCap w (0+1) 0 133) (nb:=2) hM (r:=0) rfl (show(0:Nat)<2 by decide) Xfn (Grow.alloc w.drew _).ofDrew k1 (by
   rw[Array.size_append,He]
   simp[Value.cells,hvl2]
   omega) (by rw[hlen];exact hge) k2
  rw[hlen]at e2
  exact⟨_,E',rfl,e1,by rw[hlen];exact e2⟩
 have hh':w.heap[b]? =some (.cells cs t fr):=hh
 have hvals:∀j u,(cs.toList.take (n*2))[j]? =some u→w.cell? ⟨b,j,none⟩=some u:=fun k u hk=>by
  have hkl:k<n*2:=by rw[←hvl];exact(List.getElem?_eq_some_iff.1 hk).1
  rw[hvg k hkl]at hk
  rw[U5 hh'];exact hk
 have hxr':∀(i:Nat) x (j:Nat) y,xs[i]? =some x→x[j]? =some y→∃u,(cs.toList.take (n*2))[i*2+j]? =some u∧RelD w S y u:=by
  intro q x f y hq hf
  have hqn:q<xs.length:=(List.getElem?_eq_some_iff.1 hq).1
  have af:f<2:=by rw[←hxl q x hq];exact(List.getElem?_eq_some_iff.1 hf).1
  obtain⟨u,hu,hrel⟩:=hxr q x f y hq hf
  exact⟨u,by rw[hvg _ (by omega)];exact hu,hrel⟩
 have hvgn:∀k,k<n*2→cs[k]? =(cs.toList.take (n*2))[k]? :=fun k hk=>(hvg k hk).symm
 generalize hvd:cs.toList.take (n*2)=vals at hvals hxr' hvgn hvl hone
 have hvb:vb≠b:=by
  rintro rfl
  have:=hM.inj 0 1 _ _ vb (show(0:Nat)<2 by decide) (show(1:Nat)<2 by decide) rfl (by simp) rfl (by simp) hb hbv
  cases this
 have hnew:∀{cs':Array Value} {w':World} {G:Nat},Grow w w' (.cells cs' 133 (0,0))→n+1≤G→G*2≤cs'.size→(∀k f,k<n+1→f<2→cs'[k*2+f]? =if k<i then vals[k*2+f]? else if k=i then vs[f]? else vals[(k - 1)*2+f]?)→
   ∃v' E',Ending.returned (.slice (some ⟨w.heap.size,0,none⟩) (n+1) G)=Ending.returned v'∧E'.w=w'∧OutRel (Fz w S β [.row 2 false xs,.row 2 false [v]]) (Bx w S β [.row 2 false xs,.row 2 false [v]] [.row 2 false (xs.take i++v::xs.drop i)]) 2 ⟨.ref 2 0 (xs.take i++v::xs.drop i).length,[.row 2 false (xs.take i++v::xs.drop i)],[(0,.dead)]⟩ v' E':=by
  intro cs' w' G g hG hGs hc
  obtain⟨k1,k2⟩:=Wt (w:=w) (S:=S) hn hin hxl ac hxr' hvr hc
  obtain⟨E',e1,e2⟩:=Xkg (sz:=2) (cap:=G) (nb:=2) hM (r:=0) rfl (show(0:Nat)<2 by decide) Xfn g k1 hGs (by rw[hlen];exact hG) k2
  rw[hlen]at e2
  exact⟨_,E',rfl,e1,by rw[hlen];exact e2⟩
 have hown:∀{cs':Array Value} {w':World},Wrote w w' b cs cs' t fr→n+1≤cap→(∀k f,k<n+1→f<2→cs'[k*2+f]? =if k<i then vals[k*2+f]? else if k=i then vs[f]? else vals[(k - 1)*2+f]?)→
   ∃v' E',Ending.returned (.slice (some ⟨b,0,none⟩) (n+1) cap)=Ending.returned v'∧E'.w=w'∧OutRel (Fz w S β [.row 2 false xs,.row 2 false [v]]) (Bx w S β [.row 2 false xs,.row 2 false [v]] [.row 2 false (xs.take i++v::xs.drop i)]) 2 ⟨.ref 2 0 (xs.take i++v::xs.drop i).length,[.row 2 false (xs.take i++v::xs.drop i)],[(0,.dead)]⟩ v' E':=by
  intro cs' w' g hG hc
  obtain⟨k1,k2⟩:=Wt (w:=w) (S:=S) hn hin hxl ac hxr' hvr hc
  obtain⟨E',e1,e2⟩:=XeA (sz:=2) (cap:=cap) (nb:=2) hM (r:=0) rfl (show(0:Nat)<2 by decide) Xfn hb hh g k1 hcs (by rw[hlen];exact hG) k2
  rw[hlen]at e2
  exact⟨_,E',rfl,e1,by rw[hlen];exact e2⟩
 by_cases hroom:n+1≤cap
 ·by_cases hie:i=n
  ·subst hie
   refine(Xar b i cap vb vc vs w hroom hm hvl2 (fun j hj=>by rw[U5 hh',Array.getElem?_eq_getElem (by omega)];rfl) (fun j hj=>Gu hh' hfr (by omega)) hvs hvone).mono ?_
   rintro e w' ⟨rfl,rfl⟩
   obtain⟨c1,aa,ab⟩:=Dc b t fr vs (i*2) w cs hh' (by omega)
   refine hown aa hroom ?_
   intro k f hk hf
   rw[ab]
   by_cases h:k<i
   ·rw[if_pos h,if_neg (by omega)]
    exact hvgn _ (by omega)
   ·rw[if_neg h,if_pos (by omega),if_pos (by omega),show k*2+f - i*2=f by omega]
  ·have hdl:(vals.drop (i*2)).length=(n - i)*2:=by rw[List.length_drop,hvl];omega
   refine(Xf8 b n cap i vb vc vals vs w (by omega) hroom hm hvb hvl hvl2 hvals (fun j hj=>by rw[U5 hh',Array.getElem?_eq_getElem (by omega)];rfl) (fun j hj=>Gu hh' hfr (by omega)) hvs hone hvone tv t cv.size cs.size
    (by simp[World.shape?,hhv']) (by simp[World.shape?,hh']) (by omega) (Yh hhv' hplv) (Yh hhv' hplv)).mono ?_
   rintro e w' ⟨rfl,rfl⟩
   obtain⟨c1,aa,ab⟩:=Dc b t fr (vals.drop (i*2)) ((i+1)*2) w.drew cs hh' (by rw[hdl];omega)
   obtain⟨c2,ad,ae⟩:=Dc b t fr vs (i*2) _ c1 aa.at_ (by rw[aa.size];omega)
   refine hown ((Wrote.ofDrew aa).trans ad) hroom ?_
   intro k f hk hf
   rw[ae,ab,hdl,hvl2]
   by_cases h:k<i
   ·rw[if_pos h,if_neg (by omega),if_neg (by omega)]
    exact hvgn _ (by omega)
   ·rw[if_neg h]
    by_cases h':k=i
    ·rw[if_pos h',if_pos (by omega),show k*2+f - i*2=f by omega]
    ·rw[if_neg h',if_neg (by omega),if_pos (by omega),List.getElem?_drop,show i*2+(k*2+f - (i+1)*2)=(k - 1)*2+f by omega]
 ·have hge:=grownCap_ge w (n+1) cap 133
  by_cases hie:i=n
  ·subst hie
   refine(Rt (some ⟨b,0,none⟩) i cap vb vc vals vs w hnc (by omega) hm hvl hvl2 (fun h=>by cases h) (fun a ha j v h=>by
    obtain rfl:=Option.some.inj ha
    rw[Addr.add_lit,Nat.zero_add]
    exact hvals j v h) hvs hvone).mono ?_
   rintro e w' ⟨rfl,rfl⟩
   refine hnew (Grow.alloc w.drew _).ofDrew hge ?_ ?_
   ·rw[Array.size_append,He]
    simp[Value.cells,hvl2,hvl]
    omega
   ·intro k f hk hf
    rw[Array.getElem?_append_left (by simp;omega),List.getElem?_toArray]
    by_cases h:k<i
    ·rw[if_pos h,List.getElem?_append_left (by omega)]
    ·rw[if_neg h,if_pos (by omega),List.getElem?_append_right (by omega),hvl,show k*2+f - i*2=f by omega]
  ·have hdl:(vals.drop (i*2)).length=(n - i)*2:=by rw[List.length_drop,hvl];omega
   have htl:(vals.take (i*2)).length=i*2:=by rw[List.length_take,hvl];omega
   refine(XgO b n cap i vb vc vals vs w (by omega) hnc (by omega) hm hvl hvl2 hvals hvs hone hvone).mono ?_
   rintro e w' ⟨rfl,rfl⟩
   generalize hROW:(vals.take (i*2)).toArray++Builtin.zeroCells zE.cells (n+1 - i)++Builtin.zeroCells zE.cells (grownCap w (n+1) cap 133 - (n+1))=ROW
   have hRs:ROW.size=grownCap w (n+1) cap 133*2:=by
    rw[←hROW,Array.size_append,Array.size_append,He,He]
    simp[Value.cells,htl]
    omega
   have hR:∀k,k<i*2→ROW[k]? =vals[k]? :=by
    intro k hk
    rw[←hROW,Array.append_assoc,Array.getElem?_append_left (by simp;omega),List.getElem?_toArray,List.getElem?_take,if_pos hk]
   have g0:=(Grow.alloc w (.cells ROW 133)).drew
   obtain⟨c1,aa,ab⟩:=Dc w.heap.size 133 (0,0) vs (i*2) _ ROW g0.new (by omega)
   obtain⟨c2,ad,ae⟩:=Dc w.heap.size 133 (0,0) (vals.drop (i*2)) ((i+1)*2) _ c1 (show((w.alloc (.cells ROW 133)).drew.setCells w.heap.size (i*2) vs).drew.heap[w.heap.size]? =_ from aa.at_) (by rw[aa.size,hdl];omega)
   refine hnew (((g0.wrote aa).drew).wrote ad) hge (by rw[ad.size,aa.size,hRs];exact Nat.le_refl _) ?_
   intro k f hk hf
   rw[ae,ab,hdl,hvl2]
   by_cases h:k<i
   ·rw[if_pos h,if_neg (by omega),if_neg (by omega)]
    exact hR _ (by omega)
   ·rw[if_neg h]
    by_cases h':k=i
    ·rw[if_pos h',if_neg (by omega),if_pos (by omega),show k*2+f - i*2=f by omega]
    ·rw[if_neg h',if_pos (by omega),List.getElem?_drop,show i*2+(k*2+f - (i+1)*2)=(k - 1)*2+f by omega]
end
section
open Go Go.Proofs
set_option maxRecDepth 20000
set_option maxHeartbeats 4000000
def XaU:List (Nat×TyRow):=[ty3,ty5,ty9,Xcn,XgK,XhE,XaP]
theorem Xc5:B9 Tryz.prog XaU:=B9.of (by kernel_rfl)
theorem Gb:Setup Tryz.prog XaU:=⟨Xc5,mixed⟩
open Go.RowKit
def Jh(x:Nat):Bool:=decide (97≤x∧x≤122∨48≤x∧x≤57∨x=46∨x=45)
def Bt(t:ByteArray):Bool:=t.data.toList.all (fun c=>Jh c.toNat)&&decide (1≤t.size∧t.size≤20)
theorem M8{t:ByteArray}{j:Nat}(hj:j<t.size):t.data.toList[j]? =some t[j]:=by
 rw[Array.getElem?_toList]
 exact Array.getElem?_eq_getElem hj
theorem Of{t:ByteArray}{j:Nat}(hj:j<t.size)(h:Jh (t[j]).toNat=false):false=Bt t:=by
 symm
 unfold Bt
 rw[Bool.and_eq_false_iff]
 left
 rw[Bool.eq_false_iff]
 intro ha
 have:=List.all_eq_true.1 ha t[j] (List.mem_of_getElem? (M8 hj))
 rw[h]at this
 cases this
theorem Pk{t:ByteArray}{b:Bool}(h:∀(j:Nat) (hj:j<t.size),Jh (t[j]).toNat=true)(hb:b=decide (1≤t.size∧t.size≤20)):b=Bt t:=by
 unfold Bt
 rw[List.all_eq_true.2,hb,Bool.true_and]
 intro c hc
 obtain⟨j,hj⟩:=List.getElem?_of_mem hc
 have hl:j<t.size:=by
  have:=(List.getElem?_eq_some_iff.1 hj).1
  rwa[Array.length_toList]at this
 rw[M8 hl]at hj
 rw[←Option.some.inj hj]
 exact h j hl
theorem Wo{t:ByteArray}(h:Bt t=true):1≤t.size∧t.size≤20:=by
 unfold Bt at h
 rw[Bool.and_eq_true,decide_eq_true_eq]at h
 exact h.2
theorem V0:∀(l m:List UInt8) (acc:Nat),Lib.decFrom acc (l++m)=(Lib.decFrom acc l).bind fun a=>Lib.decFrom a m
 |[],_,_=>rfl
 |c::l,m,acc=>by
  simp only[List.cons_append,Lib.decFrom]
  cases Lib.digitVal c with
  |none=>rfl
  |some d=>exact V0 l m _
theorem Uo{n:Nat}(h:n<10):Lib.digitVal (UInt8.ofNat (48+n))=some n:=by
 have e:(UInt8.ofNat (48+n)).toNat=48+n:=by rw[UInt8.toNat_ofNat',Nat.mod_eq_of_lt (by omega)]
 unfold Lib.digitVal
 rw[e,if_pos (by omega)]
 congr 1
 omega
theorem Su(u:Nat):Lib.decFrom 0 (Lib.decDigits u)=some u:=by
 induction u using Nat.strongRecOn with
 |_ u ih=>
  by_cases h:u<10
  ·rw[Lib.decDigits,dif_pos h]
   simp only[Lib.decFrom,Uo h]
   congr 1
   omega
  ·rw[Lib.decDigits,dif_neg h,V0,ih (u/10) (by omega)]
   simp only[Option.bind_some,Lib.decFrom,Uo (show u% 10<10 by omega)]
   congr 1
   omega
def Bi(t:ByteArray):Int×Bool:=match Lib.decFrom 0 t.data.toList with
 |some n=>if n≤1000000000∧Ck (n:Int)=t then((n:Int),true)else(0,false)
 |none=>(0,false)
theorem Ve{t:ByteArray}{m:Nat}(h:Lib.decFrom 0 t.data.toList=some m):Bi t=if m≤1000000000∧Ck (m:Int)=t then((m:Int),true)else(0,false):=by
 unfold Bi
 rw[h]
theorem Xkt{t:ByteArray}{j:Nat}(hj:j<t.size)(h:¬(48≤(t[j]).toNat∧(t[j]).toNat≤57)):(0,false)=Bi t:=by
 unfold Bi
 split
 ·rename_i n hn
  obtain⟨d,hd⟩:=Lib.digit_of_decFrom _ _ _ hn j _ (M8 hj)
  unfold Lib.digitVal at hd
  rw[if_neg h]at hd
  cases hd
 ·rfl
theorem XfM{n:Int}{t:ByteArray}(e:Ck n=t)(h0:0≤n)(h:n≤1000000000):1≤t.size∧t.size≤10:=by
 rw[←e]
 unfold Ck Lib.itoa
 rw[Bz,if_neg (by omega)]
 exact H7 9 n.toNat (by omega)
theorem Xjs{t:ByteArray}(h:10<t.size):(0,false)=Bi t:=by
 unfold Bi
 split
 ·rename_i n hn
  rw[if_neg]
  rintro⟨h1,h2⟩
  have:=XfM h2 (by omega) (by omega)
  omega
 ·rfl
theorem XjY{n:Int}(h0:0≤n)(h:n≤1000000000):Bi (Ck n)=(n,true):=by
 have e:Lib.decFrom 0 (Ck n).data.toList=some n.toNat:=by
  unfold Ck Lib.itoa
  rw[Qm,if_neg (by omega)]
  exact Su _
 rw[Ve e,if_pos ⟨by omega,by rw[Int.toNat_of_nonneg h0]⟩,Int.toNat_of_nonneg h0]
theorem X0:∀(l:List UInt8) (acc n:Nat),Lib.decFrom acc l=some n→acc≤n
 |[],acc,n,h=>by simp only[Lib.decFrom,Option.some.injEq]at h;omega
 |c::l,acc,n,h=>by
  simp only[Lib.decFrom]at h
  split at h
  ·have:=X0 l _ n h
   omega
  ·cases h
theorem XaT:∀(l:List UInt8) (acc n:Nat),Lib.decFrom acc l=some n→n≤1000000000→Lib.parseUint10 acc l= .ok n
 |[],acc,n,h,_=>by simp only[Lib.decFrom,Option.some.injEq]at h;rw[h];rfl
 |c::l,acc,n,h,hn=>by
  simp only[Lib.decFrom,Lib.digitVal]at h
  unfold Lib.parseUint10
  by_cases hc:48≤c.toNat∧c.toNat≤57
  ·rw[if_pos hc]at h⊢
   have:=X0 l _ n h
   rw[if_neg (by omega),if_neg (by omega)]
   exact XaT l _ n h hn
  ·rw[if_neg hc]at h
   cases h
theorem Xi4{l:List UInt8}{n:Nat}(h:Lib.decFrom 0 l=some n)(hl:l≠[])(hn:n≤1000000000):Lib.atoiAll l= .ok n:=by
 cases l with
 |nil=>exact absurd rfl hl
 |cons c r=>
  obtain⟨d,hd⟩:=Lib.digit_of_decFrom _ _ _ h 0 c rfl
  unfold Lib.digitVal at hd
  have hc:48≤c.toNat∧c.toNat≤57:=by
   by_cases hc:48≤c.toNat∧c.toNat≤57
   ·exact hc
   ·rw[if_neg hc]at hd;cases hd
  have h45:¬c.toNat=45:=by omega
  unfold Lib.atoiAll
  simp only[if_neg (show¬(c.toNat=43∨c.toNat=45)by omega),Lib.parseMag,if_neg (show¬(c::r=[])by simp),XaT _ _ _ h hn]
  rw[if_neg (by omega),if_neg (by omega),if_neg h45]
theorem XiF(t:ByteArray):Bi t=match Lib.atoiAll t.data.toList with
  | .ok v=>if Bq v=true∧Ck v=t then(v,true)else(0,false)
  |_=>(0,false):=by
 cases hd:Lib.decFrom 0 t.data.toList with
 |some n=>
  rw[Ve hd]
  by_cases hc:n≤1000000000∧Ck (n:Int)=t
  ·have hne:t.data.toList≠[]:=by
    intro e
    have:=(XfM hc.2 (by omega) (by omega)).1
    have hs:t.data.toList.length=t.size:=Array.length_toList
    rw[e]at hs
    simp at hs
    omega
   rw[if_pos hc,Xi4 hd hne hc.1]
   simp only[]
   rw[if_pos ⟨by unfold Bq;exact decide_eq_true (by omega),hc.2⟩]
  ·rw[if_neg hc]
   split
   ·rename_i v hv
    rw[if_neg]
    rintro⟨h1,h2⟩
    unfold Bq at h1
    rw[decide_eq_true_eq]at h1
    have e:Lib.decFrom 0 t.data.toList=some v.toNat:=by
     rw[←h2]
     unfold Ck Lib.itoa
     rw[Qm,if_neg (by omega)]
     exact Su _
    rw[hd]at e
    have e2:=Option.some.inj e
    exact hc ⟨by omega,by rw[e2,Int.toNat_of_nonneg h1.1];exact h2⟩
   ·rfl
 |none=>
  have e0:Bi t=(0,false):=by unfold Bi;rw[hd]
  rw[e0]
  split
  ·rename_i v hv
   rw[if_neg]
   rintro⟨h1,h2⟩
   unfold Bq at h1
   rw[decide_eq_true_eq]at h1
   have e:Lib.decFrom 0 t.data.toList=some v.toNat:=by
    rw[←h2]
    unfold Ck Lib.itoa
    rw[Qm,if_neg (by omega)]
    exact Su _
   rw[hd]at e
   cases e
  ·rfl
variable {name text a:ByteArray} {o:List Ad} {oa:Int} {ob oc:Bool} {l:List ByteArray} {xl xo:List (List D)} {no:Nat}
theorem Mo{o:Bool}(hs:name.size≤1000000000)(hr:Bt name=o):Fn Tryz.prog 248 [S name] [] ⟨B o,[],[]⟩:=by
 refine Fn.go Gb Tryz.func248 fun P hP Q hQ=>?_
 conv=>cbv
 refine .go fun v1 ah=>?_
 conv=>cbv
 refine LoopW.lp (κ:=Int) Gb hP [] [0,6] (fun i7=>[(7,I i7)]) (fun i7=>[])
  (fun i7=>0≤i7∧i7≤name.size∧∀(j:Nat) (hj:j<name.size),j<i7.toNat→Jh (name[j]).toNat=true)
  (fun i7=>(name.size - i7).toNat) (0) ⟨by omega,by omega,fun j _ h=>by simp at h⟩ ⟨rfl,trivial⟩ rfl ?_
 rintro i7 J ⟨h0,h1,hb⟩ hJ
 conv=>cbv
 refine .lss (fun h2=>?_) fun h2=>?_
 conv=>cbv
 refine .go i7.toNat fun hjv3 v3 ad bv3=>?_
 conv=>cbv
 refine .geq (fun h4=>?_) fun h4=>?_
 conv=>cbv
 refine .leq (fun h5=>?_) fun h5=>?_
 conv=>cbv
 refine .add fun v6 ai=>?_
 conv=>cbv
 exact .go [] (v6) (hJ _ ⟨by omega,by omega,fun j hj h=>if e:j=i7.toNat then by subst e;unfold Jh;rw[decide_eq_true_eq];omega else hb j hj (by omega)⟩ mlt)
 conv=>cbv
 refine .geq (fun h6=>?_) fun h6=>?_
 conv=>cbv
 refine .leq (fun h7=>?_) fun h7=>?_
 conv=>cbv
 refine .add fun v8 aa=>?_
 conv=>cbv
 exact .go [] (v8) (hJ _ ⟨by omega,by omega,fun j hj h=>if e:j=i7.toNat then by subst e;unfold Jh;rw[decide_eq_true_eq];omega else hb j hj (by omega)⟩ mlt)
 conv=>cbv
 refine .eql (fun h8=>?_) fun h8=>?_
 conv=>cbv
 refine .add fun v9 ac=>?_
 conv=>cbv
 exact .go [] (v9) (hJ _ ⟨by omega,by omega,fun j hj h=>if e:j=i7.toNat then by subst e;unfold Jh;rw[decide_eq_true_eq];omega else hb j hj (by omega)⟩ mlt)
 conv=>cbv
 refine .eql (fun h9=>?_) fun h9=>?_
 conv=>cbv
 refine .add fun ae ag=>?_
 conv=>cbv
 exact .go [] (ae) (hJ _ ⟨by omega,by omega,fun j hj h=>if e:j=i7.toNat then by subst e;unfold Jh;rw[decide_eq_true_eq];omega else hb j hj (by omega)⟩ mlt)
 conv=>cbv
 have e:false=Bt name:=(by exact Of (show i7.toNat<name.size by omega) (by unfold Jh;rw[decide_eq_false_iff_not];omega))
 rw[hr]at e
 subst e
 exact hQ _ _ (.b rfl rfl)
 conv=>cbv
 refine .eql (fun h7=>?_) fun h7=>?_
 conv=>cbv
 refine .add fun v8 aa=>?_
 conv=>cbv
 exact .go [] (v8) (hJ _ ⟨by omega,by omega,fun j hj h=>if e:j=i7.toNat then by subst e;unfold Jh;rw[decide_eq_true_eq];omega else hb j hj (by omega)⟩ mlt)
 conv=>cbv
 refine .eql (fun h8=>?_) fun h8=>?_
 conv=>cbv
 refine .add fun v9 ac=>?_
 conv=>cbv
 exact .go [] (v9) (hJ _ ⟨by omega,by omega,fun j hj h=>if e:j=i7.toNat then by subst e;unfold Jh;rw[decide_eq_true_eq];omega else hb j hj (by omega)⟩ mlt)
 conv=>cbv
 have e:false=Bt name:=(by exact Of (show i7.toNat<name.size by omega) (by unfold Jh;rw[decide_eq_false_iff_not];omega))
 rw[hr]at e
 subst e
 exact hQ _ _ (.b rfl rfl)
 conv=>cbv
 refine .geq (fun h5=>?_) fun h5=>?_
 conv=>cbv
 refine .leq (fun h6=>?_) fun h6=>?_
 conv=>cbv
 refine .add fun v7 af=>?_
 conv=>cbv
 exact .go [] (v7) (hJ _ ⟨by omega,by omega,fun j hj h=>if e:j=i7.toNat then by subst e;unfold Jh;rw[decide_eq_true_eq];omega else hb j hj (by omega)⟩ mlt)
 conv=>cbv
 refine .eql (fun h7=>?_) fun h7=>?_
 conv=>cbv
 refine .add fun v8 aa=>?_
 conv=>cbv
 exact .go [] (v8) (hJ _ ⟨by omega,by omega,fun j hj h=>if e:j=i7.toNat then by subst e;unfold Jh;rw[decide_eq_true_eq];omega else hb j hj (by omega)⟩ mlt)
 conv=>cbv
 refine .eql (fun h8=>?_) fun h8=>?_
 conv=>cbv
 refine .add fun v9 ac=>?_
 conv=>cbv
 exact .go [] (v9) (hJ _ ⟨by omega,by omega,fun j hj h=>if e:j=i7.toNat then by subst e;unfold Jh;rw[decide_eq_true_eq];omega else hb j hj (by omega)⟩ mlt)
 conv=>cbv
 have e:false=Bt name:=(by exact Of (show i7.toNat<name.size by omega) (by unfold Jh;rw[decide_eq_false_iff_not];omega))
 rw[hr]at e
 subst e
 exact hQ _ _ (.b rfl rfl)
 conv=>cbv
 refine .eql (fun h6=>?_) fun h6=>?_
 conv=>cbv
 refine .add fun v7 af=>?_
 conv=>cbv
 exact .go [] (v7) (hJ _ ⟨by omega,by omega,fun j hj h=>if e:j=i7.toNat then by subst e;unfold Jh;rw[decide_eq_true_eq];omega else hb j hj (by omega)⟩ mlt)
 conv=>cbv
 refine .eql (fun h7=>?_) fun h7=>?_
 conv=>cbv
 refine .add fun v8 aa=>?_
 conv=>cbv
 exact .go [] (v8) (hJ _ ⟨by omega,by omega,fun j hj h=>if e:j=i7.toNat then by subst e;unfold Jh;rw[decide_eq_true_eq];omega else hb j hj (by omega)⟩ mlt)
 conv=>cbv
 have e:false=Bt name:=(by exact Of (show i7.toNat<name.size by omega) (by unfold Jh;rw[decide_eq_false_iff_not];omega))
 rw[hr]at e
 subst e
 exact hQ _ _ (.b rfl rfl)
 conv=>cbv
 refine .go fun v3 ad=>?_
 conv=>cbv
 generalize ab:Cc v3 1 20=r4
 refine .dd hP (Gd ab) ?_
 cases r4
 simp only[Cc,decide_eq_true_eq,decide_eq_false_iff_not]at ab
 conv=>cbv
 have e:false=Bt name:=(by exact Pk (fun j hj=>hb j hj (by omega)) (by symm;rw[decide_eq_false_iff_not];omega))
 rw[hr]at e
 subst e
 exact hQ _ _ (.b rfl rfl)
 simp only[Cc,decide_eq_true_eq,decide_eq_false_iff_not]at ab
 conv=>cbv
 have e:true=Bt name:=(by exact Pk (fun j hj=>hb j hj (by omega)) (by symm;rw[decide_eq_true_eq];omega))
 rw[hr]at e
 subst e
 exact hQ _ _ (.b rfl rfl)
theorem M1{o:Bool}(hs:name.size≤1000000000)(hr:Bt name=o):Fn Tryz.prog 242 [S name] [] ⟨B o,[],[]⟩:=by
 refine Fn.go Gb Tryz.func242 fun P hP Q hQ=>?_
 conv=>cbv
 refine LoopW.lp (κ:=Int) Gb hP [] [0] (fun i3=>[(3,I i3)]) (fun i3=>[])
  (fun i3=>0≤i3∧i3≤name.size∧∀(j:Nat) (hj:j<name.size),j<i3.toNat→Jh (name[j]).toNat=true)
  (fun i3=>(name.size - i3).toNat) (0) ⟨by omega,by omega,fun j _ h=>by simp at h⟩ ⟨rfl,trivial⟩ rfl ?_
 rintro i3 J ⟨h0,h1,hb⟩ hJ
 conv=>cbv
 refine .go fun v1 ae=>?_
 conv=>cbv
 refine .lss (fun h2=>?_) fun h2=>?_
 conv=>cbv
 refine .go i3.toNat fun hjv3 v3 ad bv3=>?_
 conv=>cbv
 refine .id fun v4 af=>?_
 conv=>cbv
 generalize aa:Bh v4 97 122=r5
 refine .dd hP (Do aa) ?_
 cases r5
 simp only[Bh,decide_eq_true_eq,decide_eq_false_iff_not]at aa
 conv=>cbv
 generalize ab:Bh v4 48 57=r6
 refine .dd hP (Do ab) ?_
 cases r6
 simp only[Bh,decide_eq_true_eq,decide_eq_false_iff_not]at ab
 conv=>cbv
 refine .neq (fun h7=>?_) fun h7=>?_
 conv=>cbv
 refine .neq (fun h8=>?_) fun h8=>?_
 conv=>cbv
 have e:false=Bt name:=(by exact Of (show i3.toNat<name.size by omega) (by unfold Jh;rw[decide_eq_false_iff_not];omega))
 rw[hr]at e
 subst e
 exact hQ _ _ (.b rfl rfl)
 conv=>cbv
 refine .add fun v9 ag=>?_
 conv=>cbv
 exact .go [] (v9) (hJ _ ⟨by omega,by omega,fun j hj h=>if e:j=i3.toNat then by subst e;unfold Jh;rw[decide_eq_true_eq];omega else hb j hj (by omega)⟩ mlt)
 conv=>cbv
 refine .add fun v8 ah=>?_
 conv=>cbv
 exact .go [] (v8) (hJ _ ⟨by omega,by omega,fun j hj h=>if e:j=i3.toNat then by subst e;unfold Jh;rw[decide_eq_true_eq];omega else hb j hj (by omega)⟩ mlt)
 simp only[Bh,decide_eq_true_eq,decide_eq_false_iff_not]at ab
 conv=>cbv
 refine .add fun v7 ai=>?_
 conv=>cbv
 exact .go [] (v7) (hJ _ ⟨by omega,by omega,fun j hj h=>if e:j=i3.toNat then by subst e;unfold Jh;rw[decide_eq_true_eq];omega else hb j hj (by omega)⟩ mlt)
 simp only[Bh,decide_eq_true_eq,decide_eq_false_iff_not]at aa
 conv=>cbv
 refine .add fun v6 aj=>?_
 conv=>cbv
 exact .go [] (v6) (hJ _ ⟨by omega,by omega,fun j hj h=>if e:j=i3.toNat then by subst e;unfold Jh;rw[decide_eq_true_eq];omega else hb j hj (by omega)⟩ mlt)
 conv=>cbv
 refine .go fun v3 ad=>?_
 conv=>cbv
 generalize ac:Bh v3 1 20=r4
 refine .dd hP (Do ac) ?_
 cases r4
 simp only[Bh,decide_eq_true_eq,decide_eq_false_iff_not]at ac
 conv=>cbv
 have e:false=Bt name:=(by exact Pk (fun j hj=>hb j hj (by omega)) (by symm;rw[decide_eq_false_iff_not];omega))
 rw[hr]at e
 subst e
 exact hQ _ _ (.b rfl rfl)
 simp only[Bh,decide_eq_true_eq,decide_eq_false_iff_not]at ac
 conv=>cbv
 have e:true=Bt name:=(by exact Pk (fun j hj=>hb j hj (by omega)) (by symm;rw[decide_eq_true_eq];omega))
 rw[hr]at e
 subst e
 exact hQ _ _ (.b rfl rfl)
theorem R5(hs:text.size≤1000000000)(hr:Bi text=(oa,ob)):Fn Tryz.prog 300 [S text] [] ⟨.tup [I oa,B ob],[],[]⟩:=by
 refine Fn.go Gb Tryz.func300 fun P hP Q hQ=>?_
 conv=>cbv
 refine .go fun v1 aj=>?_
 conv=>cbv
 refine .gtr (fun h2=>?_) fun h2=>?_
 conv=>cbv
 have e:(0,false)=Bi text:=(by exact Xjs (by omega))
 rw[hr]at e
 simp only[Prod.mk.injEq]at e
 obtain⟨rfl,rfl⟩:=e
 refine hQ _ _ ?_
 exact .many (.inl rfl) rfl rfl (.d rfl rfl (.d rfl rfl (.nil)))
 conv=>cbv
 refine LoopW.lp (κ:=Int×Int) Gb hP [] [0] (fun(i4,i5)=>[(4,I i4),(5,I i5)]) (fun(i4,i5)=>[])
  (fun(i4,i5)=>0≤i5∧i5≤text.size∧∃m:Nat,i4=m∧Lib.decFrom 0 (text.data.toList.take i5.toNat)=some m∧m<10^i5.toNat)
  (fun(i4,i5)=>(text.size - i5).toNat) (0,0) ⟨by omega,by omega,0,rfl,rfl,by simp⟩ ⟨rfl,rfl,trivial⟩ rfl ?_
 rintro⟨i4,i5⟩ J ⟨h0,h1,m,hm,hd,hlt⟩ hJ
 have hp:=Nat.pow_le_pow_right (n:=10) (by decide) (show i5.toNat≤10 by omega)
 have ac:(10:Nat)^10=10000000000:=by decide
 rw[ac]at hp
 conv=>cbv
 refine .go fun v3 ak=>?_
 conv=>cbv
 refine .lss (fun h4=>?_) fun h4=>?_
 conv=>cbv
 refine .go i5.toNat fun hjv5 v5 al bv5=>?_
 conv=>cbv
 refine .lss (fun h6=>?_) fun h6=>?_
 conv=>cbv
 have e:(0,false)=Bi text:=(by exact Xkt (show i5.toNat<text.size by omega) (by omega))
 rw[hr]at e
 simp only[Prod.mk.injEq]at e
 obtain⟨rfl,rfl⟩:=e
 refine hQ _ _ ?_
 exact .many (.inl rfl) rfl rfl (.d rfl rfl (.d rfl rfl (.nil)))
 conv=>cbv
 refine .go i5.toNat fun hjv7 v7 am bv7=>?_
 conv=>cbv
 refine .gtr (fun h8=>?_) fun h8=>?_
 conv=>cbv
 have e:(0,false)=Bi text:=(by exact Xkt (show i5.toNat<text.size by omega) (by omega))
 rw[hr]at e
 simp only[Prod.mk.injEq]at e
 obtain⟨rfl,rfl⟩:=e
 refine hQ _ _ ?_
 exact .many (.inl rfl) rfl rfl (.d rfl rfl (.d rfl rfl (.nil)))
 conv=>cbv
 refine .mul fun v9 an=>?_
 conv=>cbv
 refine .go i5.toNat fun hjv10 ao ae bv10=>?_
 conv=>cbv
 refine .id fun ap af=>?_
 conv=>cbv
 refine .add fun aq ag=>?_
 conv=>cbv
 refine .sub fun ad ah=>?_
 conv=>cbv
 refine .add fun aa ai=>?_
 conv=>cbv
 have hdt:=Lib.decFrom_take _ _ _ _ _ ((text[i5.toNat]).toNat - 48) hd (M8 (show i5.toNat<text.size by omega)) (by unfold Lib.digitVal;rw[if_pos (by omega)])
 exact .go [] (ad,aa) (hJ _ ⟨by omega,by omega,m*10+((text[i5.toNat]).toNat - 48),by omega,by rw[show aa.toNat=i5.toNat+1 by omega];exact hdt,by rw[show aa.toNat=i5.toNat+1 by omega,Nat.pow_succ];omega⟩ mlt)
 conv=>cbv
 refine .gtr (fun h5=>?_) fun h5=>?_
 conv=>cbv
 have e:(0,false)=Bi text:=(by rw[List.take_of_length_le (by rw[Array.length_toList];show text.size≤_;omega)]at hd;rw[Ve hd,if_neg (by omega)])
 rw[hr]at e
 simp only[Prod.mk.injEq]at e
 obtain⟨rfl,rfl⟩:=e
 refine hQ _ _ ?_
 exact .many (.inl rfl) rfl rfl (.d rfl rfl (.d rfl rfl (.nil)))
 conv=>cbv
 generalize ab:Ck i4=r6
 refine .dd hP (XcI (by unfold Zz;omega) ab) ?_
 conv=>cbv
 refine .neq (fun h7=>?_) fun h7=>?_
 conv=>cbv
 have e:(0,false)=Bi text:=(by rw[List.take_of_length_le (by rw[Array.length_toList];show text.size≤_;omega)]at hd;rw[Ve hd,if_neg];rintro⟨_,h⟩;exact h7 (by rw[←ab,hm];exact h))
 rw[hr]at e
 simp only[Prod.mk.injEq]at e
 obtain⟨rfl,rfl⟩:=e
 refine hQ _ _ ?_
 exact .many (.inl rfl) rfl rfl (.d rfl rfl (.d rfl rfl (.nil)))
 conv=>cbv
 have e:(i4,true)=Bi text:=(by rw[List.take_of_length_le (by rw[Array.length_toList];show text.size≤_;omega)]at hd;rw[Ve hd,if_pos ⟨by omega,by rw[←hm,ab];exact h7⟩,hm])
 rw[hr]at e
 simp only[Prod.mk.injEq]at e
 obtain⟨rfl,rfl⟩:=e
 refine hQ _ _ ?_
 exact .many (.inl rfl) rfl rfl (.d rfl rfl (.d rfl rfl (.nil)))
theorem XaW{w:World}(hG:Globs.ok w fun b=>b<w.heap.size){n:Int}{o:ByteArray}(hn:Zz n)(hr:Ck n=o):Calls Tryz.prog 144 #[.int .i64 n] w fun e w'=>e= .returned (.string o)∧Below w.heap.size w w':=by
 refine(XcR (n:=n) hn hr).ok.callsV hG ⟨rfl,?_⟩
 intro j y hy
 match j,hy with
 |0,hy=>cases hy;exact .d _ _ (.sc _ rfl)
theorem Xlv{l:List UInt8}{v:Int}(h:Lib.atoiAll l= .ok v):Zz v:=by
 cases l with
 |nil=>cases h
 |cons c r=>
  unfold Lib.atoiAll at h
  simp only at h
  unfold Zz
  split at h
  ·cases h
  ·cases h
  ·split at h
   ·cases h
   ·split at h
    ·cases h
    ·simp only[Lib.NumEnd.ok.injEq]at h
     split at h<;>omega
set_option maxHeartbeats 1000000 in
set_option maxRecDepth 100000 in
theorem Zx{text:ByteArray}(hs:text.size≤1000000000){w:World}(hG:Globs.ok w fun b=>b<w.heap.size):Calls Tryz.prog 251 #[.string text] w fun e w'=>
  e= .returned (.tuple #[.int .i64 (Bi text).1,.bool (Bi text).2])∧Below w.heap.size w w':=by
 have hG2:∀{w:World},(Globs.ok w fun b=>b<w.heap.size)→G4 w 2:=fun h=>Xh2 h
 have hG3:∀{w:World},(Globs.ok w fun b=>b<w.heap.size)→G4 w 3:=fun h=>Xli h
 rw[XiF]
 cases ha:Lib.atoiAll text.data.toList
 ·rename_i v
  dsimp only
  have hv:=Xlv ha
  have hp:=fun w=>Tryz.strconv_Atoi_ok text (by omega) v ha w
  cases hn:Bq v with
  |false=>
   simp only[Bool.false_eq_true,false_and,if_false]
   go_enter Tryz.func251,Tryz.ntmps251
   go_wp2_with (first
    |(go_at_call 305;refine(hp _).mono ?_;rintro e w1 ⟨rfl,hb⟩;have aa:Below w.heap.size w w1:=(by rcases hb with rfl|⟨t,rfl⟩;exact Below.refl _ _;exact Lib.bytesWorld_below _ _ _);clear hb;have hG1:=De hG aa)
    |(go_at_call 173;refine(Kb hG1 hn).mono ?_;rintro e w2 ⟨rfl,hb2⟩;have hG2_:=De hG1 hb2))
   go_ret2
   exact⟨rfl,aa.trans (hb2.mono aa.size)⟩
  |true=>
   obtain⟨o,ho⟩:∃o,Ck v=o:=⟨_,rfl⟩
   by_cases he:o=text
   ·simp only[ho,he,true_and,if_true]
    subst he
    go_enter Tryz.func251,Tryz.ntmps251
    go_wp2_with (first
     |(go_at_call 305;refine(hp _).mono ?_;rintro e w1 ⟨rfl,hb⟩;have aa:Below w.heap.size w w1:=(by rcases hb with rfl|⟨t,rfl⟩;exact Below.refl _ _;exact Lib.bytesWorld_below _ _ _);clear hb;have hG1:=De hG aa)
     |(go_at_call 173;refine(Kb hG1 hn).mono ?_;rintro e w2 ⟨rfl,hb2⟩;have hG2_:=De hG1 hb2)
     |(go_at_call 144;refine(XaW hG2_ hv ho).mono ?_;rintro e w3 ⟨rfl,ab⟩))
    go_ret2
    exact⟨rfl,(aa.trans (hb2.mono aa.size)).trans (ab.mono (aa.trans (hb2.mono aa.size)).size)⟩
   ·simp only[ho,he,and_false,if_false]
    have ac:=Xfq he
    go_enter Tryz.func251,Tryz.ntmps251
    go_wp2_with (first
     |(go_at_call 305;refine(hp _).mono ?_;rintro e w1 ⟨rfl,hb⟩;have aa:Below w.heap.size w w1:=(by rcases hb with rfl|⟨t,rfl⟩;exact Below.refl _ _;exact Lib.bytesWorld_below _ _ _);clear hb;have hG1:=De hG aa)
     |(go_at_call 173;refine(Kb hG1 hn).mono ?_;rintro e w2 ⟨rfl,hb2⟩;have hG2_:=De hG1 hb2)
     |(go_at_call 144;refine(XaW hG2_ hv ho).mono ?_;rintro e w3 ⟨rfl,ab⟩))
    go_ret2
    exact⟨rfl,(aa.trans (hb2.mono aa.size)).trans (ab.mono (aa.trans (hb2.mono aa.size)).size)⟩
 ·dsimp only
  obtain⟨ev,h1,h2⟩:=hG2 hG
  have hp:=Tryz.strconv_Atoi_syntax text (by omega) ha ev w h1 h2
  go_enter Tryz.func251,Tryz.ntmps251
  go_wp2_with (go_at_call 305;refine hp.mono ?_;rintro e w1 ⟨N,rfl,-,-,aa⟩)
  go_ret2
  exact⟨rfl,aa⟩
 ·dsimp only
  obtain⟨ev,h1,h2⟩:=hG3 hG
  have hp:=Tryz.strconv_Atoi_range text (by omega) ha ev w h1 h2
  go_enter Tryz.func251,Tryz.ntmps251
  go_wp2_with (go_at_call 305;refine hp.mono ?_;rintro e w1 ⟨N,rfl,-,-,aa⟩)
  go_ret2
  exact⟨rfl,aa⟩
theorem XaA(hs:text.size≤1000000000)(hr:Bi text=(oa,ob)):Fn Tryz.prog 251 [S text] [] ⟨.tup [I oa,B ob],[],[]⟩:=by
 refine⟨Et Tryz.func251 rfl rfl,CallOk.ofCallsT rfl rfl fun E vs hS hG hA=>?_⟩
 obtain⟨u,rfl,h1⟩:=XjI hA
 rw[Pt h1]
 have h2:=Zx hs (Globs.step hS (fun _ _=>rfl) hG)
 rw[hr]at h2
 exact h2
def Jf(s:ByteArray):Int:=Lib.indexByte s.data.toList 58
def Kw(s:ByteArray):ByteArray×ByteArray×Bool:=if 0≤Jf s then(s.extract 0 (Jf s).toNat,s.extract ((Jf s).toNat+1) s.size,true)else(s,tx [],false)
theorem Ts(c:UInt8):∀l:List UInt8,-1≤Lib.indexByte l c∧Lib.indexByte l c<l.length
 |[]=>by simp[Lib.indexByte]
 |b::l=>by
  have:=Ts c l
  unfold Lib.indexByte
  rw[List.length_cons]
  split
  ·omega
  ·split
   ·omega
   ·omega
theorem Xr{s:ByteArray}{i:Int}(e:Jf s=i): -1≤i∧i<s.size:=by
 rw[←e]
 exact Ts 58 s.data.toList
theorem J0{s:ByteArray}{o:Int}(hr:Jf s=o):Fn Tryz.prog 330 [S s,S (tx [58])] [] ⟨I o,[],[]⟩:=by
 refine⟨Et Tryz.func330 rfl rfl,CallOk.ofCalls fun E vs hS hA=>?_⟩
 obtain⟨u,v,rfl,h1,h2⟩:=Xmx hA
 rw[Pt h1,Pt h2]
 refine(Tryz.stringslite_Index_one s 58 E.w).mono ?_
 rintro e w' ⟨rfl,rfl⟩
 refine⟨_,rfl,Below.refl _ _,?_⟩
 show RelD _ _ (.sc (.int .i64 o)) (.int .i64 (Jf s))
 rw[hr]
 exact .sc _ rfl
theorem Ky{oa:ByteArray}{ob:ByteArray}(hs:a.size≤1000000000)(hr:Kw a=(oa,ob,oc)):Fn Tryz.prog 304 [S a,S (tx [58])] [] ⟨.tup [S oa,S ob,B oc],[],[]⟩:=by
 refine Fn.go Gb Tryz.func304 fun P hP Q hQ=>?_
 conv=>cbv
 generalize aa:Jf a=r1
 refine .dd hP (J0 aa) ?_
 conv=>cbv
 have hb:=Xr aa
 refine .geq (fun h2=>?_) fun h2=>?_
 conv=>cbv
 refine .hi fun s3 ab=>?_
 conv=>cbv
 refine .go fun v4 ac=>?_
 conv=>cbv
 have ae:v4=1:=by rw[ac];rfl
 refine .add fun v5 af=>?_
 conv=>cbv
 refine .lo fun s6 ad=>?_
 conv=>cbv
 have e:(s3,s6,true)=Kw a:=(by unfold Kw;rw[aa,if_pos (by omega),ab,ad,show v5.toNat=r1.toNat+1 by omega])
 rw[hr]at e
 simp only[Prod.mk.injEq]at e
 obtain⟨rfl,rfl,rfl⟩:=e
 refine hQ _ _ ?_
 exact .many (.inl rfl) rfl rfl (.d rfl rfl (.d rfl rfl (.d rfl rfl (.nil))))
 conv=>cbv
 have e:(a,(tx []),false)=Kw a:=(by unfold Kw;rw[aa,if_neg (by omega)])
 rw[hr]at e
 simp only[Prod.mk.injEq]at e
 obtain⟨rfl,rfl,rfl⟩:=e
 refine hQ _ _ ?_
 exact .many (.inl rfl) rfl rfl (.d rfl rfl (.d rfl rfl (.d rfl rfl (.nil))))
theorem Xah{oa:ByteArray}{ob:ByteArray}(hs:a.size≤1000000000)(hr:Kw a=(oa,ob,oc)):Fn Tryz.prog 250 [S a,S (tx [58])] [] ⟨.tup [S oa,S ob,B oc],[],[]⟩:=by
 refine Fn.go Gb Tryz.func250 fun P hP Q hQ=>?_
 conv=>cbv
 rcases aa:Kw a with⟨ab,ac,ad⟩
 refine .dd hP (Ky (by omega) aa) ?_
 conv=>cbv
 have e:(ab,ac,ad)=Kw a:=(by exact aa.symm)
 rw[hr]at e
 simp only[Prod.mk.injEq]at e
 obtain⟨rfl,rfl,rfl⟩:=e
 refine hQ _ _ ?_
 exact .many (.inl rfl) rfl rfl (.d rfl rfl (.d rfl rfl (.d rfl rfl (.nil))))
def D9{α:Type}(l:List α):List α:=l
theorem S2{α:Type}{c:α→List D}{l:List α}{x:List (List D)}{v:Bool}(hl:l.map c=x)(hv:v=x.isEmpty)(h:v=true):[]=l:=by
 rw[h,←hl]at hv
 cases l with
 |nil=>rfl
 |cons=>cases hv
theorem C4{l:List Ad}(hl:l.map Ac=xl)(hn:l.length≤4000000000)(hr:D9 l=o)(ho:o.map Ac=xo):Fn Tryz.prog 176 [.d (.row 2 xl)] [] ⟨.d (.row 2 xo),[],[]⟩:=by
 refine Fn.go Gb Tryz.func176 fun P hP Q hQ=>?_
 conv=>cbv
 refine .go fun v1 ab=>?_
 conv=>cbv
 refine⟨fun h2=>?_,?_⟩
 have e:[]=D9 l:=(by unfold D9;exact S2 hl ab h2)
 rw[hr]at e
 subst e
 exact hQ _ _ (.r rfl rfl rfl (by rw[←ho];rfl))
 refine .row0 hl fun ad z3 ac aa=>?_
 conv=>cbv
 have e:l=D9 l:=(by rfl)
 rw[hr]at e
 subst e
 exact hQ _ _ (.r rfl rfl (by rw[←aa,List.length_map];first|omega|(simp;omega)) (by rw[←aa,←ho]))
theorem Ke{l:List Ad}(hl:l.map Ac=xl)(hn:l.length≤4000000000)(hr:D9 l=o)(ho:o.map Ac=xo)(hno:no=o.length):Fn Tryz.prog 176 [.d (.row 2 xl)] [] ⟨.ref 0 0 no,[.row 2 false xo],[]⟩:=by
 refine Fn.goR Gb Tryz.func176 fun P hP Q hQ=>?_
 conv=>cbv
 refine .go fun v1 aa=>?_
 conv=>cbv
 refine⟨fun h2=>?_,?_⟩
 have e:[]=D9 l:=(by unfold D9;exact S2 hl aa h2)
 rw[hr]at e
 subst e
 obtain rfl:[]=xo:=by first|(rw[←ho];done)|(rw[←ho];rfl)
 obtain rfl:0=no:=by first|omega|(rw[hno];simp;done)|(rw[hno];simp;omega)
 exact hQ _ _ (.of [1] (.inl rfl) rfl rfl rfl rfl)
 refine .row0 hl fun ab z3 ad ac=>?_
 conv=>cbv
 have e:l=D9 l:=(by rfl)
 rw[hr]at e
 subst e
 obtain rfl:z3=xo:=by rw[←ac,←ho]
 obtain rfl:ab=no:=by first|omega|(rw[hno];simp;done)|(rw[hno];simp;omega)
 exact hQ _ _ (.of [2] (.inl rfl) rfl rfl rfl rfl)
theorem Ma{l:List Bk}{o:List Bk}(hl:l.map Bg=xl)(hn:l.length≤4000000000)(hr:D9 l=o)(ho:o.map Bg=xo):Fn Tryz.prog 195 [.d (.row 3 xl)] [] ⟨.d (.row 3 xo),[],[]⟩:=by
 refine Fn.go Gb Tryz.func195 fun P hP Q hQ=>?_
 conv=>cbv
 refine .go fun v1 ab=>?_
 conv=>cbv
 refine⟨fun h2=>?_,?_⟩
 have e:[]=D9 l:=(by unfold D9;exact S2 hl ab h2)
 rw[hr]at e
 subst e
 exact hQ _ _ (.r rfl rfl rfl (by rw[←ho];rfl))
 refine .row0 hl fun ad z3 ac aa=>?_
 conv=>cbv
 have e:l=D9 l:=(by rfl)
 rw[hr]at e
 subst e
 exact hQ _ _ (.r rfl rfl (by rw[←aa,List.length_map];first|omega|(simp;omega)) (by rw[←aa,←ho]))
theorem Ly{l:List Bk}{o:List Bk}(hl:l.map Bg=xl)(hn:l.length≤4000000000)(hr:D9 l=o)(ho:o.map Bg=xo)(hno:no=o.length):Fn Tryz.prog 195 [.d (.row 3 xl)] [] ⟨.ref 0 0 no,[.row 3 false xo],[]⟩:=by
 refine Fn.goR Gb Tryz.func195 fun P hP Q hQ=>?_
 conv=>cbv
 refine .go fun v1 aa=>?_
 conv=>cbv
 refine⟨fun h2=>?_,?_⟩
 have e:[]=D9 l:=(by unfold D9;exact S2 hl aa h2)
 rw[hr]at e
 subst e
 obtain rfl:[]=xo:=by first|(rw[←ho];done)|(rw[←ho];rfl)
 obtain rfl:0=no:=by first|omega|(rw[hno];simp;done)|(rw[hno];simp;omega)
 exact hQ _ _ (.of [1] (.inl rfl) rfl rfl rfl rfl)
 refine .row0 hl fun ab z3 ad ac=>?_
 conv=>cbv
 have e:l=D9 l:=(by rfl)
 rw[hr]at e
 subst e
 obtain rfl:z3=xo:=by rw[←ac,←ho]
 obtain rfl:ab=no:=by first|omega|(rw[hno];simp;done)|(rw[hno];simp;omega)
 exact hQ _ _ (.of [2] (.inl rfl) rfl rfl rfl rfl)
theorem Jx{o:List ByteArray}(hl:l.map cS=xl)(hn:l.length≤4000000000)(hr:D9 l=o)(ho:o.map cS=xo):Fn Tryz.prog 196 [.d (.row 1 xl)] [] ⟨.d (.row 1 xo),[],[]⟩:=by
 refine Fn.go Gb Tryz.func196 fun P hP Q hQ=>?_
 conv=>cbv
 refine .go fun v1 ab=>?_
 conv=>cbv
 refine⟨fun h2=>?_,?_⟩
 have e:[]=D9 l:=(by unfold D9;exact S2 hl ab h2)
 rw[hr]at e
 subst e
 exact hQ _ _ (.r rfl rfl rfl (by rw[←ho];rfl))
 refine .row0 hl fun ad z3 ac aa=>?_
 conv=>cbv
 have e:l=D9 l:=(by rfl)
 rw[hr]at e
 subst e
 exact hQ _ _ (.r rfl rfl (by rw[←aa,List.length_map];first|omega|(simp;omega)) (by rw[←aa,←ho]))
theorem Jg{o:List ByteArray}(hl:l.map cS=xl)(hn:l.length≤4000000000)(hr:D9 l=o)(ho:o.map cS=xo)(hno:no=o.length):Fn Tryz.prog 196 [.d (.row 1 xl)] [] ⟨.ref 0 0 no,[.row 1 false xo],[]⟩:=by
 refine Fn.goR Gb Tryz.func196 fun P hP Q hQ=>?_
 conv=>cbv
 refine .go fun v1 aa=>?_
 conv=>cbv
 refine⟨fun h2=>?_,?_⟩
 have e:[]=D9 l:=(by unfold D9;exact S2 hl aa h2)
 rw[hr]at e
 subst e
 obtain rfl:[]=xo:=by first|(rw[←ho];done)|(rw[←ho];rfl)
 obtain rfl:0=no:=by first|omega|(rw[hno];simp;done)|(rw[hno];simp;omega)
 exact hQ _ _ (.of [1] (.inl rfl) rfl rfl rfl rfl)
 refine .row0 hl fun ab z3 ad ac=>?_
 conv=>cbv
 have e:l=D9 l:=(by rfl)
 rw[hr]at e
 subst e
 obtain rfl:z3=xo:=by rw[←ac,←ho]
 obtain rfl:ab=no:=by first|omega|(rw[hno];simp;done)|(rw[hno];simp;omega)
 exact hQ _ _ (.of [2] (.inl rfl) rfl rfl rfl rfl)
end
end Go.Proofs.YtgdmjbcllgmepaaGreatDoor.Ab
