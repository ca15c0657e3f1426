/- What functions of the program come to, for all arguments in the given bounds. -/
import Derived.Test.YtjbmpmmffjgedaaGreatDoorToSh
import Derived.Test.YtjbmpmmffjgedaaGreatDoorToZ10
import Derived.Lib.ItoaNum
import Derived.Lib.AppendIntMem
import Derived.Below
import Derived.ProofKit
import Derived.Shelf.Spec.SlicesInsertGrow
set_option linter.unusedVariables false
set_option linter.unusedSimpArgs false
namespace Go.Proofs.YtjbmpmmffjgedaaGreatDoor.Ab
section
open Go Go.Proofs
set_option maxRecDepth 20000
set_option maxHeartbeats 4000000
def Qv:List (Nat×TyRow):=[ty3,ty9,We,Z1,Xal,XlF,ty96,XaA,Xki,XkB]
theorem Xc9:Bl Tryz.prog Qv:=Bl.of (by kernel_rfl)
theorem Pk:Setup Tryz.prog Qv:=⟨Xc9,mixed⟩
def Fx(base:Int)(text:ByteArray):List TOp:=[⟨2,Bm base,tx [],tx []⟩,⟨3,Bm base,tx [],text⟩,⟨4,Bm base,tx [],tx []⟩,⟨5,Bm base,Af base,tx []⟩,⟨6,tx [],tx [],tx []⟩]
def Kz(n:ByteArray):TOp:=⟨1,n,tx [],tx []⟩
def Ex(names:List ByteArray):List TOp:=if names=[]then[]else names.map Kz++[⟨6,tx [],tx [],tx []⟩]
def Fq(d:Aa)(b:Int):List TOp:=if(Dn d (Af b)).1.sure_=(Dn d (Af b)).1.text_.size then[]else[⟨4,Af b,tx [],tx []⟩]
def Dz(d:Aa)(v:Int)(b:Int):List TOp:=if B9 (Cq d b) v=Cq d b then[]else Fx b (B9 (Cq d b) v)
def F6(n:ByteArray):Bool:=decide ((Ay n).1=2)
def Wa(v:Int):Int:=if v=1∨v=2 then v else 0
def Wz(d:Aa):List TOp:=(C4 d).flatMap (Fq d)++(if d.steps_=[]then[]else[⟨6,tx [],tx [],tx []⟩])
def Ww(d:Aa):List TOp:=Ex ((A9 d).filter F6)
def Fo(d:Aa)(v:Int):List TOp:=Wz d++Ww d++(C4 d).flatMap (Dz d (Wa v))++Ex ((A9 d).filter (fun n=>!F6 n)).reverse
theorem Xjn{α:Type}{l w:List α}{i j:Int}{a b:α}(hl:w.length=l.length)(h0:0≤i)(hij:i+j=l.length - 1)(hlt:i<j)(h:∀k:Nat,k<l.length→w[k]? =if(k:Int)<i∨j<k then l[l.length - 1 - k]? else l[k]?)
  (ha:w[j.toNat]? =some a)(hb:w[i.toNat]? =some b):∀k:Nat,k<l.length→((w.set i.toNat a).set j.toNat b)[k]? =if(k:Int)<i+1∨j - 1<k then l[l.length - 1 - k]? else l[k]? :=by
 intro k hk
 have hj:=h j.toNat (by omega)
 have hi:=h i.toNat (by omega)
 rw[if_neg (by omega),ha]at hj
 rw[if_neg (by omega),hb]at hi
 by_cases e1:k=j.toNat
 ·subst e1
  rw[List.getElem?_set_self (by rw[List.length_set];omega),if_pos (by omega),show l.length - 1 - j.toNat=i.toNat by omega,←hi]
 ·rw[List.getElem?_set_ne (fun e=>e1 e.symm)]
  by_cases e2:k=i.toNat
  ·subst e2
   rw[List.getElem?_set_self (by omega),if_pos (by omega),show l.length - 1 - i.toNat=j.toNat by omega,←hj]
  ·rw[List.getElem?_set_ne (fun e=>e2 e.symm),h k hk]
   by_cases e3:(k:Int)<i∨j<k
   ·rw[if_pos e3,if_pos (by omega)]
   ·rw[if_neg e3,if_neg (by omega)]
theorem Xkz{α:Type}{l w:List α}{i j:Int}(hl:w.length=l.length)(hij:i+j=l.length - 1)(hlt:j≤i)(h:∀k:Nat,k<l.length→w[k]? =if(k:Int)<i∨j<k then l[l.length - 1 - k]? else l[k]?):w=l.reverse:=by
 refine List.ext_getElem? fun k=>?_
 by_cases hk:k<l.length
 ·rw[h k hk,List.getElem?_reverse hk]
  split
  ·rfl
  ·rw[show l.length - 1 - k=k by omega]
 ·rw[List.getElem?_eq_none (by omega),List.getElem?_eq_none (by rw[List.length_reverse];omega)]
theorem Qk{d:Aa}{α:Type}(f:Se→List α)(g:Int→List α)(h:∀x,x.text_=Cq d x.base_→x.scan_=As (Cq d x.base_)→f x=g x.base_):(Mr d).flatMap f=(C4 d).flatMap g:=by
 rw[List.flatMap_def,List.flatMap_def,Xig f g h]
theorem C7{α:Type}{p:α→Bool}{l:List α}{k:Nat}(h:k<l.length):(l.take (k+1)).filter p=(l.take k).filter p++(if p l[k]then[l[k]]else[]):=by
 rw[List.take_succ_eq_append_getElem h,List.filter_append,List.filter_cons,List.filter_nil]
theorem Xgd{d:Aa}{l:List ByteArray}(e:A9 d=l):∀n∈l,(Ay n).1=2∨(Ay n).1=1:=by
 intro n hn
 rw[←e]at hn
 unfold A9 at hn
 have h:=(List.mem_filter.1 hn).2
 unfold My at h
 rw[decide_eq_true_eq]at h
 rcases h with h|⟨h,_⟩
 ·exact .inl h
 ·exact .inr h
theorem T1{d:Aa}{l:List ByteArray}(hd:okD d)(e:A9 d=l):∀n∈l,n.size≤1000000000:=by
 intro n hn
 rw[←e]at hn
 unfold A9 at hn
 obtain⟨x,hx,rfl⟩:=List.mem_map.1 (List.mem_filter.1 hn).1
 exact hd.2.2.2.1 x hx
theorem Mk{l:List ByteArray}:(Ex l).length≤l.length+1:=by
 unfold Ex
 split
 ·simp
 ·simp
theorem Xbo{α β:Type}{f:α→List β}{m:Nat}(h:∀x,(f x).length≤m):∀l:List α,(l.flatMap f).length≤m*l.length
 |[]=>by simp
 |x::l=>by
  have:=Xbo h l
  have h2:=h x
  rw[List.flatMap_cons,List.length_append,List.length_cons,Nat.mul_succ]
  omega
theorem Qa{d:Aa}(b:Int):(Fq d b).length≤1:=by unfold Fq;split<;>simp
theorem Xis{d:Aa}{v:Int}(b:Int):(Dz d v b).length≤5:=by unfold Dz;split<;>simp[Fx]
theorem XiO{α β:Type}{f:α→List β}{m:Nat}(h:∀x,(f x).length≤m){l:List α}{k:Nat}{w:List β}(e:w=(l.take k).flatMap f):w.length≤m*l.length:=by
 rw[e]
 have:=Xbo h (l.take k)
 have h2:(l.take k).length≤l.length:=by rw[List.length_take];omega
 exact Nat.le_trans this (Nat.mul_le_mul_left m h2)
variable {base Ao An version:Int} {text:ByteArray} {o:List TOp} {xo Bk Bg Bf Bi:List (List D)} {Ak:List Cj} {Aj Am:List Ac} {Al:List ByteArray}
theorem XfY(hr:Fx base text=o)(ho:o.map eOp=xo):Fn Tryz.prog 124 [I base,S text] [] ⟨.d (.row 4 xo),[],[]⟩:=by
 refine Fn.go Pk Tryz.func124 fun P hP Q hQ=>?_
 conv=>cbv
 generalize aa:Bm base=r1
 refine .dd hP (W7 aa) ?_
 conv=>cbv
 generalize ab:Af base=r2
 refine .dd hP (Gn ab) ?_
 conv=>cbv
 have e:[(⟨2,r1,tx [],tx []⟩:TOp),(⟨3,r1,tx [],text⟩:TOp),(⟨4,r1,tx [],tx []⟩:TOp),(⟨5,r1,r2,tx []⟩:TOp),(⟨6,tx [],tx [],tx []⟩:TOp)]=Fx base text:=(by unfold Fx;rw[aa,ab])
 rw[hr]at e
 subst e
 exact hQ _ _ (.r rfl rfl rfl (by rw[←ho];rfl))
theorem Xfh(hr:Fx base text=o)(ho:o.map eOp=xo):Fn Tryz.prog 113 [I base,S text] [] ⟨.d (.row 4 xo),[],[]⟩:=by
 refine Fn.go Pk Tryz.func113 fun P hP Q hQ=>?_
 conv=>cbv
 generalize aa:Bm base=r1
 refine .dd hP (Ss aa) ?_
 conv=>cbv
 generalize ab:Af base=r2
 refine .dd hP (E6 ab) ?_
 conv=>cbv
 have e:[(⟨2,r1,tx [],tx []⟩:TOp),(⟨3,r1,tx [],text⟩:TOp),(⟨4,r1,tx [],tx []⟩:TOp),(⟨5,r1,r2,tx []⟩:TOp),(⟨6,tx [],tx [],tx []⟩:TOp)]=Fx base text:=(by unfold Fx;rw[aa,ab])
 rw[hr]at e
 subst e
 exact hQ _ _ (.r rfl rfl rfl (by rw[←ho];rfl))
theorem Yi{names:List ByteArray}{xnames:List (List D)}{no:Nat}(hnames:names.map cS=xnames)(hn:names.length<2^40)(hr:Ex names=o)(ho:o.map eOp=xo)(hno:no=o.length):Fn Tryz.prog 183 [.d (.row 1 xnames)] [] ⟨.ref 0 0 no,[.row 4 false xo],[]⟩:=by
 refine Fn.goR Pk Tryz.func183 fun P hP Q hQ=>?_
 conv=>cbv
 refine .go hnames fun v1 am=>?_
 conv=>cbv
 refine LoopW.lp (κ:=Int×(List (List D))×Nat) Pk hP [1] [7,8] (fun(i9,aa,ab)=>[(3,.ref 2 0 ab),(9,I i9)]) (fun(i9,aa,ab)=>[(2,.row 4 false aa)])
  (fun(i9,aa,ab)=>∃(w2:List TOp),w2.map eOp=aa∧ab=w2.length∧0≤i9∧i9≤names.length∧w2=(names.take i9.toNat).map Kz∧w2.length=i9.toNat)
  (fun(i9,aa,ab)=>(names.length - i9).toNat) (0,[],0) ⟨[],rfl,rfl,by omega,by omega,by simp,rfl⟩ ⟨rfl,rfl,trivial⟩ rfl ?_
 rintro⟨i9,aa,ab⟩ J ⟨w2,ac,aj,h0,h1,hw,hwl⟩ hJ
 conv=>cbv
 refine .lss (fun h2=>?_) fun h2=>?_
 conv=>cbv
 refine .go i9.toNat hnames fun ad e3 ae=>?_
 conv=>cbv
 refine .one (⟨1,e3,tx [],tx []⟩:TOp) ac rfl fun af z4 ak ag=>?_
 conv=>cbv
 refine .add fun v5 an=>?_
 conv=>cbv
 exact .go [4] (v5,z4,af) (hJ _ ⟨_,ag,Cv,by omega,by omega,by rw[hw,show v5.toNat=i9.toNat+1 by omega,Rn ad,←ae];rfl,by rw[List.length_append,List.length_singleton];omega⟩ mlt)
 conv=>cbv
 refine .go fun v3 ao=>?_
 conv=>cbv
 refine .gtr (fun h4=>?_) fun h4=>?_
 conv=>cbv
 refine .one (⟨6,tx [],tx [],tx []⟩:TOp) ac rfl fun ah z5 al ai=>?_
 conv=>cbv
 have e:(w2++[(⟨6,tx [],tx [],tx []⟩:TOp)])=Ex names:=(by unfold Ex;rw[if_neg (by intro e;subst e;simp at h1;omega),hw,List.take_of_length_le (by omega)])
 rw[hr]at e
 subst e
 obtain rfl:z5=xo:=by rw[←ai,←ho]
 obtain rfl:ah=no:=by first|omega|(rw[hno];simp;done)|(rw[hno];simp;omega)
 exact hQ _ _ (.of [4] (.inl rfl) rfl rfl rfl rfl)
 conv=>cbv
 have e:w2=Ex names:=(by unfold Ex;rw[if_pos (List.eq_nil_of_length_eq_zero (by omega))];exact List.eq_nil_of_length_eq_zero (by omega))
 rw[hr]at e
 subst e
 obtain rfl:aa=xo:=by rw[←ac,←ho]
 obtain rfl:ab=no:=by first|omega|(rw[hno];simp;done)|(rw[hno];simp;omega)
 exact hQ _ _ (.of [2] (.inl rfl) rfl rfl rfl rfl)
theorem Eo:Setup Tryz.prog ((3000003,Em Tryz.prog 3000003)::Qv):=(Setup.mark 3000003 Pk)
theorem I3{l:List ByteArray}{xl:List (List D)}{nl:Nat}{xf:List (List D)}(hl:l.map cS=xl)(hnl:nl=l.length)(hn:l.length<2^40)(hf:l.reverse.map cS=xf):Fn Tryz.prog 185 [.ref 0 0 nl] [.row 1 false xl] ⟨.tup [],[],[(0,.row 1 false xf)]⟩:=by
 refine Fn.goR Eo Tryz.func185 fun P hP Q hQ=>?_
 conv=>cbv
 refine .go fun v1 ay=>?_
 conv=>cbv
 refine .sub fun v2 az=>?_
 conv=>cbv
 refine LoopW.lp (κ:=Int×Int×(List (List D))) Eo hP [] [0] (fun(i2,i3,aa)=>[(2,I i2),(3,I i3)]) (fun(i2,i3,aa)=>[(0,.row 1 false aa)])
  (fun(i2,i3,aa)=>∃(w0:List ByteArray),w0.map cS=aa∧(w0.length=l.length∧0≤i2∧i2+i3=l.length - 1∧i2≤i3+1)∧∀k:Nat,k<l.length→w0[k]? =if(k:Int)<i2∨i3<k then l[l.length - 1 - k]? else l[k]?)
  (fun(i2,i3,aa)=>(i3 - i2+1).toNat) (0,v2,xl) ⟨l,hl,⟨rfl,by omega,by omega,by omega⟩,fun k hk=>by rw[if_neg (by omega)]⟩ ⟨rfl,rfl,trivial⟩ rfl ?_
 rintro⟨i2,i3,aa⟩ J ⟨w0,ab,hb,hw⟩ hJ
 conv=>cbv
 refine .lss (fun h3=>?_) fun h3=>?_
 conv=>cbv
 refine .go i3.toNat fun p4 ag ao=>?_
 conv=>cbv
 refine .go ab fun ap e5 ah=>?_
 conv=>cbv
 refine .go i2.toNat fun p6 ai aq=>?_
 conv=>cbv
 refine .go ab fun ar e7 aj=>?_
 conv=>cbv
 refine .go i2.toNat fun p8 ak au=>?_
 conv=>cbv
 refine .all (e5) ab rfl fun z9 al=>?_
 conv=>cbv
 refine .go i3.toNat fun a1 ac am=>?_
 conv=>cbv
 have hls:(w0.set p8 e5).length=w0.length:=List.length_set
 refine .all (e7) al rfl fun an ad=>?_
 conv=>cbv
 refine .go2 (by kernel_rfl) ?_
 conv=>cbv
 refine .add fun ae aw=>?_
 conv=>cbv
 refine .sub fun af ax=>?_
 conv=>cbv
 subst ak ac
 exact .go [] (ae,af,an) (hJ _ ⟨_,ad,⟨by rw[List.length_set,List.length_set];exact hb.1,by omega,by omega,by omega⟩,by have:=Xjn hb.1 (by omega) hb.2.2.1 h3 hw (a:=e5) (b:=e7) (by subst ag;rw[ah];exact List.getElem?_eq_getElem _) (by subst ai;rw[aj];exact List.getElem?_eq_getElem _);rw[show ae=i2+1 by omega,show af=i3 - 1 by omega];exact this⟩ mlt)
 conv=>cbv
 have e:=Xkz hb.1 hb.2.2.1 (by omega) hw
 subst e
 obtain rfl:aa=xf:=by rw[←ab,←hf]
 exact hQ _ _ (.of [] (.inr rfl) rfl rfl rfl rfl)
theorem Hg:Setup Tryz.prog ((1000090,Em Tryz.prog 1000090)::((1000054,Em Tryz.prog 1000054)::Qv)):=(Setup.mark 1000090 (Setup.mark 1000054 Pk))
theorem XiK(A1:Ak.map B3=Bk)(Ax:Aj.map Ad=Bg)(A6:Am.map Ad=Bf)(A5:Al.map cS=Bi)(hd:okD ⟨Ak,Aj,Am,Al,Ao,An⟩)(hr:Fo (⟨Ak,Aj,Am,Al,Ao,An⟩:Aa) version=o)(ho:o.map eOp=xo):Fn Tryz.prog 99 [.agg [.d (.row 3 Bk),.d (.row 2 Bg),.d (.row 2 Bf),.d (.row 1 Bi),I Ao,I An],I version] [] ⟨.d (.row 4 xo),[],[]⟩:=by
 refine Fn.go Hg Tryz.func99 fun P hP Q hQ=>?_
 conv=>cbv
 generalize bi:Mr (⟨Ak,Aj,Am,Al,Ao,An⟩:Aa)=l1
 generalize bm:l1.map XjO=d5
 refine .dd hP (XgX A1 Ax A6 A5 hd bi bm) ?_
 conv=>cbv
 refine .go bm fun v2 d6=>?_
 conv=>cbv
 refine LoopW.lp (κ:=Int×(List (List D))×Nat) Hg hP [2] [1,2,6,23,24] (fun(ai,a1,a2)=>[(5,.ref 3 0 a2),(25,I ai)]) (fun(ai,a1,a2)=>[(3,.row 4 false a1)])
  (fun(ai,a1,a2)=>∃(w3:List TOp),w3.map eOp=a1∧a2=w3.length∧0≤ai∧ai≤l1.length∧w3=(l1.take ai.toNat).flatMap fun x=>Fq (⟨Ak,Aj,Am,Al,Ao,An⟩:Aa) x.base_)
  (fun(ai,a1,a2)=>(l1.length - ai).toNat) (0,[],0) ⟨[],rfl,rfl,by omega,by omega,by simp⟩ ⟨rfl,rfl,trivial⟩ rfl ?_
 rintro⟨ai,a1,a2⟩ J ⟨w3,b5,dt,h0,h1,hx⟩ hJ
 have b9:=Rq bi
 have hwb:=XiO (fun x:Se=>Qa x.base_) hx
 conv=>cbv
 refine .lss (fun h3=>?_) fun h3=>?_
 conv=>cbv
 refine .goX ai.toNat bm fun ca ⟨aj,cm,⟨bn,⟨au,aw,ax,ay⟩,ap,aq,bj,bk⟩⟩ fe4 cz hfe4=>?_
 replace hfe4:[.sc (.int .i64 aj),.sc (.string cm),.sc (.bool bn),.sc (.int .i64 au),.sc (.int .i64 aw),.sc (.int .i64 ax),.sc (.int .i64 ay),.row 1 (ap.map cS),.row 1 (aq.map cI),.sc (.int .i64 bj),.sc (.bool bk)]=fe4:=hfe4
 generalize cn:ap.map cS=co at hfe4
 generalize cp:aq.map cI=cq at hfe4
 subst hfe4
 conv=>cbv
 generalize b6:Af aj=r5
 refine .dd hP (Gn b6) ?_
 conv=>cbv
 rcases cr:Dn (⟨Ak,Aj,Am,Al,Ao,An⟩:Aa) r5 with⟨⟨da,c8,c9⟩,d7⟩
 refine .dd hP (Y3 A1 Ax A6 A5 hd cr) ?_
 conv=>cbv
 refine .go fun v7 c0=>?_
 conv=>cbv
 refine .neq (fun h8=>?_) fun h8=>?_
 conv=>cbv
 generalize a6:Af aj=r9
 refine .dd hP (Gn a6) ?_
 conv=>cbv
 refine .one (⟨4,r9,tx [],tx []⟩:TOp) b5 rfl fun a7 bo bp a8=>?_
 conv=>cbv
 refine .add fun ao cc=>?_
 conv=>cbv
 have hso:Fq (⟨Ak,Aj,Am,Al,Ao,An⟩:Aa) aj=[⟨4,r9,tx [],tx []⟩]:=by unfold Fq;rw[b6,cr,←a6,b6,if_neg (by rw[←c0];exact h8)]
 exact .go [9] (ao,bo,a7) (hJ _ ⟨_,a8,Cv,by omega,by omega,by rw[show ao.toNat=ai.toNat+1 by omega,Hv ca,←hx,←cz];simp only[];rw[hso]⟩ mlt)
 conv=>cbv
 refine .add fun v9 db=>?_
 conv=>cbv
 have hso:Fq (⟨Ak,Aj,Am,Al,Ao,An⟩:Aa) aj=[]:=by unfold Fq;rw[b6,cr,if_pos (by rw[←c0];exact h8)]
 exact .go [3] (v9,a1,a2) (hJ _ ⟨_,b5,Cv,by omega,by omega,by rw[show v9.toNat=ai.toNat+1 by omega,Hv ca,←hx,←cz];simp only[];rw[hso,List.append_nil]⟩ mlt)
 conv=>cbv
 have hS:w3=(C4 (⟨Ak,Aj,Am,Al,Ao,An⟩:Aa)).flatMap (Fq (⟨Ak,Aj,Am,Al,Ao,An⟩:Aa)):=by rw[hx,List.take_of_length_le (by omega),←Qk (fun x=>Fq (⟨Ak,Aj,Am,Al,Ao,An⟩:Aa) x.base_) _ fun x _ _=>rfl,bi]
 have d8:=XiO (fun x:Se=>Qa x.base_) hx
 refine JoinW.jn (κ:=(List (List D))×Nat) Hg hP [3] [1,2,6] (fun(bq,bt)=>[(5,.ref 4 0 bt)]) (fun(bq,bt)=>[(4,.row 4 false bq)])
  (fun(bq,bt)=>∃(w4:List TOp),w4.map eOp=bq∧bt=w4.length∧w4=Wz (⟨Ak,Aj,Am,Al,Ao,An⟩:Aa)∧w4.length≤17) (fun Jj1 hJj1=>?_) ?_
 conv=>cbv
 refine .go A5 fun v4 c1=>?_
 conv=>cbv
 refine .gtr (fun h5=>?_) fun h5=>?_
 conv=>cbv
 refine .one (⟨6,tx [],tx [],tx []⟩:TOp) b5 rfl fun dc z6 du de=>?_
 conv=>cbv
 exact .go [6] (z6,dc) (hJj1 _ ⟨_,de,Cv,by unfold Wz;rw[←hS,if_neg (by intro e;rw[show Al=[]from e]at c1;simp at c1;omega)],by simp;omega⟩)
 conv=>cbv
 exact .go [4] (a1,a2) (hJj1 _ ⟨_,b5,Cv,by unfold Wz;rw[←hS,if_pos (List.eq_nil_of_length_eq_zero (show Al.length=0 by omega)),List.append_nil],by omega⟩)
 rintro⟨bq,bt⟩ ⟨w4,df,dv,hA,hAl⟩
 conv=>cbv
 have dg:=b9
 generalize bu:A9 (⟨Ak,Aj,Am,Al,Ao,An⟩:Aa)=l4
 generalize ct:l4.map cS=d9
 refine .dd hP (XbG A1 Ax A6 A5 hd bu ct) ?_
 conv=>cbv
 refine .go ct fun v5 ea=>?_
 conv=>cbv
 refine LoopW.lp (κ:=Int×(List (List D))×Nat×(List (List D))×Nat) Hg hP [5,6] [1,5,6,62,63] (fun(i64,ba,bb,bc,bd)=>[(11,.ref 7 0 bb),(12,.ref 8 0 bd),(64,I i64)]) (fun(i64,ba,bb,bc,bd)=>[(7,.row 1 false ba),(8,.row 1 false bc)])
  (fun(i64,ba,bb,bc,bd)=>∃(w7:List ByteArray) (w8:List ByteArray),w7.map cS=ba∧bb=w7.length∧w8.map cS=bc∧bd=w8.length∧(0≤i64∧i64≤l4.length)∧w7=(l4.take i64.toNat).filter F6∧w8=(l4.take i64.toNat).filter (fun n=>!F6 n)∧w7.length+w8.length≤i64)
  (fun(i64,ba,bb,bc,bd)=>(l4.length - i64).toNat) (0,[],0,[],0) ⟨[],[],rfl,rfl,rfl,rfl,by omega,rfl,rfl,by simp⟩ ⟨rfl,rfl,rfl,trivial⟩ rfl ?_
 rintro⟨i64,ba,bb,bc,bd⟩ J2 ⟨w7,w8,b7,dw,cu,dx,h0,hwt,hwu,hwl⟩ c2
 have dh:=V9 hd bu
 conv=>cbv
 refine .lss (fun h6=>?_) fun h6=>?_
 conv=>cbv
 refine .go i64.toNat ct fun bg e7 bv=>?_
 conv=>cbv
 have hsz7:=T1 hd bu e7 (bv▸List.getElem_mem _)
 rcases cv:Ay e7 with⟨eb,ec⟩
 refine .dd hP (X7 (by omega) cv) ?_
 conv=>cbv
 refine .eql (fun h9=>?_) fun h9=>?_
 conv=>cbv
 refine .one e7 b7 rfl fun a7 bo bp a8=>?_
 conv=>cbv
 refine .add fun ao cc=>?_
 conv=>cbv
 have hte:F6 e7=true:=by unfold F6;rw[cv];exact decide_eq_true h9
 exact .go [10,8] (ao,bo,a7,bc,bd) (c2 _ ⟨_,_,a8,Cv,cu,Cv,by omega,by rw[show ao.toNat=i64.toNat+1 by omega,C7 bg,←hwt,←bv,hte];simp,by rw[show ao.toNat=i64.toNat+1 by omega,C7 bg,←hwu,←bv,hte];simp,by simp;omega⟩ mlt)
 conv=>cbv
 refine .one e7 cu rfl fun a7 bo bp a8=>?_
 conv=>cbv
 refine .add fun ao cc=>?_
 conv=>cbv
 have hte:F6 e7=false:=by unfold F6;rw[cv];exact decide_eq_false h9
 exact .go [7,10] (ao,ba,bb,bo,a7) (c2 _ ⟨_,_,b7,Cv,a8,Cv,by omega,by rw[show ao.toNat=i64.toNat+1 by omega,C7 bg,←hwt,←bv,hte];simp,by rw[show ao.toNat=i64.toNat+1 by omega,C7 bg,←hwu,←bv,hte];simp,by simp;omega⟩ mlt)
 conv=>cbv
 have hT:w7=l4.filter F6:=by rw[hwt,List.take_of_length_le (by omega)]
 have hU:w8=l4.filter (fun n=>!F6 n):=by rw[hwu,List.take_of_length_le (by omega)]
 have hTl:=List.length_filter_le F6 l4
 have hUl:=List.length_filter_le (fun n=>!F6 n) l4
 rw[←hT]at hTl
 rw[←hU]at hUl
 generalize cw:Ex w7=l7
 generalize cx:l7.map eOp=ed
 obtain⟨nl7,hnl7⟩:∃m,m=l7.length:=⟨_,rfl⟩
 refine .lntR hP (Yi b7 (by omega) cw cx hnl7) (.ref rfl (by rw[←b7,List.length_map];first|omega|(simp;omega)) .nil) (cx▸Tt (fun _=>rfl) l7) ?_
 conv=>cbv
 have hrl7:l7.length≤w7.length+1:=by rw[←cw];exact Mk
 refine .sub (m:=l7) df cx fun di z8 dy dj=>?_
 conv=>cbv
 refine JoinW.jn (κ:=Int) Hg hP [] [5,6,12] (fun i1=>[(1,I i1)]) (fun i1=>[])
  (fun i1=>i1=Wa version∧0≤i1∧i1≤2) (fun Jj3 hJj3=>?_) ?_
 conv=>cbv
 generalize a6:Ce version=r9
 refine .dd hP (J7 a6) ?_
 cases r9
 simp only[Ce,decide_eq_true_eq,decide_eq_false_iff_not]at a6
 conv=>cbv
 exact .go [] (0) (hJj3 _ ⟨by unfold Wa;rw[if_neg a6],by omega,by omega⟩)
 simp only[Ce,decide_eq_true_eq,decide_eq_false_iff_not]at a6
 conv=>cbv
 exact .go [] (version) (hJj3 _ ⟨by unfold Wa;rw[if_pos a6],by omega,by omega⟩)
 rintro i1 ⟨hV,hV0,hV2⟩
 conv=>cbv
 refine .go bm fun v9 db=>?_
 conv=>cbv
 refine LoopW.lp (κ:=Int×(List (List D))×Nat) Hg hP [10] [1,12,91,92] (fun(ah,ak,al)=>[(5,.ref 11 0 al),(93,I ah)]) (fun(ah,ak,al)=>[(11,.row 4 false ak)])
  (fun(ah,ak,al)=>∃(be:List TOp),be.map eOp=ak∧al=be.length∧(0≤ah∧ah≤l1.length)∧be=w4++l7++((l1.take ah.toNat).flatMap fun x=>Dz (⟨Ak,Aj,Am,Al,Ao,An⟩:Aa) i1 x.base_)∧be.length≤w4.length+l7.length+5*ah)
  (fun(ah,ak,al)=>(l1.length - ah).toNat) (0,z8,di) ⟨(w4++l7),dj,(by first|omega|(simp;omega)),by omega,by simp,by simp⟩ ⟨rfl,rfl,trivial⟩ rfl ?_
 rintro⟨ah,ak,al⟩ J4 ⟨be,bw,dk,h0,hx,hxl⟩ c3
 have b9:=Rq bi
 have dh:=V9 hd bu
 conv=>cbv
 refine .lss (fun h10=>?_) fun h10=>?_
 conv=>cbv
 refine .goX ah.toNat bm fun bz ⟨ag,az,⟨ar,⟨aa,ab,ac,ad⟩,ae,af,am,an⟩⟩ fe11 b0 hfe11=>?_
 replace hfe11:[.sc (.int .i64 ag),.sc (.string az),.sc (.bool ar),.sc (.int .i64 aa),.sc (.int .i64 ab),.sc (.int .i64 ac),.sc (.int .i64 ad),.row 1 (ae.map cS),.row 1 (af.map cI),.sc (.int .i64 am),.sc (.bool an)]=fe11:=hfe11
 generalize cd:ae.map cS=ce at hfe11
 generalize cf:af.map cI=cg at hfe11
 subst hfe11
 conv=>cbv
 have hm:=Rw bi (x:=⟨ag,az,⟨ar,⟨aa,ab,ac,ad⟩,ae,af,am,an⟩⟩) (by rw[b0];exact List.getElem_mem _)
 obtain⟨b8,dl,s9,dm⟩:=hm
 simp only[]at b8 dl dm
 have hz:=Lr hd b8.symm
 generalize bh:B9 az i1=dn
 have zr12:=Pu bh
 refine .dd hP (XfV (by omega) bh) ?_
 conv=>cbv
 refine .neq (fun h13=>?_) fun h13=>?_
 conv=>cbv
 generalize b2:Fx ag dn=cy
 generalize cj:cy.map eOp=dz
 refine .dd hP (XfY b2 cj) ?_
 conv=>cbv
 have dp:cy.length=5:=by rw[←b2];rfl
 refine .row bw cj fun c4 dq dr c5=>?_
 conv=>cbv
 refine .add fun c6 d0=>?_
 conv=>cbv
 have hfo:Dz (⟨Ak,Aj,Am,Al,Ao,An⟩:Aa) i1 ag=cy:=by unfold Dz;rw[←b8,bh,if_neg h13,b2]
 exact .go [15] (c6,dq,c4) (c3 _ ⟨_,c5,Cv,by omega,by rw[show c6.toNat=ah.toNat+1 by omega,Hv bz,←List.append_assoc,←hx,←b0];simp only[];rw[hfo],by rw[List.length_append];omega⟩ mlt)
 conv=>cbv
 refine .add fun c7 d1=>?_
 conv=>cbv
 have hfo:Dz (⟨Ak,Aj,Am,Al,Ao,An⟩:Aa) i1 ag=[]:=by unfold Dz;rw[←b8,bh,if_pos h13]
 exact .go [11] (c7,ak,al) (c3 _ ⟨_,bw,Cv,by omega,by rw[show c7.toNat=ah.toNat+1 by omega,Hv bz,←List.append_assoc,←hx,←b0];simp only[];rw[hfo,List.append_nil],by omega⟩ mlt)
 conv=>cbv
 have hrv:w8.reverse.length=w8.length:=List.length_reverse
 generalize bf:(w8.reverse).map cS=d2
 refine .bx [8] [] hP (I3 cu (by first|rfl|omega|(simp;omega)) (by omega) bf) rfl rfl rfl rfl ?_
 conv=>cbv
 generalize b3:Ex (w8.reverse)=bl
 generalize b4:bl.map eOp=d3
 obtain⟨nl13,hnl13⟩:∃m,m=bl.length:=⟨_,rfl⟩
 refine .lntR hP (Yi bf (by omega) b3 b4 hnl13) (.ref rfl (by rw[←bf,List.length_map];first|omega|(simp;omega)) .nil) (b4▸Tt (fun _=>rfl) bl) ?_
 conv=>cbv
 have hrl13:bl.length≤w8.length+1:=by rw[←b3];have:=Mk (l:=w8.reverse);rw[List.length_reverse]at this;exact this
 have hF:be=w4++l7++(C4 (⟨Ak,Aj,Am,Al,Ao,An⟩:Aa)).flatMap (Dz (⟨Ak,Aj,Am,Al,Ao,An⟩:Aa) i1):=by rw[hx,List.take_of_length_le (by omega),←Qk (fun x=>Dz (⟨Ak,Aj,Am,Al,Ao,An⟩:Aa) i1 x.base_) _ fun x _ _=>rfl,bi]
 refine .sub (m:=bl) bw b4 fun d4 ee ds ck=>?_
 conv=>cbv
 have e:(be++bl)=Fo (⟨Ak,Aj,Am,Al,Ao,An⟩:Aa) version:=(by unfold Fo Ww;rw[hF,hA,←cw,←b3,hT,hU,hV,bu])
 rw[hr]at e
 subst e
 exact hQ _ _ (.r rfl rfl (by rw[←ck,List.length_map];first|omega|(simp;omega)) (by rw[←ck,←ho]))
theorem Xf3{α:Type}{p:α→Bool}{l:List α}{i:Int}(h0:0≤i)(hi:i.toNat<l.length):(l.drop (i - 1+1).toNat).reverse.filter p=(l.drop (i+1).toNat).reverse.filter p++(if p l[i.toNat]then[l[i.toNat]]else[]):=by
 rw[show(i - 1+1).toNat=i.toNat by omega,show(i+1).toNat=i.toNat+1 by omega,List.drop_eq_getElem_cons hi,List.reverse_cons,List.filter_append,List.filter_cons,List.filter_nil]
theorem U8{l:List ByteArray}(h:false= !l.isEmpty):Ex l=l.map Kz:=by
 have:l=[]:=by cases l with
  |nil=>rfl
  |cons=>cases h
 subst this
 rfl
theorem Tc{l:List ByteArray}(h:true= !l.isEmpty):Ex l=l.map Kz++[⟨6,tx [],tx [],tx []⟩]:=by
 unfold Ex
 rw[if_neg]
 rintro rfl
 cases h
theorem XiC{d:Aa}{l:List ByteArray}{n:ByteArray}(e:A9 d=l)(hn:n∈l):(Ay n).1=1↔F6 n=false:=by
 have:=Xgd e n hn
 unfold F6
 rw[decide_eq_false_iff_not]
 omega
theorem Fl:Setup Tryz.prog ((1000095,Em Tryz.prog 1000095)::((1000088,Em Tryz.prog 1000088)::((1000057,Em Tryz.prog 1000057)::Qv))):=(Setup.mark 1000095 (Setup.mark 1000088 (Setup.mark 1000057 Pk)))
theorem Xfe(A1:Ak.map B3=Bk)(Ax:Aj.map Ad=Bg)(A6:Am.map Ad=Bf)(A5:Al.map cS=Bi)(hd:okD ⟨Ak,Aj,Am,Al,Ao,An⟩)(hr:Fo (⟨Ak,Aj,Am,Al,Ao,An⟩:Aa) version=o)(ho:o.map eOp=xo):Fn Tryz.prog 108 [.agg [.d (.row 3 Bk),.d (.row 2 Bg),.d (.row 2 Bf),.d (.row 1 Bi),I Ao,I An],I version] [] ⟨.d (.row 4 xo),[],[]⟩:=by
 refine Fn.go Fl Tryz.func108 fun P hP Q hQ=>?_
 conv=>cbv
 generalize aw:C4 (⟨Ak,Aj,Am,Al,Ao,An⟩:Aa)=l1
 generalize ax:l1.map cI=d8
 refine .dd hP (XcM A1 Ax A6 A5 hd aw ax) ?_
 conv=>cbv
 refine LoopW.lp (κ:=Int×(List (List D))×Nat) Fl hP [2] [1,2,6] (fun(i7,af,ag)=>[(5,.ref 3 0 ag),(7,I i7)]) (fun(i7,af,ag)=>[(3,.row 4 false af)])
  (fun(i7,af,ag)=>∃(w3:List TOp),w3.map eOp=af∧ag=w3.length∧0≤i7∧i7≤l1.length∧w3=(l1.take i7.toNat).flatMap (Fq (⟨Ak,Aj,Am,Al,Ao,An⟩:Aa)))
  (fun(i7,af,ag)=>(l1.length - i7).toNat) (0,[],0) ⟨[],rfl,rfl,by omega,by omega,by simp⟩ ⟨rfl,rfl,trivial⟩ rfl ?_
 rintro⟨i7,af,ag⟩ J ⟨w3,bf,dp,h0,h1,hx⟩ hJ
 have bh:=Ii aw
 have hwb:=XiO (fun x=>Qa x) hx
 conv=>cbv
 refine .go ax fun v2 d9=>?_
 conv=>cbv
 refine .lss (fun h3=>?_) fun h3=>?_
 conv=>cbv
 refine .go i7.toNat ax fun bi e4 b6=>?_
 conv=>cbv
 generalize bo:Af e4=r5
 refine .dd hP (E6 bo) ?_
 conv=>cbv
 rcases bp:Dn (⟨Ak,Aj,Am,Al,Ao,An⟩:Aa) r5 with⟨⟨cy,cw,cx⟩,ea⟩
 refine .dd hP (Yl A1 Ax A6 A5 hd bp) ?_
 conv=>cbv
 refine .go fun v7 bq=>?_
 conv=>cbv
 refine .neq (fun h8=>?_) fun h8=>?_
 conv=>cbv
 refine .one (⟨4,r5,tx [],tx []⟩:TOp) bf rfl fun cz z9 dq c0=>?_
 conv=>cbv
 refine .add fun ah bj=>?_
 conv=>cbv
 have hso:Fq (⟨Ak,Aj,Am,Al,Ao,An⟩:Aa) e4=[⟨4,r5,tx [],tx []⟩]:=by unfold Fq;rw[bo,bp,if_neg (by rw[←bq];exact h8)]
 exact .go [6] (ah,z9,cz) (hJ _ ⟨_,c0,Cv,by omega,by omega,by rw[show ah.toNat=i7.toNat+1 by omega,Hv bi,←hx,←b6,hso]⟩ mlt)
 conv=>cbv
 refine .add fun v9 c1=>?_
 conv=>cbv
 have hso:Fq (⟨Ak,Aj,Am,Al,Ao,An⟩:Aa) e4=[]:=by unfold Fq;rw[bo,bp,if_pos (by rw[←bq];exact h8)]
 exact .go [3] (v9,af,ag) (hJ _ ⟨_,bf,Cv,by omega,by omega,by rw[show v9.toNat=i7.toNat+1 by omega,Hv bi,←hx,←b6,hso,List.append_nil]⟩ mlt)
 conv=>cbv
 have hS:w3=(C4 (⟨Ak,Aj,Am,Al,Ao,An⟩:Aa)).flatMap (Fq (⟨Ak,Aj,Am,Al,Ao,An⟩:Aa)):=by rw[hx,List.take_of_length_le (by omega),aw]
 have eb:=XiO (fun x=>Qa x) hx
 refine JoinW.jn (κ:=(List (List D))×Nat) Fl hP [3] [1,2,6] (fun(ay,az)=>[(5,.ref 4 0 az)]) (fun(ay,az)=>[(4,.row 4 false ay)])
  (fun(ay,az)=>∃(w4:List TOp),w4.map eOp=ay∧az=w4.length∧w4=Wz (⟨Ak,Aj,Am,Al,Ao,An⟩:Aa)∧w4.length≤17) (fun Jj1 hJj1=>?_) ?_
 conv=>cbv
 refine .go A5 fun v4 b7=>?_
 conv=>cbv
 refine .gtr (fun h5=>?_) fun h5=>?_
 conv=>cbv
 refine .one (⟨6,tx [],tx [],tx []⟩:TOp) bf rfl fun c2 z6 dr c3=>?_
 conv=>cbv
 exact .go [6] (z6,c2) (hJj1 _ ⟨_,c3,Cv,by unfold Wz;rw[←hS,if_neg (by intro e;rw[show Al=[]from e]at b7;simp at b7;omega)],by simp;omega⟩)
 conv=>cbv
 exact .go [4] (af,ag) (hJj1 _ ⟨_,bf,Cv,by unfold Wz;rw[←hS,if_pos (List.eq_nil_of_length_eq_zero (show Al.length=0 by omega)),List.append_nil],by omega⟩)
 rintro⟨ay,az⟩ ⟨w4,c4,ds,hA,hAl⟩
 conv=>cbv
 have c5:=bh
 generalize ad:A9 (⟨Ak,Aj,Am,Al,Ao,An⟩:Aa)=l4
 generalize an:l4.map cS=ec
 refine .dd hP (Xch A1 Ax A6 A5 hd ad an) ?_
 conv=>cbv
 refine LoopW.lp (κ:=Bool×Int×(List (List D))×Nat) Fl hP [4] [1,2,6,11] (fun(ae,ab,ai,aj)=>[(5,.ref 5 0 aj),(12,B ae),(13,I ab)]) (fun(ae,ab,ai,aj)=>[(5,.row 4 false ai)])
  (fun(ae,ab,ai,aj)=>∃(w5:List TOp),w5.map eOp=ai∧aj=w5.length∧(0≤ab∧ab≤l4.length)∧w5=w4++((l4.take ab.toNat).filter F6).map Kz∧ae= !((l4.take ab.toNat).filter F6).isEmpty∧w5.length≤w4.length+ab)
  (fun(ae,ab,ai,aj)=>(l4.length - ab).toNat) (false,0,ay,az) ⟨w4,c4,(by first|omega|(simp;omega)),by omega,by simp,rfl,by simp⟩ ⟨rfl,rfl,rfl,trivial⟩ rfl ?_
 rintro⟨ae,ab,ai,aj⟩ J2 ⟨w5,bg,dt,h0,hwt,hwb,hwl⟩ b8
 have b9:=V9 hd ad
 conv=>cbv
 refine .go an fun v5 ed=>?_
 conv=>cbv
 refine .lss (fun h6=>?_) fun h6=>?_
 conv=>cbv
 refine .go ab.toNat an fun aq e7 a1=>?_
 conv=>cbv
 have hsz7:=T1 hd ad e7 (a1▸List.getElem_mem _)
 rcases bt:Ay e7 with⟨ee,ef⟩
 refine .dd hP (N1 (by omega) bt) ?_
 conv=>cbv
 refine .eql (fun h9=>?_) fun h9=>?_
 conv=>cbv
 refine .go ab.toNat an fun c6 bu ca=>?_
 conv=>cbv
 have cc:bu=e7:=ca.trans a1.symm
 subst cc
 refine .one (⟨1,bu,tx [],tx []⟩:TOp) bg rfl fun cd c7 c8 ce=>?_
 conv=>cbv
 refine .add fun bv du=>?_
 conv=>cbv
 have hte:F6 bu=true:=by unfold F6;rw[bt];exact decide_eq_true h9
 exact .go [7] (true,bv,c7,cd) (b8 _ ⟨_,ce,Cv,by omega,by rw[show bv.toNat=ab.toNat+1 by omega,C7 aq,←a1,hte,hwt];simp;rfl,by rw[show bv.toNat=ab.toNat+1 by omega,C7 aq,←a1,hte];simp,by simp;omega⟩ mlt)
 conv=>cbv
 refine .add fun ah bj=>?_
 conv=>cbv
 have hte:F6 e7=false:=by unfold F6;rw[bt];exact decide_eq_false h9
 exact .go [5] (ae,ah,ai,aj) (b8 _ ⟨_,bg,Cv,by omega,by rw[show ah.toNat=ab.toNat+1 by omega,C7 aq,←a1,hte,hwt];simp,by rw[show ah.toNat=ab.toNat+1 by omega,C7 aq,←a1,hte,hwb];simp,by omega⟩ mlt)
 conv=>cbv
 have hT:w5=w4++(l4.filter F6).map Kz:=by rw[hwt,List.take_of_length_le (by omega)]
 have hT2:ae= !(l4.filter F6).isEmpty:=by rw[hwb,List.take_of_length_le (by omega)]
 have dv:=b9
 refine JoinW.jn (κ:=(List (List D))×Nat) Fl hP [5] [1,2,6,11] (fun(a2,a6)=>[(5,.ref 6 0 a6)]) (fun(a2,a6)=>[(6,.row 4 false a2)])
  (fun(a2,a6)=>∃(w6:List TOp),w6.map eOp=a2∧a6=w6.length∧w6=w4++Ww (⟨Ak,Aj,Am,Al,Ao,An⟩:Aa)∧w6.length≤1073741900) (fun Jj3 hJj3=>?_) ?_
 conv=>cbv
 cases ae
 conv=>cbv
 exact .go [6] (ai,aj) (hJj3 _ ⟨_,bg,Cv,by unfold Ww;rw[ad,U8 hT2];exact hT,by omega⟩)
 conv=>cbv
 refine .one (⟨6,tx [],tx [],tx []⟩:TOp) bg rfl fun c9 z7 dw da=>?_
 conv=>cbv
 exact .go [8] (z7,c9) (hJj3 _ ⟨_,da,Cv,by unfold Ww;rw[ad,Tc hT2,←List.append_assoc,←hT],by simp;omega⟩)
 rintro⟨a2,a6⟩ ⟨w6,db,dx,hB,hBl⟩
 conv=>cbv
 refine JoinW.jn (κ:=Int) Fl hP [] [2,5,6,11] (fun i1=>[(1,I i1)]) (fun i1=>[])
  (fun i1=>i1=Wa version∧0≤i1∧i1≤2) (fun Jj4 hJj4=>?_) ?_
 conv=>cbv
 generalize bw:Av version 1 2=r7
 refine .dd hP (Cz bw) ?_
 cases r7
 simp only[Av,decide_eq_true_eq,decide_eq_false_iff_not]at bw
 conv=>cbv
 exact .go [] (0) (hJj4 _ ⟨by unfold Wa;rw[if_neg (by omega)],by omega,by omega⟩)
 simp only[Av,decide_eq_true_eq,decide_eq_false_iff_not]at bw
 conv=>cbv
 exact .go [] (version) (hJj4 _ ⟨by unfold Wa;rw[if_pos (by omega)],by omega,by omega⟩)
 rintro i1 ⟨hV,hV0,hV2⟩
 conv=>cbv
 refine LoopW.lp (κ:=Int×(List (List D))×Nat) Fl hP [6] [1,2,6,11] (fun(ac,ak,al)=>[(5,.ref 7 0 al),(16,I ac)]) (fun(ac,ak,al)=>[(7,.row 4 false ak)])
  (fun(ac,ak,al)=>∃(w7:List TOp),w7.map eOp=ak∧al=w7.length∧(0≤ac∧ac≤l1.length)∧w7=w6++(l1.take ac.toNat).flatMap (Dz (⟨Ak,Aj,Am,Al,Ao,An⟩:Aa) i1)∧w7.length≤w6.length+5*ac)
  (fun(ac,ak,al)=>(l1.length - ac).toNat) (0,a2,a6) ⟨w6,db,(by first|omega|(simp;omega)),by omega,by simp,by simp⟩ ⟨rfl,rfl,trivial⟩ rfl ?_
 rintro⟨ac,ak,al⟩ J5 ⟨w7,bz,dy,h0,hx,hxl⟩ cf
 have bh:=Ii aw
 conv=>cbv
 refine .go ax fun v7 bq=>?_
 conv=>cbv
 refine .lss (fun h8=>?_) fun h8=>?_
 conv=>cbv
 refine .go ac.toNat ax fun bk e9 b0=>?_
 conv=>cbv
 generalize ar:Cq (⟨Ak,Aj,Am,Al,Ao,An⟩:Aa) e9=dc
 refine .dd hP (Y7 A1 Ax A6 A5 hd ar) ?_
 conv=>cbv
 have eg:=Lr hd ar
 generalize au:B9 dc i1=de
 have zr11:=Pu au
 refine .dd hP (Xff (by omega) au) ?_
 conv=>cbv
 refine .neq (fun h12=>?_) fun h12=>?_
 conv=>cbv
 refine .go ac.toNat ax fun df b2 cg=>?_
 conv=>cbv
 have cj:b2=e9:=cg.trans b0.symm
 subst cj
 generalize a7:Fx b2 de=b3
 generalize bl:b3.map eOp=dz
 refine .dd hP (Xfh a7 bl) ?_
 conv=>cbv
 have dg:b3.length=5:=by rw[←a7];rfl
 refine .row bz bl fun ck dh di cm=>?_
 conv=>cbv
 refine .add fun cn d0=>?_
 conv=>cbv
 have hfo:Dz (⟨Ak,Aj,Am,Al,Ao,An⟩:Aa) i1 b2=b3:=by unfold Dz;rw[ar,au,if_neg h12,a7]
 exact .go [8] (cn,dh,ck) (cf _ ⟨_,cm,Cv,by omega,by rw[show cn.toNat=ac.toNat+1 by omega,Hv bk,←List.append_assoc,←hx,←b0,hfo],by rw[List.length_append];omega⟩ mlt)
 conv=>cbv
 refine .add fun co d1=>?_
 conv=>cbv
 have hfo:Dz (⟨Ak,Aj,Am,Al,Ao,An⟩:Aa) i1 e9=[]:=by unfold Dz;rw[ar,au,if_pos h12]
 exact .go [7] (co,ak,al) (cf _ ⟨_,bz,Cv,by omega,by rw[show co.toNat=ac.toNat+1 by omega,Hv bk,←List.append_assoc,←hx,←b0,hfo,List.append_nil],by omega⟩ mlt)
 conv=>cbv
 refine .go an fun v9 c1=>?_
 conv=>cbv
 refine .sub fun ah bj=>?_
 conv=>cbv
 refine LoopW.lp (κ:=Bool×Int×(List (List D))×Nat) Fl hP [7] [11] (fun(am,aa,ao,ap)=>[(5,.ref 8 0 ap),(19,B am),(20,I aa)]) (fun(am,aa,ao,ap)=>[(8,.row 4 false ao)])
  (fun(am,aa,ao,ap)=>∃(w8:List TOp),w8.map eOp=ao∧ap=w8.length∧(-1≤aa∧aa<l4.length)∧w8=w7++((l4.drop (aa+1).toNat).reverse.filter (fun n=>!F6 n)).map Kz∧am= !((l4.drop (aa+1).toNat).reverse.filter (fun n=>!F6 n)).isEmpty∧w8.length≤w7.length+(l4.length - 1 - aa))
  (fun(am,aa,ao,ap)=>(aa+1).toNat) (false,ah,ak,al) ⟨w7,bz,(by first|omega|(simp;omega)),by omega,by rw[List.drop_of_length_le (by omega)];simp,by rw[List.drop_of_length_le (by omega)];rfl,by omega⟩ ⟨rfl,rfl,rfl,trivial⟩ rfl ?_
 rintro⟨am,aa,ao,ap⟩ J6 ⟨w8,a8,d2,h0,hwv,hwc,hwl2⟩ cp
 have b9:=V9 hd ad
 conv=>cbv
 refine .geq (fun h11=>?_) fun h11=>?_
 conv=>cbv
 refine .go aa.toNat an fun dj ba bb=>?_
 conv=>cbv
 have bm:ba∈l4:=bb▸List.getElem_mem _
 have hsz12:=T1 hd ad ba bm
 have hnt:=XiC ad bm
 have hrs:=Xf3 (p:=(fun n=>!F6 n)) (l:=l4) (i:=aa) (by omega) (by omega)
 rw[←bb]at hrs
 rcases bc:Ay ba with⟨d3,d4⟩
 refine .dd hP (N1 (by omega) bc) ?_
 conv=>cbv
 refine .eql (fun h14=>?_) fun h14=>?_
 conv=>cbv
 refine .go aa.toNat an fun dk b4 cq=>?_
 conv=>cbv
 have b5:b4=ba:=cq.trans bb.symm
 subst b5
 refine .one (⟨1,b4,tx [],tx []⟩:TOp) a8 rfl fun cr dl dm ct=>?_
 conv=>cbv
 refine .sub fun cu d5=>?_
 conv=>cbv
 have hte:(!F6 b4)=true:=by rw[bc]at hnt;rw[hnt.1 h14];rfl
 rw[hte,if_pos rfl]at hrs
 have bd:cu=aa - 1:=by omega
 exact .go [10] (true,cu,dl,cr) (cp _ ⟨_,ct,Cv,by omega,by rw[bd,hrs,hwv];simp;rfl,by rw[bd,hrs];simp,by simp;omega⟩ mlt)
 conv=>cbv
 refine .sub fun cv d6=>?_
 conv=>cbv
 have hte:¬((!F6 ba)=true):=by intro hh;rw[bc]at hnt;exact h14 (hnt.2 (by simpa using hh))
 rw[if_neg hte,List.append_nil]at hrs
 have be:cv=aa - 1:=by omega
 exact .go [8] (am,cv,ao,ap) (cp _ ⟨_,a8,Cv,by omega,by rw[be,hrs,hwv],by rw[be,hrs,hwc],by omega⟩ mlt)
 conv=>cbv
 have hE:(l4.drop (aa+1).toNat).reverse.filter (fun n=>!F6 n)=(l4.filter (fun n=>!F6 n)).reverse:=by rw[show(aa+1).toNat=0 by omega,List.drop_zero,List.filter_reverse]
 rw[hE]at hwv hwc
 cases am
 conv=>cbv
 have hF:w7=w4++Ww (⟨Ak,Aj,Am,Al,Ao,An⟩:Aa)++(C4 (⟨Ak,Aj,Am,Al,Ao,An⟩:Aa)).flatMap (Dz (⟨Ak,Aj,Am,Al,Ao,An⟩:Aa) (Wa version)):=by rw[hx,List.take_of_length_le (by omega),aw,←hV,←hB]
 have e:w8=Fo (⟨Ak,Aj,Am,Al,Ao,An⟩:Aa) version:=(by unfold Fo;rw[ad,U8 hwc,←hA,←hF,hwv])
 rw[hr]at e
 subst e
 exact hQ _ _ (.r rfl rfl (by rw[←a8,List.length_map];first|omega|(simp;omega)) (by rw[←a8,←ho]))
 conv=>cbv
 refine .one (⟨6,tx [],tx [],tx []⟩:TOp) a8 rfl fun d7 eh dn bn=>?_
 conv=>cbv
 have hF:w7=w4++Ww (⟨Ak,Aj,Am,Al,Ao,An⟩:Aa)++(C4 (⟨Ak,Aj,Am,Al,Ao,An⟩:Aa)).flatMap (Dz (⟨Ak,Aj,Am,Al,Ao,An⟩:Aa) (Wa version)):=by rw[hx,List.take_of_length_le (by omega),aw,←hV,←hB]
 have e:(w8++[(⟨6,tx [],tx [],tx []⟩:TOp)])=Fo (⟨Ak,Aj,Am,Al,Ao,An⟩:Aa) version:=(by unfold Fo;rw[ad,Tc hwc,←hA,←hF,hwv,List.append_assoc])
 rw[hr]at e
 subst e
 exact hQ _ _ (.r rfl rfl (by rw[←bn,List.length_map];first|omega|(simp;omega)) (by rw[←bn,←ho]))
end
section
open Go Go.Proofs
set_option maxRecDepth 20000
set_option maxHeartbeats 4000000
def XbV:List (Nat×TyRow):=[ty3,ty5,ty9,Xgo,Xal]
theorem XbO:Bl Tryz.prog XbV:=Bl.of (by kernel_rfl)
theorem Gm:Setup Tryz.prog XbV:=⟨XbO,mixed⟩
def fig(x:Int):UInt8:=UInt8.ofNat (if x<10 then 48+x.toNat else 87+x.toNat)
def Dk(x:Int):Int:=(if x<10 then 48+x else 97+x - 10)% 256
theorem Wc{x:Int}(h:0≤x∧x<16):((fig x).toNat:Int)=Dk x:=by
 unfold fig Dk
 split
 ·rw[UInt8.toNat_ofNat',Nat.mod_eq_of_lt (by omega)];omega
 ·rw[UInt8.toNat_ofNat',Nat.mod_eq_of_lt (by omega)];omega
theorem Sz{x r:Int}(hr:Dk x=r)(h:0≤x∧x<16):[D.sc (.int .u8 r)]=cB (fig x):=by
 show _=[D.sc (.int .u8 ((fig x).toNat:Int))]
 rw[Wc h,hr]
theorem fig10(n:Nat):fig ((n% 10:Nat):Int)=UInt8.ofNat (48+n% 10):=by
 unfold fig
 rw[if_pos (by omega),Int.toNat_natCast]
theorem Hy:∀(k u:Nat),u<10^ (k+1)→1≤(Lib.decDigits u).length∧(Lib.decDigits u).length≤k+1
 |0,u,h=>by rw[Lib.decDigits,dif_pos (by simpa using h)];simp
 |k+1,u,h=>by
  by_cases hn:u<10
  ·rw[Lib.decDigits,dif_pos hn];simp
  ·rw[Lib.decDigits,dif_neg hn]
   have:=Hy k (u/10) (by rw[Nat.pow_succ]at h;omega)
   simp;omega
def XgJ(n:Nat):List UInt8:=if n=0 then[]else Lib.decDigits n
theorem P3{n:Nat}(h:n≠0):XgJ n=XgJ (n/10)++[fig ((n% 10:Nat):Int)]:=by
 unfold XgJ
 rw[if_neg h,Lib.decDigits,fig10]
 split
 ·rw[if_pos (by omega),Nat.mod_eq_of_lt (by omega)];rfl
 ·rw[if_neg (by omega)]
theorem Xe2{u:Nat}(h:u≤9223372036854775808):(XgJ u).length≤19:=by
 unfold XgJ
 split
 ·simp
 ·exact(Hy 18 u (by omega)).2
abbrev K9(n:Int):Prop:=-9223372036854775808≤n∧n≤9223372036854775807
def By(n:Int):ByteArray:=tx (Lib.itoa n)
def XlR(n:Int):ByteArray:=By n
theorem Xh4(n:Int)(h:n≠0):Lib.itoa n=(if n<0 then[45]else[])++XgJ n.natAbs:=by
 unfold Lib.itoa XgJ
 rw[if_neg (show¬n.natAbs=0 by omega)]
 split
 ·rfl
 ·rw[show n.toNat=n.natAbs by omega];rfl
theorem XeU{n:Int}(h:K9 n):1≤(Lib.itoa n).length∧(Lib.itoa n).length≤20:=by
 unfold K9 at h
 unfold Lib.itoa
 split
 ·have:=Hy 18 n.natAbs (by omega)
  simp;omega
 ·have:=Hy 18 n.toNat (by omega)
  omega
theorem Jt{n:Int}{o:ByteArray}(e:By n=o)(h:K9 n):1≤o.size∧o.size≤20:=by
 rw[←e]
 unfold By
 rw[A3]
 exact XeU h
theorem MakeW.cap{α:Type}{c:α→List D}{K:Nat→List (List D)→Prop}{m:Int}{bytes:Nat}{z:List D}(h:∀v l,l=0→([]:List α).map c=v→K l v)(h0:0≤m:=by omega)(h2:bytes*m≤2^48:=by omega)(h3:m<2^63:=by omega):MakeW 0 m bytes z K:=
 ⟨0,[],by omega,h0,h2,h3,rfl,rfl,h _ _ rfl rfl⟩
theorem ArW.quoT{K:Int→Prop}{a:Int}(h:∀v,v=a.tdiv 10→K v)(hr: -9223372036854775808≤a∧a<9223372036854775808:=by omega):ArW .quo .i64 .i64 a 10 K:=by
 refine⟨a.tdiv 10,?_,h _ rfl⟩
 show(if(10:Int)=0 then none else some (Value.int .i64 (IntKind.i64.wrap (a.tdiv 10))))=_
 rw[if_neg (by decide),Pr]
 rcases Int.le_total 0 a with h0|h0
 ·rw[Int.tdiv_eq_ediv_of_nonneg h0];omega
 ·have:a.tdiv 10= -((-a)/10):=by rw[←Int.tdiv_eq_ediv_of_nonneg (by omega),Int.neg_tdiv];omega
  omega
theorem ArW.remT{K:Int→Prop}{k:IntKind}{a:Int}(h:∀v,v=a.tmod 10→K v):ArW .rem k k a 10 K:=by
 refine⟨a.tmod 10,?_,h _ rfl⟩
 show(if k=k then(if(10:Int)=0 then none else some (Value.int k (a.tmod 10)))else none)=_
 rw[if_pos rfl,if_neg (by decide)]
theorem XlK{a:Int}{q:Nat}(h:a= -(q:Int)):a.tdiv 10= -((q/10:Nat):Int):=by
 subst h
 rw[Int.neg_tdiv,Int.tdiv_eq_ediv_of_nonneg (by omega)]
 omega
theorem XlI{a:Int}{q:Nat}(h:a= -(q:Int)):a.tmod 10= -((q% 10:Nat):Int):=by
 subst h
 rw[Int.neg_tmod,Int.tmod_eq_emod_of_nonneg (by omega)]
 omega
theorem Xlz{a:Int}{q:Nat}(h:a=(q:Int)):a.tdiv 10=((q/10:Nat):Int):=by
 subst h
 rw[Int.tdiv_eq_ediv_of_nonneg (by omega)]
 omega
theorem XlX{a:Int}{q:Nat}(h:a=(q:Int)):a.tmod 10=((q% 10:Nat):Int):=by
 subst h
 rw[Int.tmod_eq_emod_of_nonneg (by omega)]
 omega
def Hx(l:List Int):ByteArray:=tx (l.flatMap fun n=>32::Lib.itoa n)
theorem Y4:∀{l:List Int},(∀n∈l,K9 n)→(l.flatMap fun n=>32::Lib.itoa n).length≤21*l.length
 |[],_=>by simp
 |n::l,h=>by
  have h1:=Y4 (l:=l) fun x hx=>h x (List.mem_cons_of_mem _ hx)
  have h2:=XeU (h n List.mem_cons_self)
  rw[List.flatMap_cons,List.length_append,List.length_cons,List.length_cons]
  omega
theorem N2{l:List Int}{o:ByteArray}(e:Hx l=o)(h:∀n∈l,K9 n):o.size≤21*l.length:=by
 rw[←e]
 unfold Hx
 rw[A3]
 exact Y4 h
def Xlh(b:UInt8):List UInt8:=[fig ((b.toNat/16:Nat):Int),fig ((b.toNat% 16:Nat):Int)]
def Oc(t:ByteArray):ByteArray:=tx (t.data.toList.flatMap Xlh)
def XdF(t:ByteArray):ByteArray×Bool:=if 20000<(t.size:Int)then(tx [],false)else(Oc t,true)
def Fd(t:ByteArray):ByteArray:=if(XdF t).1=tx []then tx [45]else(XdF t).1
theorem XbS{t:ByteArray}{i:Nat}(h:i<t.size):(t.data.toList.take (i+1)).flatMap Xlh=(t.data.toList.take i).flatMap Xlh++Xlh t[i]:=by
 have h':i<t.data.toList.length:=by rw[Array.length_toList];exact h
 rw[List.take_succ_eq_append_getElem h',List.flatMap_append]
 simp only[List.flatMap_cons,List.flatMap_nil,List.append_nil]
 rfl
theorem figL:∀(j:Nat) (h:j<(⟨⟨[48,49,50,51,52,53,54,55,56,57,97,98,99,100,101,102]⟩⟩:ByteArray).size),(⟨⟨[48,49,50,51,52,53,54,55,56,57,97,98,99,100,101,102]⟩⟩:ByteArray)[j]=fig (j:Int):=by
 have key:∀j:Fin 16,(⟨⟨[48,49,50,51,52,53,54,55,56,57,97,98,99,100,101,102]⟩⟩:ByteArray)[j.val]'j.isLt=fig (j.val:Int):=by decide
 intro j h
 exact key ⟨j,h⟩
theorem Xlo{x:Nat}(h:x<256):Ku .and .u8 (x:Int) 15=((x% 16:Nat):Int):=by
 show IntKind.u8.wrap ((BitVec.ofInt 8 (x:Int)&&&BitVec.ofInt 8 ((15:Nat):Int)).toNat:Int)=_
 rw[BitVec.toNat_and,Jb (by omega),Jb (by omega),Gs,show(15:Nat)=2^4 - 1 from rfl,Nat.and_two_pow_sub_one_eq_mod]
 omega
theorem shr4{x:Nat}:(x:Int).fdiv (2^min 4 IntKind.u8.bits)=((x/16:Nat):Int):=by
 show(x:Int).fdiv 16=_
 rw[Int.fdiv_eq_ediv_of_nonneg _ (by decide)]
 omega
variable {n:Int} {o t oa:ByteArray} {ob:Bool}
theorem Wl(hn:K9 n)(hr:XlR n=o):Fn Tryz.prog 242 [I n] [] ⟨S o,[],[]⟩:=by
 refine⟨Gk Tryz.func242 rfl rfl,CallOk.ofCallsG fun E vs hS hG hA=>?_⟩
 obtain⟨u,rfl,h1⟩:=Xkw hA
 rw[R4 h1]
 have ht:=XkP hG
 refine(Tryz.strconv_Itoa n hn.1 hn.2 E.w ht).mono ?_
 rintro e w' ⟨rfl,k,os,rfl⟩
 exact⟨_,rfl,Lib.below_grow _ _ (Nat.le_refl _) k os,by rw[←hr];exact .sc _ rfl⟩
theorem Ie{x:Int}{o:Int}(hx:0≤x∧x<16)(hr:Dk x=o):Fn Tryz.prog 189 [I x] [] ⟨.d (.sc (.int .u8 o)),[],[]⟩:=by
 refine Fn.go Gm Tryz.func189 fun P hP Q hQ=>?_
 conv=>cbv
 refine .lss (fun h1=>?_) fun h1=>?_
 conv=>cbv
 refine .add fun v2 aa=>?_
 conv=>cbv
 refine .go fun v3 ab=>?_
 conv=>cbv
 have e:v3=Dk x:=(by rw[ab,Gs,aa];unfold Dk;rw[if_pos (by omega)])
 rw[hr]at e
 subst e
 exact hQ _ _ (.i rfl rfl)
 conv=>cbv
 refine .add fun v2 aa=>?_
 conv=>cbv
 refine .sub fun v3 ab=>?_
 conv=>cbv
 refine .go fun v4 ac=>?_
 conv=>cbv
 have e:v4=Dk x:=(by rw[ac,Gs,ab,aa];unfold Dk;rw[if_neg (by omega)])
 rw[hr]at e
 subst e
 exact hQ _ _ (.i rfl rfl)
theorem XiD(hn:K9 n)(hr:By n=o):Fn Tryz.prog 178 [I n] [] ⟨S o,[],[]⟩:=by
 refine Fn.go Gm Tryz.func178 fun P hP Q hQ=>?_
 conv=>cbv
 generalize aa:XlR n=r1
 refine .dd hP (Wl hn aa) ?_
 conv=>cbv
 have e:r1=By n:=(by exact aa.symm)
 rw[hr]at e
 subst e
 exact hQ _ _ (.s rfl rfl)
theorem Nd(hn:K9 n)(hr:By n=o):Fn Tryz.prog 101 [I n] [] ⟨S o,[],[]⟩:=by
 refine Fn.go Gm Tryz.func101 fun P hP Q hQ=>?_
 conv=>cbv
 refine .eql (fun h1=>?_) fun h1=>?_
 conv=>cbv
 have e:(tx [48])=By n:=(by unfold By;rw[h1,show Lib.itoa 0=[48]by unfold Lib.itoa;rw[if_neg (by decide),Lib.decDigits];rfl])
 rw[hr]at e
 subst e
 exact hQ _ _ (.s rfl rfl)
 conv=>cbv
 refine .lss (fun h2=>?_) fun h2=>?_
 conv=>cbv
 refine LoopW.lp (κ:=Int×ByteArray) Gm hP [] [3] (fun(i0,s4)=>[(0,I i0),(4,S s4)]) (fun(i0,s4)=>[])
  (fun(i0,s4)=>∃(q:Nat) (w:List UInt8),s4=tx w∧XgJ n.natAbs=XgJ q++w∧q≤n.natAbs∧(n<0→i0= -(q:Int))∧(0≤n→i0=(q:Int)))
  (fun(i0,s4)=>i0.natAbs) (n,tx []) ⟨n.natAbs,[],rfl,by simp,by omega,by omega,by omega⟩ ⟨rfl,rfl,trivial⟩ rfl ?_
 rintro⟨i0,s4⟩ J ⟨q,w,aa,hw,hq,hiN,hiP⟩ hJ
 have hwl:=congrArg List.length hw
 rw[List.length_append]at hwl
 have hdl:=Xe2 (u:=n.natAbs) (by unfold K9 at hn;omega)
 have ai:s4.size=w.length:=by rw[aa,A3]
 have et:(n<0→i0.tdiv 10= -((q/10:Nat):Int))∧(0≤n→i0.tdiv 10=((q/10:Nat):Int)):=⟨fun h=>XlK (hiN h),fun h=>Xlz (hiP h)⟩
 have em:(n<0→i0.tmod 10= -((q% 10:Nat):Int))∧(0≤n→i0.tmod 10=((q% 10:Nat):Int)):=⟨fun h=>XlI (hiN h),fun h=>XlX (hiP h)⟩
 have hn_:=hn
 unfold K9 at hn_
 conv=>cbv
 refine .neq (fun h3=>?_) fun h3=>?_
 conv=>cbv
 refine .remT fun v4 ak=>?_
 conv=>cbv
 refine .lss (fun h5=>?_) fun h5=>?_
 conv=>cbv
 refine .go fun v6 al=>?_
 conv=>cbv
 generalize ad:Dk v6=r7
 refine .dd hP (Ie (by omega) ad) ?_
 conv=>cbv
 refine .go (l:=[fig ((q% 10:Nat):Int)]) (by show[cB (fig _)]=_;rw[show((q% 10:Nat):Int)=v6 by omega,←Sz ad (by omega)]) (hn:=rfl) fun s8 ab=>?_
 conv=>cbv
 have ag:s8.size=1:=by rw[ab];rfl
 refine .go fun s9 ae am=>?_
 conv=>cbv
 refine .quoT fun ah aj=>?_
 conv=>cbv
 exact .go [] (ah,s9) (hJ _ ⟨q/10,fig ((q% 10:Nat):Int)::w,by first|(rw[ae,ab,aa,Cw];rfl)|(rw[ab,ac,aa,Cw];rfl),by rw[hw,P3 (show q≠0 by omega),List.append_assoc];rfl,by omega,by omega,by omega⟩ mlt)
 conv=>cbv
 generalize af:Dk v4=r6
 refine .dd hP (Ie (by omega) af) ?_
 conv=>cbv
 refine .go (l:=[fig ((q% 10:Nat):Int)]) (by show[cB (fig _)]=_;rw[show((q% 10:Nat):Int)=v4 by omega,←Sz af (by omega)]) (hn:=rfl) fun s7 ac=>?_
 conv=>cbv
 have an:s7.size=1:=by rw[ac];rfl
 refine .go fun s8 ab ag=>?_
 conv=>cbv
 refine .quoT fun v9 ao=>?_
 conv=>cbv
 exact .go [] (v9,s8) (hJ _ ⟨q/10,fig ((q% 10:Nat):Int)::w,by first|(rw[ae,ab,aa,Cw];rfl)|(rw[ab,ac,aa,Cw];rfl),by rw[hw,P3 (show q≠0 by omega),List.append_assoc];rfl,by omega,by omega,by omega⟩ mlt)
 conv=>cbv
 refine .litL 1 fun s4 aa ai=>?_
 conv=>cbv
 have e:s4=By n:=(by unfold By;rw[Xh4 n h1,if_pos h2,hw,show q=0 by omega,aa];rename_i hs4_ _;rw[hs4_];show tx [45]++tx _=_;rw[Cw];rfl)
 rw[hr]at e
 subst e
 exact hQ _ _ (.s rfl rfl)
 conv=>cbv
 refine LoopW.lp (κ:=Int×ByteArray) Gm hP [] [3] (fun(i0,s4)=>[(0,I i0),(4,S s4)]) (fun(i0,s4)=>[])
  (fun(i0,s4)=>∃(q:Nat) (w:List UInt8),s4=tx w∧XgJ n.natAbs=XgJ q++w∧q≤n.natAbs∧(n<0→i0= -(q:Int))∧(0≤n→i0=(q:Int)))
  (fun(i0,s4)=>i0.natAbs) (n,tx []) ⟨n.natAbs,[],rfl,by simp,by omega,by omega,by omega⟩ ⟨rfl,rfl,trivial⟩ rfl ?_
 rintro⟨i0,s4⟩ J ⟨q,w,aa,hw,hq,hiN,hiP⟩ hJ
 have hwl:=congrArg List.length hw
 rw[List.length_append]at hwl
 have hdl:=Xe2 (u:=n.natAbs) (by unfold K9 at hn;omega)
 have ai:s4.size=w.length:=by rw[aa,A3]
 have et:(n<0→i0.tdiv 10= -((q/10:Nat):Int))∧(0≤n→i0.tdiv 10=((q/10:Nat):Int)):=⟨fun h=>XlK (hiN h),fun h=>Xlz (hiP h)⟩
 have em:(n<0→i0.tmod 10= -((q% 10:Nat):Int))∧(0≤n→i0.tmod 10=((q% 10:Nat):Int)):=⟨fun h=>XlI (hiN h),fun h=>XlX (hiP h)⟩
 have hn_:=hn
 unfold K9 at hn_
 conv=>cbv
 refine .neq (fun h3=>?_) fun h3=>?_
 conv=>cbv
 refine .remT fun v4 ak=>?_
 conv=>cbv
 refine .lss (fun h5=>?_) fun h5=>?_
 conv=>cbv
 refine .go fun v6 al=>?_
 conv=>cbv
 generalize ad:Dk v6=r7
 refine .dd hP (Ie (by omega) ad) ?_
 conv=>cbv
 refine .go (l:=[fig ((q% 10:Nat):Int)]) (by show[cB (fig _)]=_;rw[show((q% 10:Nat):Int)=v6 by omega,←Sz ad (by omega)]) (hn:=rfl) fun s8 ab=>?_
 conv=>cbv
 have ag:s8.size=1:=by rw[ab];rfl
 refine .go fun s9 ae am=>?_
 conv=>cbv
 refine .quoT fun ah aj=>?_
 conv=>cbv
 exact .go [] (ah,s9) (hJ _ ⟨q/10,fig ((q% 10:Nat):Int)::w,by first|(rw[ae,ab,aa,Cw];rfl)|(rw[ab,ac,aa,Cw];rfl),by rw[hw,P3 (show q≠0 by omega),List.append_assoc];rfl,by omega,by omega,by omega⟩ mlt)
 conv=>cbv
 generalize af:Dk v4=r6
 refine .dd hP (Ie (by omega) af) ?_
 conv=>cbv
 refine .go (l:=[fig ((q% 10:Nat):Int)]) (by show[cB (fig _)]=_;rw[show((q% 10:Nat):Int)=v4 by omega,←Sz af (by omega)]) (hn:=rfl) fun s7 ac=>?_
 conv=>cbv
 have an:s7.size=1:=by rw[ac];rfl
 refine .go fun s8 ab ag=>?_
 conv=>cbv
 refine .quoT fun v9 ao=>?_
 conv=>cbv
 exact .go [] (v9,s8) (hJ _ ⟨q/10,fig ((q% 10:Nat):Int)::w,by first|(rw[ae,ab,aa,Cw];rfl)|(rw[ab,ac,aa,Cw];rfl),by rw[hw,P3 (show q≠0 by omega),List.append_assoc];rfl,by omega,by omega,by omega⟩ mlt)
 conv=>cbv
 have e:s4=By n:=(by unfold By;rw[Xh4 n h1,if_neg (by omega),hw,show q=0 by omega,aa];rfl)
 rw[hr]at e
 subst e
 exact hQ _ _ (.s rfl rfl)
theorem XbU{l:List Int}{xl:List (List D)}(hl:l.map cI=xl)(hl_:(∀n∈l,K9 n)∧l.length≤100)(hr:Hx l=o):Fn Tryz.prog 94 [.d (.row 1 xl)] [] ⟨S o,[],[]⟩:=by
 refine Fn.go Gm Tryz.func94 fun P hP Q hQ=>?_
 conv=>cbv
 refine .go hl fun v1 af=>?_
 conv=>cbv
 refine LoopW.lp (κ:=ByteArray×Int) Gm hP [] [6,7] (fun(s3,i8)=>[(3,S s3),(8,I i8)]) (fun(s3,i8)=>[])
  (fun(s3,i8)=>0≤i8∧i8≤l.length∧s3=tx ((l.take i8.toNat).flatMap fun n=>32::Lib.itoa n))
  (fun(s3,i8)=>l.length - i8.toNat) (tx [],0) ⟨by omega,by omega,rfl⟩ ⟨rfl,rfl,trivial⟩ rfl ?_
 rintro⟨s3,i8⟩ J ⟨h0,hle,hs⟩ hJ
 have zl:=Y4 (l:=l.take i8.toNat) fun x hx=>hl_.1 x (List.mem_of_mem_take hx)
 rw[List.length_take]at zl
 have ag:s3.size=(List.flatMap (fun n=>32::Lib.itoa n) (List.take i8.toNat l)).length:=by rw[hs,A3]
 conv=>cbv
 refine .lss (fun h2=>?_) fun h2=>?_
 conv=>cbv
 refine .go i8.toNat hl fun aa e3 ac=>?_
 conv=>cbv
 have hn:=hl_.1 e3 (ac▸List.getElem_mem aa)
 generalize ab:By e3=r4
 refine .dd hP (XiD hn ab) ?_
 conv=>cbv
 have ah:=Jt ab hn
 refine .litL 1 fun s5 ad ai=>?_
 conv=>cbv
 refine .go fun s6 ae aj=>?_
 conv=>cbv
 refine .add fun v7 ak=>?_
 conv=>cbv
 exact .go [] (s6,v7) (hJ _ ⟨by omega,by omega,by rw[ae,ad,hs,←ab,show v7.toNat=i8.toNat+1 by omega,List.take_succ_eq_append_getElem aa,List.flatMap_append,←ac];unfold By;show tx _++(tx [32]++tx _)=_;rw[Cw,Cw];simp⟩ mlt)
 conv=>cbv
 have e:s3=Hx l:=(by rw[hs,List.take_of_length_le (by omega)];rfl)
 rw[hr]at e
 subst e
 exact hQ _ _ (.s rfl rfl)
theorem FsHex(hr:XdF t=(oa,ob)):Fn Tryz.prog 105 [S t] [] ⟨.tup [S oa,B ob],[],[]⟩:=by
 refine Fn.go Gm Tryz.func105 fun P hP Q hQ=>?_
 conv=>cbv
 refine .go fun v1 az=>?_
 conv=>cbv
 refine .gtr (fun h2=>?_) fun h2=>?_
 conv=>cbv
 have e:((tx []),false)=XdF t:=(by unfold XdF;rw[if_pos (by omega)])
 rw[hr]at e
 simp only[Prod.mk.injEq]at e
 obtain⟨rfl,rfl⟩:=e
 refine hQ _ _ ?_
 exact .many (.inl rfl) rfl rfl (.d rfl rfl (.d rfl rfl (.nil)))
 conv=>cbv
 refine LoopW.lp (κ:=Int×(List (List D))×Nat) Gm hP [0] [0] (fun(i5,aa,ab)=>[(4,.ref 1 0 ab),(5,I i5)]) (fun(i5,aa,ab)=>[(1,.row 1 false aa)])
  (fun(i5,aa,ab)=>∃(w1:List UInt8),w1.map cB=aa∧ab=w1.length∧0≤i5∧i5≤t.size∧w1=(t.data.toList.take i5.toNat).flatMap Xlh∧w1.length=2*i5.toNat)
  (fun(i5,aa,ab)=>t.size - i5.toNat) (0,[],0) ⟨[],rfl,rfl,by omega,by omega,rfl,rfl⟩ ⟨rfl,rfl,trivial⟩ rfl ?_
 rintro⟨i5,aa,ab⟩ J ⟨w1,ad,ax,h0,hle,hw,hwl⟩ hJ
 conv=>cbv
 refine .go fun v3 a1=>?_
 conv=>cbv
 refine .lss (fun h4=>?_) fun h4=>?_
 conv=>cbv
 refine .go i5.toNat fun hjv5 v5 al bv5=>?_
 conv=>cbv
 refine .id fun v6 am=>?_
 conv=>cbv
 refine .quo fun v7 an=>?_
 conv=>cbv
 generalize ae:Dk v7=r8
 refine .dd hP (Ie (by omega) ae) ?_
 conv=>cbv
 refine .go i5.toNat fun hjv9 v9 ao bv9=>?_
 conv=>cbv
 refine .id fun a2 af=>?_
 conv=>cbv
 refine .rem fun ag ah=>?_
 conv=>cbv
 generalize ac:Dk ag=ap
 refine .dd hP (Ie (by omega) ac) ?_
 conv=>cbv
 have e7:v7=((t[i5.toNat].toNat/16:Nat):Int):=by rw[an,am,al];omega
 have aq:ag=((t[i5.toNat].toNat% 16:Nat):Int):=by rw[ah,af,ao];omega
 have hm:[fig ((t[i5.toNat].toNat/16:Nat):Int),fig ((t[i5.toNat].toNat% 16:Nat):Int)].map cB=[[D.sc (.int .u8 r8)],[D.sc (.int .u8 ap)]]:=by
  rw[Sz ae (by omega),Sz ac (by omega),e7,aq];rfl
 refine .sub ad hm (hn:=rfl) fun ai ar au aj=>?_
 conv=>cbv
 refine .add fun ak ay=>?_
 conv=>cbv
 exact .go [3] (ak,ar,ai) (hJ _ ⟨_,aj,Cv,by omega,by omega,by rw[hw,show ak.toNat=i5.toNat+1 by omega,XbS hjv5];rfl,by rw[List.length_append,hwl];simp;omega⟩ mlt)
 conv=>cbv
 refine .go ad fun s5 aw=>?_
 conv=>cbv
 have e:(s5,true)=XdF t:=(by unfold XdF Oc;rw[if_neg (by omega),aw,hw,List.take_of_length_le (by rw[Array.length_toList];show t.size≤_;omega)])
 rw[hr]at e
 simp only[Prod.mk.injEq]at e
 obtain⟨rfl,rfl⟩:=e
 refine hQ _ _ ?_
 exact .many (.inl rfl) rfl rfl (.d rfl rfl (.d rfl rfl (.nil)))
theorem XhA(ht:t.size≤20000)(hr:Oc t=o):Fn Tryz.prog 245 [S t] [] ⟨S o,[],[]⟩:=by
 refine Fn.go Gm Tryz.func245 fun P hP Q hQ=>?_
 conv=>cbv
 refine .go fun v1 a6=>?_
 conv=>cbv
 refine .mul fun v2 a7=>?_
 conv=>cbv
 refine .cap (c:=cB) fun z3 al az am=>?_
 conv=>cbv
 refine .go fun v4 a8=>?_
 conv=>cbv
 refine LoopW.lp (κ:=Int×(List (List D))×Nat) Gm hP [0] [0,10] (fun(aa,ab,ac)=>[(3,.ref 1 0 ac),(11,I aa)]) (fun(aa,ab,ac)=>[(1,.row 1 false ab)])
  (fun(aa,ab,ac)=>∃(w1:List UInt8),w1.map cB=ab∧ac=w1.length∧0≤aa∧aa≤t.size∧w1=(t.data.toList.take aa.toNat).flatMap Xlh∧w1.length=2*aa.toNat)
  (fun(aa,ab,ac)=>t.size - aa.toNat) (0,z3,al) ⟨[],am,(by first|omega|(simp;omega)),by omega,by omega,rfl,rfl⟩ ⟨rfl,rfl,trivial⟩ rfl ?_
 rintro⟨aa,ab,ac⟩ J ⟨w1,ae,a1,h0,hle,hw,hwl⟩ hJ
 have hsz:(⟨⟨[48,49,50,51,52,53,54,55,56,57,97,98,99,100,101,102]⟩⟩:ByteArray).size=16:=rfl
 conv=>cbv
 refine .lss (fun h5=>?_) fun h5=>?_
 conv=>cbv
 refine .go aa.toNat fun hjv6 v6 an bv6=>?_
 conv=>cbv
 refine .shrW fun v7 ao=>?_
 conv=>cbv
 have hb:=t[aa.toNat].toNat_lt
 have e7:v7=((t[aa.toNat].toNat/16:Nat):Int):=by rw[ao,an];exact shr4
 refine .go v7.toNat fun hjv8 v8 ap bv8=>?_
 conv=>cbv
 refine .go aa.toNat fun hjv9 v9 aq bv9=>?_
 conv=>cbv
 refine .and fun ad af=>?_
 conv=>cbv
 have ar:ad=((t[aa.toNat].toNat% 16:Nat):Int):=by rw[af,aq];exact Xlo hb
 refine .go ad.toNat fun hjv11 ag ah bv11=>?_
 conv=>cbv
 have e8:v8=Dk ((t[aa.toNat].toNat/16:Nat):Int):=by rw[ap,figL,Wc (by omega),show(v7.toNat:Int)=v7 by omega,e7]
 have au:ag=Dk ((t[aa.toNat].toNat% 16:Nat):Int):=by rw[ah,figL,Wc (by omega),show(ad.toNat:Int)=ad by omega,ar]
 have hm:[fig ((t[aa.toNat].toNat/16:Nat):Int),fig ((t[aa.toNat].toNat% 16:Nat):Int)].map cB=[[D.sc (.int .u8 v8)],[D.sc (.int .u8 ag)]]:=by
  rw[Sz e8.symm (by omega),Sz au.symm (by omega)];rfl
 refine .sub ae hm (hn:=rfl) fun ai aw ax aj=>?_
 conv=>cbv
 refine .add fun ak a2=>?_
 conv=>cbv
 exact .go [3] (ak,aw,ai) (hJ _ ⟨_,aj,Cv,by omega,by omega,by rw[hw,show ak.toNat=aa.toNat+1 by omega,XbS hjv6];rfl,by rw[List.length_append,hwl];simp;omega⟩ mlt)
 conv=>cbv
 refine .go ae fun s6 ay=>?_
 conv=>cbv
 have e:s6=Oc t:=(by unfold Oc;rw[ay,hw,List.take_of_length_le (by rw[Array.length_toList];show t.size≤_;omega)])
 rw[hr]at e
 subst e
 exact hQ _ _ (.s rfl rfl)
theorem FiHex(hr:XdF t=(oa,ob)):Fn Tryz.prog 190 [S t] [] ⟨.tup [S oa,B ob],[],[]⟩:=by
 refine Fn.go Gm Tryz.func190 fun P hP Q hQ=>?_
 conv=>cbv
 refine .go fun v1 ab=>?_
 conv=>cbv
 refine .gtr (fun h2=>?_) fun h2=>?_
 conv=>cbv
 have e:((tx []),false)=XdF t:=(by unfold XdF;rw[if_pos (by omega)])
 rw[hr]at e
 simp only[Prod.mk.injEq]at e
 obtain⟨rfl,rfl⟩:=e
 refine hQ _ _ ?_
 exact .many (.inl rfl) rfl rfl (.d rfl rfl (.d rfl rfl (.nil)))
 conv=>cbv
 generalize aa:Oc t=r3
 refine .dd hP (XhA (by omega) aa) ?_
 conv=>cbv
 have e:(r3,true)=XdF t:=(by unfold XdF;rw[if_neg (by omega),←aa])
 rw[hr]at e
 simp only[Prod.mk.injEq]at e
 obtain⟨rfl,rfl⟩:=e
 refine hQ _ _ ?_
 exact .many (.inl rfl) rfl rfl (.d rfl rfl (.d rfl rfl (.nil)))
theorem Xcv(hr:Fd t=o):Fn Tryz.prog 104 [S t] [] ⟨S o,[],[]⟩:=by
 refine Fn.go Gm Tryz.func104 fun P hP Q hQ=>?_
 conv=>cbv
 rcases aa:XdF t with⟨ab,ac⟩
 refine .dd hP (FiHex aa) ?_
 conv=>cbv
 refine .eql (fun h2=>?_) fun h2=>?_
 conv=>cbv
 have e:(tx [45])=Fd t:=(by unfold Fd;rw[aa];exact(if_pos h2).symm)
 rw[hr]at e
 subst e
 exact hQ _ _ (.s rfl rfl)
 conv=>cbv
 have e:ab=Fd t:=(by unfold Fd;rw[aa];exact(if_neg h2).symm)
 rw[hr]at e
 subst e
 exact hQ _ _ (.s rfl rfl)
end
section
open Go Go.Proofs
set_option maxRecDepth 20000
set_option maxHeartbeats 4000000
def XdV:List (Nat×TyRow):=[ty3,ty9,We,Xal,XlF,ty76]
theorem XcE:Bl Tryz.prog XdV:=Bl.of (by kernel_rfl)
theorem Xhg:Setup Tryz.prog XdV:=⟨XcE,mixed⟩
theorem XjY(l:List UInt8):(⟨⟨l⟩⟩:ByteArray)=tx l:=rfl
theorem Zh(s:ByteArray):s=tx s.data.toList:=rfl
def opWords:List ByteArray:=[(tx []),(tx [114,101,109,111,118,101]),(tx [99,114,101,97,116,101]),(tx [97,112,112,101,110,100]),(tx [115,121,110,99]),(tx [114,101,110,97,109,101]),(tx [110,97,109,101,115])]
def O4(k:Int):ByteArray:=opWords.getD k.toNat (tx [])
theorem Yp{α:Type}{l:List α}{i j:Nat}{d x:α}(h:i<l.length)(hx:x=l[i])(e:i=j):x=l.getD j d:=by
 subst e
 rw[hx,List.getD_eq_getElem?_getD,List.getElem?_eq_getElem h];rfl
theorem Zr{k:Int}{o:ByteArray}(e:o=O4 k):o.size≤6:=by
 subst e
 unfold O4
 rcases Nat.lt_or_ge k.toNat 7 with h|h
 ·have:∀i:Fin 7,(opWords.getD i.val (tx [])).size≤6:=by decide
  exact this ⟨_,h⟩
 ·rw[List.getD_eq_getElem?_getD,List.getElem?_eq_none (by exact h)];decide
def Cy(x:TOp):ByteArray:=
 if 1≤x.kind_∧x.kind_≤6 then
  if x.kind_=6 then O4 x.kind_
  else if x.kind_=3 then O4 x.kind_++tx [32]++x.name_++Hx [(x.text_.size:Int)]
  else if x.kind_=5 then O4 x.kind_++tx [32]++x.name_++tx [32]++x.to_
  else O4 x.kind_++tx [32]++x.name_
 else tx [63]
variable {xkin:Int} {xnam xto xtex o:ByteArray}
theorem Zj(hz:xnam.size≤1000000000∧xto.size≤1000000000∧xtex.size≤1000000000)(hr:Cy (⟨xkin,xnam,xto,xtex⟩:TOp)=o):Fn Tryz.prog 43 [.agg [I xkin,S xnam,S xto,S xtex]] [] ⟨S o,[],[]⟩:=by
 refine Fn.go Xhg Tryz.func43 fun P hP Q hQ=>?_
 conv=>cbv
 generalize aa:Ch xkin 1 6=r1
 refine .dd hP (Iu aa) ?_
 cases r1
 simp only[Ch,decide_eq_true_eq,decide_eq_false_iff_not]at aa
 conv=>cbv
 have e:(tx [63])=Cy (⟨xkin,xnam,xto,xtex⟩:TOp):=(by unfold Cy;rw[if_neg (by exact aa)])
 rw[hr]at e
 subst e
 exact hQ _ _ (.s rfl rfl)
 simp only[Ch,decide_eq_true_eq,decide_eq_false_iff_not]at aa
 conv=>cbv
 refine .go xkin.toNat fun p2 ar aq=>?_
 conv=>cbv
 refine .go (l:=opWords) (c:=cS) (hj:=by show p2<7;omega) rfl fun ai e3 al=>?_
 conv=>cbv
 have ab:e3=O4 xkin:=Yp ai al (by omega)
 have au:=Zr ab
 refine .eql (fun h4=>?_) fun h4=>?_
 conv=>cbv
 have e:e3=Cy (⟨xkin,xnam,xto,xtex⟩:TOp):=(by unfold Cy;rw[if_pos (by exact aa)];dsimp only;rw[if_pos h4];exact ab)
 rw[hr]at e
 subst e
 exact hQ _ _ (.s rfl rfl)
 conv=>cbv
 refine .eql (fun h5=>?_) fun h5=>?_
 conv=>cbv
 refine .litR 1 fun s6 am aw=>?_
 conv=>cbv
 refine .go fun s7 ac aj=>?_
 conv=>cbv
 refine .go fun v8 an=>?_
 conv=>cbv
 have hf:(∀n∈[v8],K9 n)∧[v8].length≤100:=⟨by intro n hn;simp only[List.mem_cons,List.not_mem_nil,or_false]at hn;unfold K9;omega,by simp⟩
 generalize ae:Hx [v8]=r9
 refine .lnt hP (XbU rfl hf ae) (.ref rfl rfl .nil) ?_
 conv=>cbv
 try (have af:=N2 ae hf.1;simp only[List.length_cons,List.length_nil]at af)
 refine .go fun ag ad ak=>?_
 conv=>cbv
 have e:ag=Cy (⟨xkin,xnam,xto,xtex⟩:TOp):=(by unfold Cy;rw[if_pos (by exact aa)];dsimp only;rw[if_neg h4,if_pos h5,ad,ac,am,←ae,an,ab];rfl)
 rw[hr]at e
 subst e
 exact hQ _ _ (.s rfl rfl)
 conv=>cbv
 refine .eql (fun h6=>?_) fun h6=>?_
 conv=>cbv
 refine .litR 1 fun s7 ac aj=>?_
 conv=>cbv
 refine .go fun s8 ah ao=>?_
 conv=>cbv
 refine .litR 1 fun s9 ap ax=>?_
 conv=>cbv
 try (have af:=N2 ae hf.1;simp only[List.length_cons,List.length_nil]at af)
 refine .go fun ag ad ak=>?_
 conv=>cbv
 have e:ag=Cy (⟨xkin,xnam,xto,xtex⟩:TOp):=(by unfold Cy;rw[if_pos (by exact aa)];dsimp only;rw[if_neg h4,if_neg h5,if_pos h6,ad,ap,ah,ac,ab];rfl)
 rw[hr]at e
 subst e
 exact hQ _ _ (.s rfl rfl)
 conv=>cbv
 refine .litR 1 fun s7 ac aj=>?_
 conv=>cbv
 refine .go fun s8 ah ao=>?_
 conv=>cbv
 have e:s8=Cy (⟨xkin,xnam,xto,xtex⟩:TOp):=(by unfold Cy;rw[if_pos (by exact aa)];dsimp only;rw[if_neg h4,if_neg h5,if_neg h6,ah,ac,ab];rfl)
 rw[hr]at e
 subst e
 exact hQ _ _ (.s rfl rfl)
theorem XeN(hz:xnam.size≤1000000000∧xto.size≤1000000000∧xtex.size≤1000000000)(hr:Cy (⟨xkin,xnam,xto,xtex⟩:TOp)=o):Fn Tryz.prog 44 [.agg [I xkin,S xnam,S xto,S xtex]] [] ⟨S o,[],[]⟩:=by
 refine Fn.go Xhg Tryz.func44 fun P hP Q hQ=>?_
 conv=>cbv
 generalize aa:Av xkin 1 6=r1
 refine .dd hP (Cz aa) ?_
 cases r1
 simp only[Av,decide_eq_true_eq,decide_eq_false_iff_not]at aa
 conv=>cbv
 have e:(tx [63])=Cy (⟨xkin,xnam,xto,xtex⟩:TOp):=(by unfold Cy;rw[if_neg (by exact aa)])
 rw[hr]at e
 subst e
 exact hQ _ _ (.s rfl rfl)
 simp only[Av,decide_eq_true_eq,decide_eq_false_iff_not]at aa
 conv=>cbv
 refine .go xkin.toNat fun p2 au ao=>?_
 conv=>cbv
 refine .go (l:=opWords) (c:=cS) (hj:=by show p2<7;omega) rfl fun af e3 ai=>?_
 conv=>cbv
 have ab:e3=O4 xkin:=Yp af ai (by omega)
 have aw:=Zr ab
 refine .eql (fun h4=>?_) fun h4=>?_
 conv=>cbv
 have e:e3=Cy (⟨xkin,xnam,xto,xtex⟩:TOp):=(by unfold Cy;rw[if_pos (by exact aa)];dsimp only;rw[if_pos h4];exact ab)
 rw[hr]at e
 subst e
 exact hQ _ _ (.s rfl rfl)
 conv=>cbv
 refine .litR 1 fun s5 ad ax=>?_
 conv=>cbv
 refine .go fun s6 ae ay=>?_
 conv=>cbv
 refine .eql (fun h7=>?_) fun h7=>?_
 conv=>cbv
 refine .litR 1 fun s8 aj az=>?_
 conv=>cbv
 refine .go fun v9 ak=>?_
 conv=>cbv
 have hn:K9 v9:=by unfold K9;omega
 generalize ac:By v9=a1
 refine .dd hP (Nd hn ac) ?_
 conv=>cbv
 have ap:=Jt ac hn
 refine .go fun al ag aq=>?_
 conv=>cbv
 have e:al=Cy (⟨xkin,xnam,xto,xtex⟩:TOp):=(by unfold Cy;rw[if_pos (by exact aa)];dsimp only;rw[if_neg h4,if_pos h7];rw[ag,aj,ae,ad,←ac,ak,ab];unfold Hx By;rw[Zh (O4 xkin),Zh xnam];simp only[XjY,Cw];simp)
 rw[hr]at e
 subst e
 exact hQ _ _ (.s rfl rfl)
 conv=>cbv
 refine .eql (fun h8=>?_) fun h8=>?_
 conv=>cbv
 refine .litR 1 fun s9 am a2=>?_
 conv=>cbv
 refine .go fun an ah ar=>?_
 conv=>cbv
 have e:an=Cy (⟨xkin,xnam,xto,xtex⟩:TOp):=(by unfold Cy;rw[if_pos (by exact aa)];dsimp only;rw[if_neg h4,if_neg h7,if_pos h8,ah,am,ae,ad,ab];rfl)
 rw[hr]at e
 subst e
 exact hQ _ _ (.s rfl rfl)
 conv=>cbv
 have e:s6=Cy (⟨xkin,xnam,xto,xtex⟩:TOp):=(by unfold Cy;rw[if_pos (by exact aa)];dsimp only;rw[if_neg h4,if_neg h7,if_neg h8,ae,ad,ab];rfl)
 rw[hr]at e
 subst e
 exact hQ _ _ (.s rfl rfl)
end
section
open Go Go.Proofs
set_option maxRecDepth 20000
set_option maxHeartbeats 4000000
open Go.Lib
open Go.RowKit
end
section
open Go Go.Proofs
set_option maxRecDepth 20000
set_option maxHeartbeats 4000000
def Xbv:List (Nat×TyRow):=[ty3,ty5,ty9,XkD,Xfz,We]
theorem Xay:Bl Tryz.prog Xbv:=Bl.of (by kernel_rfl)
theorem T0:Setup Tryz.prog Xbv:=⟨Xay,mixed⟩
open Go.RowKit
def Yx(x:Nat):Bool:=decide (97≤x∧x≤122∨48≤x∧x≤57∨x=46∨x=45)
def Bo(t:ByteArray):Bool:=t.data.toList.all (fun c=>Yx c.toNat)&&decide (1≤t.size∧t.size≤20)
theorem Mp{t:ByteArray}{j:Nat}(hj:j<t.size):t.data.toList[j]? =some t[j]:=by
 rw[Array.getElem?_toList]
 exact Array.getElem?_eq_getElem hj
theorem Xin{t:ByteArray}{j:Nat}(hj:j<t.size)(h:Yx (t[j]).toNat=false):false=Bo t:=by
 symm
 unfold Bo
 rw[Bool.and_eq_false_iff]
 left
 rw[Bool.eq_false_iff]
 intro ha
 have:=List.all_eq_true.1 ha t[j] (List.mem_of_getElem? (Mp hj))
 rw[h]at this
 cases this
theorem Xc{t:ByteArray}{b:Bool}(h:∀(j:Nat) (hj:j<t.size),Yx (t[j]).toNat=true)(hb:b=decide (1≤t.size∧t.size≤20)):b=Bo t:=by
 unfold Bo
 rw[List.all_eq_true.2,hb,Bool.true_and]
 intro c hc
 obtain⟨j,hj⟩:=List.getElem?_of_mem hc
 have hl:j<t.size:=by
  have:=(List.getElem?_eq_some_iff.1 hj).1
  rwa[Array.length_toList]at this
 rw[Mp hl]at hj
 rw[←Option.some.inj hj]
 exact h j hl
theorem XcY{t:ByteArray}(h:Bo t=true):1≤t.size∧t.size≤20:=by
 unfold Bo at h
 rw[Bool.and_eq_true,decide_eq_true_eq]at h
 exact h.2
theorem Wd:∀(l m:List UInt8) (acc:Nat),Lib.decFrom acc (l++m)=(Lib.decFrom acc l).bind fun a=>Lib.decFrom a m
 |[],_,_=>rfl
 |c::l,m,acc=>by
  simp only[List.cons_append,Lib.decFrom]
  cases Lib.digitVal c with
  |none=>rfl
  |some d=>exact Wd l m _
theorem Up{n:Nat}(h:n<10):Lib.digitVal (UInt8.ofNat (48+n))=some n:=by
 have e:(UInt8.ofNat (48+n)).toNat=48+n:=by rw[UInt8.toNat_ofNat',Nat.mod_eq_of_lt (by omega)]
 unfold Lib.digitVal
 rw[e,if_pos (by omega)]
 congr 1
 omega
theorem Xfg(u:Nat):Lib.decFrom 0 (Lib.decDigits u)=some u:=by
 induction u using Nat.strongRecOn with
 |_ u ih=>
  by_cases h:u<10
  ·rw[Lib.decDigits,dif_pos h]
   simp only[Lib.decFrom,Up h]
   congr 1
   omega
  ·rw[Lib.decDigits,dif_neg h,Wd,ih (u/10) (by omega)]
   simp only[Option.bind_some,Lib.decFrom,Up (show u% 10<10 by omega)]
   congr 1
   omega
def A8(t:ByteArray):Int×Bool:=match Lib.decFrom 0 t.data.toList with
 |some n=>if n≤1000000000∧By (n:Int)=t then((n:Int),true)else(0,false)
 |none=>(0,false)
theorem Zu{t:ByteArray}{m:Nat}(h:Lib.decFrom 0 t.data.toList=some m):A8 t=if m≤1000000000∧By (m:Int)=t then((m:Int),true)else(0,false):=by
 unfold A8
 rw[h]
theorem Xkd{t:ByteArray}{j:Nat}(hj:j<t.size)(h:¬(48≤(t[j]).toNat∧(t[j]).toNat≤57)):(0,false)=A8 t:=by
 unfold A8
 split
 ·rename_i n hn
  obtain⟨d,hd⟩:=Lib.digit_of_decFrom _ _ _ hn j _ (Mp hj)
  unfold Lib.digitVal at hd
  rw[if_neg h]at hd
  cases hd
 ·rfl
theorem XiX{n:Int}{t:ByteArray}(e:By n=t)(h0:0≤n)(h:n≤1000000000):1≤t.size∧t.size≤10:=by
 rw[←e]
 unfold By Lib.itoa
 rw[A3,if_neg (by omega)]
 exact Hy 9 n.toNat (by omega)
theorem Xja{t:ByteArray}(h:10<t.size):(0,false)=A8 t:=by
 unfold A8
 split
 ·rename_i n hn
  rw[if_neg]
  rintro⟨h1,h2⟩
  have:=XiX h2 (by omega) (by omega)
  omega
 ·rfl
theorem XiM{n:Int}(h0:0≤n)(h:n≤1000000000):A8 (By n)=(n,true):=by
 have e:Lib.decFrom 0 (By n).data.toList=some n.toNat:=by
  unfold By Lib.itoa
  rw[Ud,if_neg (by omega)]
  exact Xfg _
 rw[Zu e,if_pos ⟨by omega,by rw[Int.toNat_of_nonneg h0]⟩,Int.toNat_of_nonneg h0]
theorem Kk{name:ByteArray}{o:Bool}(hs:name.size≤1000000000)(hr:Bo name=o):Fn Tryz.prog 265 [S name] [] ⟨B o,[],[]⟩:=by
 refine Fn.go T0 Tryz.func265 fun P hP Q hQ=>?_
 conv=>cbv
 refine LoopW.lp (κ:=Int) T0 hP [] [0] (fun i3=>[(3,I i3)]) (fun i3=>[])
  (fun i3=>0≤i3∧i3≤name.size∧∀(j:Nat) (hj:j<name.size),j<i3.toNat→Yx (name[j]).toNat=true)
  (fun i3=>(name.size - i3).toNat) (0) ⟨by omega,by omega,fun j _ h=>by simp at h⟩ ⟨rfl,trivial⟩ rfl ?_
 rintro i3 J ⟨h0,h1,hb⟩ hJ
 conv=>cbv
 refine .go fun v1 ae=>?_
 conv=>cbv
 refine .lss (fun h2=>?_) fun h2=>?_
 conv=>cbv
 refine .go i3.toNat fun hjv3 v3 ad bv3=>?_
 conv=>cbv
 refine .id fun v4 af=>?_
 conv=>cbv
 generalize aa:Av v4 97 122=r5
 refine .dd hP (Cz aa) ?_
 cases r5
 simp only[Av,decide_eq_true_eq,decide_eq_false_iff_not]at aa
 conv=>cbv
 generalize ab:Av v4 48 57=r6
 refine .dd hP (Cz ab) ?_
 cases r6
 simp only[Av,decide_eq_true_eq,decide_eq_false_iff_not]at ab
 conv=>cbv
 refine .neq (fun h7=>?_) fun h7=>?_
 conv=>cbv
 refine .neq (fun h8=>?_) fun h8=>?_
 conv=>cbv
 have e:false=Bo name:=(by exact Xin (show i3.toNat<name.size by omega) (by unfold Yx;rw[decide_eq_false_iff_not];omega))
 rw[hr]at e
 subst e
 exact hQ _ _ (.b rfl rfl)
 conv=>cbv
 refine .add fun v9 ag=>?_
 conv=>cbv
 exact .go [] (v9) (hJ _ ⟨by omega,by omega,fun j hj h=>if e:j=i3.toNat then by subst e;unfold Yx;rw[decide_eq_true_eq];omega else hb j hj (by omega)⟩ mlt)
 conv=>cbv
 refine .add fun v8 ah=>?_
 conv=>cbv
 exact .go [] (v8) (hJ _ ⟨by omega,by omega,fun j hj h=>if e:j=i3.toNat then by subst e;unfold Yx;rw[decide_eq_true_eq];omega else hb j hj (by omega)⟩ mlt)
 simp only[Av,decide_eq_true_eq,decide_eq_false_iff_not]at ab
 conv=>cbv
 refine .add fun v7 ai=>?_
 conv=>cbv
 exact .go [] (v7) (hJ _ ⟨by omega,by omega,fun j hj h=>if e:j=i3.toNat then by subst e;unfold Yx;rw[decide_eq_true_eq];omega else hb j hj (by omega)⟩ mlt)
 simp only[Av,decide_eq_true_eq,decide_eq_false_iff_not]at aa
 conv=>cbv
 refine .add fun v6 aj=>?_
 conv=>cbv
 exact .go [] (v6) (hJ _ ⟨by omega,by omega,fun j hj h=>if e:j=i3.toNat then by subst e;unfold Yx;rw[decide_eq_true_eq];omega else hb j hj (by omega)⟩ mlt)
 conv=>cbv
 refine .go fun v3 ad=>?_
 conv=>cbv
 generalize ac:Av v3 1 20=r4
 refine .dd hP (Cz ac) ?_
 cases r4
 simp only[Av,decide_eq_true_eq,decide_eq_false_iff_not]at ac
 conv=>cbv
 have e:false=Bo name:=(by exact Xc (fun j hj=>hb j hj (by omega)) (by symm;rw[decide_eq_false_iff_not];omega))
 rw[hr]at e
 subst e
 exact hQ _ _ (.b rfl rfl)
 simp only[Av,decide_eq_true_eq,decide_eq_false_iff_not]at ac
 conv=>cbv
 have e:true=Bo name:=(by exact Xc (fun j hj=>hb j hj (by omega)) (by symm;rw[decide_eq_true_eq];omega))
 rw[hr]at e
 subst e
 exact hQ _ _ (.b rfl rfl)
theorem Qy{text:ByteArray}{oa:Int}{ob:Bool}(hs:text.size≤1000000000)(hr:A8 text=(oa,ob)):Fn Tryz.prog 304 [S text] [] ⟨.tup [I oa,B ob],[],[]⟩:=by
 refine Fn.go T0 Tryz.func304 fun P hP Q hQ=>?_
 conv=>cbv
 refine .go fun v1 aj=>?_
 conv=>cbv
 refine .gtr (fun h2=>?_) fun h2=>?_
 conv=>cbv
 have e:(0,false)=A8 text:=(by exact Xja (by omega))
 rw[hr]at e
 simp only[Prod.mk.injEq]at e
 obtain⟨rfl,rfl⟩:=e
 refine hQ _ _ ?_
 exact .many (.inl rfl) rfl rfl (.d rfl rfl (.d rfl rfl (.nil)))
 conv=>cbv
 refine LoopW.lp (κ:=Int×Int) T0 hP [] [0] (fun(i4,i5)=>[(4,I i4),(5,I i5)]) (fun(i4,i5)=>[])
  (fun(i4,i5)=>0≤i5∧i5≤text.size∧∃m:Nat,i4=m∧Lib.decFrom 0 (text.data.toList.take i5.toNat)=some m∧m<10^i5.toNat)
  (fun(i4,i5)=>(text.size - i5).toNat) (0,0) ⟨by omega,by omega,0,rfl,rfl,by simp⟩ ⟨rfl,rfl,trivial⟩ rfl ?_
 rintro⟨i4,i5⟩ J ⟨h0,h1,m,hm,hd,hlt⟩ hJ
 have hp:=Nat.pow_le_pow_right (n:=10) (by decide) (show i5.toNat≤10 by omega)
 have ac:(10:Nat)^10=10000000000:=by decide
 rw[ac]at hp
 conv=>cbv
 refine .go fun v3 ak=>?_
 conv=>cbv
 refine .lss (fun h4=>?_) fun h4=>?_
 conv=>cbv
 refine .go i5.toNat fun hjv5 v5 al bv5=>?_
 conv=>cbv
 refine .lss (fun h6=>?_) fun h6=>?_
 conv=>cbv
 have e:(0,false)=A8 text:=(by exact Xkd (show i5.toNat<text.size by omega) (by omega))
 rw[hr]at e
 simp only[Prod.mk.injEq]at e
 obtain⟨rfl,rfl⟩:=e
 refine hQ _ _ ?_
 exact .many (.inl rfl) rfl rfl (.d rfl rfl (.d rfl rfl (.nil)))
 conv=>cbv
 refine .go i5.toNat fun hjv7 v7 am bv7=>?_
 conv=>cbv
 refine .gtr (fun h8=>?_) fun h8=>?_
 conv=>cbv
 have e:(0,false)=A8 text:=(by exact Xkd (show i5.toNat<text.size by omega) (by omega))
 rw[hr]at e
 simp only[Prod.mk.injEq]at e
 obtain⟨rfl,rfl⟩:=e
 refine hQ _ _ ?_
 exact .many (.inl rfl) rfl rfl (.d rfl rfl (.d rfl rfl (.nil)))
 conv=>cbv
 refine .mul fun v9 an=>?_
 conv=>cbv
 refine .go i5.toNat fun hjv10 ao ae bv10=>?_
 conv=>cbv
 refine .id fun ap af=>?_
 conv=>cbv
 refine .add fun aq ag=>?_
 conv=>cbv
 refine .sub fun ad ah=>?_
 conv=>cbv
 refine .add fun aa ai=>?_
 conv=>cbv
 have hdt:=Lib.decFrom_take _ _ _ _ _ ((text[i5.toNat]).toNat - 48) hd (Mp (show i5.toNat<text.size by omega)) (by unfold Lib.digitVal;rw[if_pos (by omega)])
 exact .go [] (ad,aa) (hJ _ ⟨by omega,by omega,m*10+((text[i5.toNat]).toNat - 48),by omega,by rw[show aa.toNat=i5.toNat+1 by omega];exact hdt,by rw[show aa.toNat=i5.toNat+1 by omega,Nat.pow_succ];omega⟩ mlt)
 conv=>cbv
 refine .gtr (fun h5=>?_) fun h5=>?_
 conv=>cbv
 have e:(0,false)=A8 text:=(by rw[List.take_of_length_le (by rw[Array.length_toList];show text.size≤_;omega)]at hd;rw[Zu hd,if_neg (by omega)])
 rw[hr]at e
 simp only[Prod.mk.injEq]at e
 obtain⟨rfl,rfl⟩:=e
 refine hQ _ _ ?_
 exact .many (.inl rfl) rfl rfl (.d rfl rfl (.d rfl rfl (.nil)))
 conv=>cbv
 generalize ab:By i4=r6
 refine .dd hP (Nd (by unfold K9;omega) ab) ?_
 conv=>cbv
 refine .neq (fun h7=>?_) fun h7=>?_
 conv=>cbv
 have e:(0,false)=A8 text:=(by rw[List.take_of_length_le (by rw[Array.length_toList];show text.size≤_;omega)]at hd;rw[Zu hd,if_neg];rintro⟨_,h⟩;exact h7 (by rw[←ab,hm];exact h))
 rw[hr]at e
 simp only[Prod.mk.injEq]at e
 obtain⟨rfl,rfl⟩:=e
 refine hQ _ _ ?_
 exact .many (.inl rfl) rfl rfl (.d rfl rfl (.d rfl rfl (.nil)))
 conv=>cbv
 have e:(i4,true)=A8 text:=(by rw[List.take_of_length_le (by rw[Array.length_toList];show text.size≤_;omega)]at hd;rw[Zu hd,if_pos ⟨by omega,by rw[←hm,ab];exact h7⟩,hm])
 rw[hr]at e
 simp only[Prod.mk.injEq]at e
 obtain⟨rfl,rfl⟩:=e
 refine hQ _ _ ?_
 exact .many (.inl rfl) rfl rfl (.d rfl rfl (.d rfl rfl (.nil)))
def Md(s:ByteArray):Int:=Lib.indexByte s.data.toList 58
def Nt(s:ByteArray):ByteArray×ByteArray×Bool:=if 0≤Md s then(s.extract 0 (Md s).toNat,s.extract ((Md s).toNat+1) s.size,true)else(s,tx [],false)
theorem S4(c:UInt8):∀l:List UInt8,-1≤Lib.indexByte l c∧Lib.indexByte l c<l.length
 |[]=>by simp[Lib.indexByte]
 |b::l=>by
  have:=S4 c l
  unfold Lib.indexByte
  rw[List.length_cons]
  split
  ·omega
  ·split
   ·omega
   ·omega
theorem XfU{s:ByteArray}{i:Int}(e:Md s=i): -1≤i∧i<s.size:=by
 rw[←e]
 exact S4 58 s.data.toList
end
section
open Go Go.Proofs
set_option maxRecDepth 20000
set_option maxHeartbeats 4000000
def Pb{α:Type}(l:List α)(i:Int)(m:List α):List α:=l.take i.toNat++m++l.drop i.toNat
def Sf{α:Type}(l:List α)(i j:Int):List α:=l.eraseIdx i.toNat
def V5(e:Ac)(name:ByteArray):Bool:=!(ltB e.name_ name||decide (e.name_=name))
def C6(l:List Ac)(name:ByteArray):Int:=Wf (fun e=>V5 e name) l
def XcI(l:List Ac)(name:ByteArray)(id:Int):List Ac:=
 if 0≤At l name then l.set (At l name).toNat ⟨(l.getD (At l name).toNat ⟨tx [],0⟩).name_,id⟩
 else Pb l (if C6 l name<0 then l.length else C6 l name) [⟨name,id⟩]
def Jn(l:List Ac)(name:ByteArray):List Ac×Bool:=
 if At l name<0∨Bo name=false then([],false)else(Sf l (At l name) (At l name+1),true)
def A2(l:List Ac)(step:ByteArray):List Ac×Bool:=
 if step=tx []then([],false)else
 let nm:=(Nt (step.extract 1 step.size)).1
 let rest:=(Nt (step.extract 1 step.size)).2.1
 let has:=(Nt (step.extract 1 step.size)).2.2
 if step.data.toList.head?=some 43 then
  (if has=false∨(A8 rest).2=false∨Bo nm=false then([],false)else(XcI l nm (A8 rest).1,true))
 else if step.data.toList.head?=some 45 then Jn l (step.extract 1 step.size)
 else if step.data.toList.head?=some 62 then
  (if has=false∨(Jn l nm).2=false∨Bo rest=false∨nm=rest then([],false)else(XcI (Jn l nm).1 rest (Cp l nm),true))
 else([],false)
theorem Tw{t:ByteArray}(h:0<t.size):t.data.toList.head?=some t[0]:=by
 rw[List.head?_eq_getElem?]
 exact Mp h
theorem Xe3{t:ByteArray}(h:t≠tx []):0<t.size:=by
 rcases Nat.eq_zero_or_pos t.size with h0|h0
 ·exfalso
  apply h
  have hl:t.data.toList.length=t.size:=Array.length_toList
  rw[h0]at hl
  have h1:=List.eq_nil_of_length_eq_zero hl
  apply ByteArray.ext
  exact Array.toList_inj.1 (by rw[h1];rfl)
 ·exact h0
theorem u8_eq{b:UInt8}{v:Int}{n:Nat}(hv:v=(b.toNat:Int))(h:v=(n:Int))(hn:n<256):b=UInt8.ofNat n:=by
 apply UInt8.toNat_inj.1
 rw[UInt8.toNat_ofNat',Nat.mod_eq_of_lt (by omega)]
 omega
theorem u8_ne{b:UInt8}{v:Int}{n:Nat}(hv:v=(b.toNat:Int))(h:v≠(n:Int))(hn:n<256):b≠UInt8.ofNat n:=by
 rintro rfl
 apply h
 rw[hv,UInt8.toNat_ofNat',Nat.mod_eq_of_lt (by omega)]
section
variable {l:List Ac} {step a b:ByteArray} {c:Bool}
theorem XjC(h:step=tx []):A2 l step=([],false):=by
 unfold A2
 rw[if_pos h]
theorem Xaz(h:step≠tx [])(hh:step.data.toList.head?=some 43)(hc:Nt (step.extract 1 step.size)=(a,b,c)):A2 l step=if c=false∨(A8 b).2=false∨Bo a=false then([],false)else(XcI l a (A8 b).1,true):=by
 unfold A2
 rw[if_neg h,hc,if_pos hh]
theorem Xf(h:step≠tx [])(hh:step.data.toList.head?=some 45):A2 l step=Jn l (step.extract 1 step.size):=by
 unfold A2
 rw[if_neg h,if_neg (by rw[hh];decide),if_pos hh]
theorem XbJ(h:step≠tx [])(hh:step.data.toList.head?=some 62)(hc:Nt (step.extract 1 step.size)=(a,b,c)):A2 l step=if c=false∨(Jn l a).2=false∨Bo b=false∨a=b then([],false)else(XcI (Jn l a).1 b (Cp l a),true):=by
 unfold A2
 rw[if_neg h,hc,if_neg (by rw[hh];decide),if_neg (by rw[hh];decide),if_pos hh]
theorem Xha{x:UInt8}(h:step≠tx [])(hh:step.data.toList.head?=some x)(h1:x≠43)(h2:x≠45)(h3:x≠62):A2 l step=([],false):=by
 unfold A2
 have k:∀y,x≠y→¬step.data.toList.head?=some y:=fun y hy e=>hy (by rw[hh]at e;exact Option.some.inj e)
 rw[if_neg h,if_neg (k _ h1),if_neg (k _ h2),if_neg (k _ h3)]
end
theorem XjR{s a b:ByteArray}{c:Bool}(e:Nt s=(a,b,c)):a.size≤s.size∧b.size≤s.size:=by
 unfold Nt at e
 split at e
 ·simp only[Prod.mk.injEq]at e
  obtain⟨rfl,rfl,rfl⟩:=e
  rw[ByteArray.size_extract,ByteArray.size_extract]
  omega
 ·simp only[Prod.mk.injEq]at e
  obtain⟨rfl,rfl,rfl⟩:=e
  exact⟨Nat.le_refl _,by rw[A3];exact Nat.zero_le _⟩
theorem Xa5{l a:List Ac}{n:ByteArray}{b:Bool}(e:Jn l n=(a,b)):a.length≤l.length:=by
 unfold Jn at e
 split at e
 ·simp only[Prod.mk.injEq]at e
  rw[←e.1]
  exact Nat.zero_le _
 ·simp only[Prod.mk.injEq]at e
  rw[←e.1]
  unfold Sf
  rw[List.length_eraseIdx]
  split<;>omega
theorem Xe7{l a:List Ac}{n:ByteArray}{i:Int}(e:XcI l n i=a):a.length≤l.length+1:=by
 rw[←e]
 unfold XcI Pb
 split
 ·rw[List.length_set];omega
 ·simp only[List.length_append,List.length_take,List.length_drop,List.length_cons,List.length_nil]
  omega
theorem Vb{l a:List Ac}{s:ByteArray}{b:Bool}(e:A2 l s=(a,b)):a.length≤l.length+1:=by
 unfold A2 at e
 have h0:∀{b:Bool},(([]:List Ac),false)=(a,b)→a.length≤l.length+1:=fun h=>by
  simp only[Prod.mk.injEq]at h
  rw[←h.1];exact Nat.zero_le _
 split at e
 ·exact h0 e
 ·dsimp only at e
  split at e
  ·split at e
   ·exact h0 e
   ·simp only[Prod.mk.injEq]at e
    exact Xe7 e.1
  ·split at e
   ·have:=Xa5 e;omega
   ·split at e
    ·split at e
     ·exact h0 e
     ·simp only[Prod.mk.injEq]at e
      have h1:=Xe7 e.1
      have h2:=Xa5 (l:=l) (n:=(Nt (s.extract 1 s.size)).1) (a:=(Jn l (Nt (s.extract 1 s.size)).1).1) (b:=(Jn l (Nt (s.extract 1 s.size)).1).2) rfl
      omega
    ·exact h0 e
end
section
open Go Go.Proofs
set_option maxRecDepth 20000
set_option maxHeartbeats 4000000
theorem Xgg{a b:ByteArray}:a.toList=b.toList↔a=b:=⟨fun e=>Ro e,fun e=>by rw[e]⟩
theorem AggW.eSI{a c:ByteArray}{b d:Int}{K:Bool→Prop}(h1:a=c∧b=d→K true)(h2:¬(a=c∧b=d)→K false):AggW [.str,.int] [.d (.sc (.string a)),.d (.sc (.int .i64 b))] [.d (.sc (.string c)),.d (.sc (.int .i64 d))] K:=by
 by_cases h:a=c∧b=d
 ·refine⟨true,?_,h1 h⟩
  simp[Oq,Xkt,h.1,h.2]
 ·refine⟨false,?_,h2 h⟩
  simp only[Oq,Xkt,if_true,Option.bind_some,Option.map_some,Option.some.injEq,Bool.and_true]
  simpa[Bool.and_eq_false_iff,Xgg]using h
instance decEntry:DecidableEq Ac:=fun a b=>match a,b with
 |⟨n,i⟩,⟨m,j⟩=>decidable_of_iff (n=m∧i=j) (by simp)
def okL(l:List Ac):Prop:=∀e∈l,e.name_.size≤1000000000
def okS(l:List ByteArray):Prop:=∀s∈l,s.size≤1000000000
def Pc(d:Aa):Prop:=okD d∧okL d.old_∧okS d.steps_
def Hr(d:Aa):Int:=Xlk (fun n:Cj=>(n.text_.size:Int)) d.nodes_
def nd(d:Aa)(i:Nat):Cj:=d.nodes_.getD i ⟨0,tx [],0⟩
def Ix(d:Aa)(i:Nat):Bool:=decide ((0<i→(nd d (i - 1)).id_<(nd d i).id_)∧(1≤(nd d i).id_∧(nd d i).id_≤d.next_ - 1)∧0≤(nd d i).sure_∧(nd d i).sure_≤(nd d i).text_.size)
def Kc(d:Aa):Bool:=(List.range d.nodes_.length).all (Ix d)&&decide (d.nodes_.length≤64)
def en(l:List Ac)(i:Nat):Ac:=l.getD i ⟨tx [],0⟩
def I6(d:Aa)(l:List Ac)(i:Nat):Bool:=(decide (i=0)|| !(ltB (en l i).name_ (en l (i - 1)).name_||decide ((en l i).name_=(en l (i - 1)).name_)))&&Bo (en l i).name_&&decide (0≤Kd d (en l i).id_)
def Bv(d:Aa)(l:List Ac):Bool:=(List.range l.length).all (I6 d l)&&decide (l.length≤16)
theorem XbT{p:Nat→Bool}{n:Nat}(h:∀i,i<n→p i=true):(List.range n).all p=true:=List.all_eq_true.2 fun i hi=>h i (List.mem_range.1 hi)
theorem Xas{p:Nat→Bool}{n i:Nat}(hi:i<n)(h:p i=false):(List.range n).all p=false:=by
 rw[Bool.eq_false_iff]
 intro ha
 have:=List.all_eq_true.1 ha i (List.mem_range.2 hi)
 rw[h]at this
 cases this
theorem Ua{d:Aa}{i:Nat}(hi:i<d.nodes_.length)(h:Ix d i=false):false=Kc d:=by unfold Kc;rw[Xas hi h];rfl
theorem Xiz{d:Aa}{b:Bool}(h:∀i,i<d.nodes_.length→Ix d i=true)(hb:b=decide (d.nodes_.length≤64)):b=Kc d:=by unfold Kc;rw[XbT h,hb];rfl
theorem Xdu{d:Aa}{l:List Ac}{i:Nat}(hi:i<l.length)(h:I6 d l i=false):false=Bv d l:=by unfold Bv;rw[Xas hi h];rfl
theorem Xey{d:Aa}{l:List Ac}{b:Bool}(h:∀i,i<l.length→I6 d l i=true)(hb:b=decide (l.length≤16)):b=Bv d l:=by unfold Bv;rw[XbT h,hb];rfl
theorem Xeq{d:Aa}{l:List Ac}(h:Bv d l=true):l.length≤16:=by
 unfold Bv at h
 rw[Bool.and_eq_true,decide_eq_true_eq]at h
 exact h.2
theorem XlJ{d:Aa}{k:Nat}{x:Cj}(hk:k<d.nodes_.length)(h:x=d.nodes_[k]):nd d k=x:=by rw[h,gD hk];rfl
theorem Xid{l:List Ac}{k:Nat}{x:Ac}(hk:k<l.length)(h:x=l[k]):en l k=x:=by rw[h,gD hk];rfl
def Hs(d:Aa):List Ac→List ByteArray→Bool
 |now,[]=>Bv d now&&Rf now d.entries_
 |now,s::ss=>Bv d now&&(A2 now s).2&&Hs d (A2 now s).1 ss
def B4(d:Aa):Bool:=Bc d.room_&&Ch d.next_ 1 1000000000&&Kc d&&decide (Hr d≤d.room_)&&Hs d d.old_ d.steps_
theorem Xir{l:List Ac}{n:ByteArray}{i:Int}(h:okL l)(hn:n.size≤1000000000):okL (XcI l n i):=by
 intro e he
 unfold XcI Pb at he
 split at he
 ·rename_i h0
  have hlt:=(Py (rfl:At l n=_)).2
  rcases List.mem_or_eq_of_mem_set he with he|rfl
  ·exact h e he
  ·have hk:(At l n).toNat<l.length:=by omega
   show(l.getD (At l n).toNat ⟨tx [],0⟩).name_.size≤_
   rw[←gD hk]
   exact h _ (List.getElem_mem hk)
 ·simp only[List.append_assoc,List.mem_append,List.mem_cons,List.not_mem_nil,or_false,List.cons_append,List.nil_append]at he
  rcases he with he|rfl|he
  ·exact h e (List.mem_of_mem_take he)
  ·exact hn
  ·exact h e (List.mem_of_mem_drop he)
theorem Xes{l a:List Ac}{n:ByteArray}{b:Bool}(h:okL l)(e:Jn l n=(a,b)):okL a:=by
 unfold Jn Sf at e
 split at e
 ·simp only[Prod.mk.injEq]at e
  rw[←e.1];intro x hx;cases hx
 ·simp only[Prod.mk.injEq]at e
  rw[←e.1]
  intro x hx
  exact h x (List.mem_of_mem_eraseIdx hx)
theorem Xe8{l a:List Ac}{s:ByteArray}{b:Bool}(h:okL l)(hs:s.size≤1000000000)(e:A2 l s=(a,b)):okL a:=by
 have h0:∀{b:Bool},(([]:List Ac),false)=(a,b)→okL a:=fun h=>by
  simp only[Prod.mk.injEq]at h
  rw[←h.1];intro x hx;cases hx
 have hz:(s.extract 1 s.size).size≤s.size:=by rw[ByteArray.size_extract];omega
 obtain⟨x,y,c,hc⟩:∃x y c,Nt (s.extract 1 s.size)=(x,y,c):=⟨_,_,_,rfl⟩
 have hcb:=XjR hc
 unfold A2 at e
 rw[hc]at e
 split at e
 ·exact h0 e
 ·dsimp only at e
  split at e
  ·split at e
   ·exact h0 e
   ·simp only[Prod.mk.injEq]at e
    rw[←e.1]
    exact Xir h (by omega)
  ·split at e
   ·exact Xes h e
   ·split at e
    ·split at e
     ·exact h0 e
     ·simp only[Prod.mk.injEq]at e
      rw[←e.1]
      exact Xir (Xes h (b:=(Jn l x).2) rfl) (by omega)
    ·exact h0 e
end
section
open Go Go.Proofs
set_option maxRecDepth 20000
set_option maxHeartbeats 4000000
def Uv:List (Nat×TyRow):=[ty3,ty9,XkD,Xfz,Z1,XaA,Wn]
theorem Xa4:Bl Tryz.prog Uv:=Bl.of (by kernel_rfl)
theorem Jm:Setup Tryz.prog Uv:=⟨Xa4,mixed⟩
theorem L9:∀a b:List UInt8,Op.bytesLess a b=true→Op.bytesLess b a=false
 |_,[],h=>by simp[Op.bytesLess]at h
 |[],_::_,_=>by simp[Op.bytesLess]
 |a::x,b::y,h=>by
  simp only[Op.bytesLess,Bool.or_eq_true,decide_eq_true_eq,Bool.and_eq_true,beq_iff_eq]at h
  simp only[Op.bytesLess,Bool.or_eq_false_iff,decide_eq_false_iff_not,Bool.and_eq_false_iff,beq_eq_false_iff_ne]
  rcases h with h|⟨h1,h2⟩
  ·exact⟨fun h3=>absurd (UInt8.lt_trans h h3) (UInt8.lt_irrefl _),.inl fun e=>by subst e;exact UInt8.lt_irrefl _ h⟩
  ·subst h1
   exact⟨UInt8.lt_irrefl _,.inr (L9 x y h2)⟩
theorem Vs:∀a b:List UInt8,Op.bytesLess a b=false→a≠b→Op.bytesLess b a=true
 |[],[],_,h=>absurd rfl h
 |[],_::_,h,_=>by simp[Op.bytesLess]at h
 |_::_,[],_,_=>by simp[Op.bytesLess]
 |a::x,b::y,h,hn=>by
  simp only[Op.bytesLess,Bool.or_eq_false_iff,decide_eq_false_iff_not,Bool.and_eq_false_iff,beq_eq_false_iff_ne]at h
  simp only[Op.bytesLess,Bool.or_eq_true,decide_eq_true_eq,Bool.and_eq_true,beq_iff_eq]
  by_cases e:a=b
  ·subst e
   right
   refine⟨rfl,Vs x y (h.2.resolve_left fun h=>h rfl) fun e=>hn (by rw[e])⟩
  ·left
   exact(UInt8.lt_or_lt_of_ne e).resolve_left h.1
theorem Xdq(a b:ByteArray):(!(ltB a b))=(ltB b a||decide (b=a)):=by
 unfold ltB
 cases h:Op.bytesLess a.toList b.toList with
 |true=>
  rw[L9 _ _ h]
  have:¬b=a:=by
   rintro rfl
   have:=L9 _ _ h
   rw[h]at this
   cases this
  rw[decide_eq_false this];rfl
 |false=>
  by_cases e:b=a
  ·rw[decide_eq_true e,Bool.or_true];rfl
  ·rw[Vs _ _ h fun e2=>e (Ro e2.symm),decide_eq_false e];rfl
def Hc(d:Aa)(l:List Ac):Bool:=Bv d l
def Kr(a b:List Ac):Bool:=Rf a b
def Cl(l:List Ac)(name:ByteArray):List Ac:=l.filter fun x=>!decide (x.name_=name)
def Ra(e:Ac):List Ac→Bool→List Ac
 |[],done=>if done=true then[]else[e]
 |x::l,done=>(if done=false∧ltB x.name_ e.name_=false then[e]else[])++((if x.name_=e.name_ then[]else[x])++Ra e l (done|| !(ltB x.name_ e.name_)))
def Cn(l:List Ac)(e:Ac):List Ac:=Ra e l false
theorem G4{e x:Ac}{l:List Ac}{i:Nat}{b:Bool}{w:List Ac}{r:List Ac}(hi:i<l.length)(hx:x=l[i])(h:w++Ra e (l.drop i) b=r):
  w++((if b=false∧ltB x.name_ e.name_=false then[e]else[])++((if x.name_=e.name_ then[]else[x])++Ra e (l.drop (i+1)) (b|| !(ltB x.name_ e.name_))))=r:=by
 rw[List.drop_eq_getElem_cons hi,←hx]at h
 exact h
variable {Ak:List Cj} {Bk Bg Bf Bi xl xo:List (List D)} {Aj Am l:List Ac} {Al:List ByteArray} {Ao An:Int} {o:Bool}
theorem Xet{o:Int}(A1:Ak.map B3=Bk)(Ax:Aj.map Ad=Bg)(A6:Am.map Ad=Bf)(A5:Al.map cS=Bi)(hd:okD ⟨Ak,Aj,Am,Al,Ao,An⟩)(hr:Hr (⟨Ak,Aj,Am,Al,Ao,An⟩:Aa)=o):Fn Tryz.prog 225 [.agg [.d (.row 3 Bk),.d (.row 2 Bg),.d (.row 2 Bf),.d (.row 1 Bi),I Ao,I An]] [] ⟨I o,[],[]⟩:=by
 refine Fn.go Jm Tryz.func225 fun P hP Q hQ=>?_
 conv=>cbv
 refine LoopW.lp (κ:=Int×Int) Jm hP [] [1] (fun(i3,i4)=>[(3,I i3),(4,I i4)]) (fun(i3,i4)=>[])
  (fun(i3,i4)=>0≤i4∧i4≤Ak.length∧i3=Xlk (fun n:Cj=>(n.text_.size:Int)) (Ak.take i4.toNat)∧0≤i3∧i3≤1000000000*i4)
  (fun(i3,i4)=>(Ak.length - i4).toNat) (0,0) ⟨by omega,by omega,rfl,by omega,by omega⟩ ⟨rfl,rfl,trivial⟩ rfl ?_
 rintro⟨i3,i4⟩ J ⟨h0,h1,hx,hx0,hx1⟩ hJ
 have ag:Ak.length≤1000000000:=hd.1
 have ac:∀n∈Ak,n.text_.size≤1000000000:=hd.2.1
 conv=>cbv
 refine .go A1 fun v1 ah=>?_
 conv=>cbv
 refine .lss (fun h2=>?_) fun h2=>?_
 conv=>cbv
 refine .go i4.toNat A1 fun aa ⟨af,ad,ae⟩ ab=>?_
 conv=>cbv
 have hz:=ac _ (List.getElem_mem aa)
 rw[←ab]at hz
 simp only[]at hz
 refine .go fun v4 ai=>?_
 conv=>cbv
 refine .add fun v5 aj=>?_
 conv=>cbv
 refine .add fun v6 ak=>?_
 conv=>cbv
 exact .go [] (v5,v6) (hJ _ ⟨by omega,by omega,by rw[show v6.toNat=i4.toNat+1 by omega,Xh0 aa,←hx,←ab];simp only[];omega,by omega,by omega⟩ mlt)
 conv=>cbv
 have e:i3=Hr (⟨Ak,Aj,Am,Al,Ao,An⟩:Aa):=(by unfold Hr;rw[hx,List.take_of_length_le (by omega)])
 rw[hr]at e
 subst e
 exact hQ _ _ (.i rfl rfl)
theorem Mx:Setup Tryz.prog ((3000004,Em Tryz.prog 3000004)::Uv):=(Setup.mark 3000004 Jm)
theorem Xbs{list:List Ac}{xlist:List (List D)}(A1:Ak.map B3=Bk)(Ax:Aj.map Ad=Bg)(A6:Am.map Ad=Bf)(A5:Al.map cS=Bi)(hlist:list.map Ad=xlist)(hd:okD ⟨Ak,Aj,Am,Al,Ao,An⟩)(hl:okL list)(hln:list.length≤1000000000)(hr:Hc (⟨Ak,Aj,Am,Al,Ao,An⟩:Aa) list=o):Fn Tryz.prog 262 [.agg [.d (.row 3 Bk),.d (.row 2 Bg),.d (.row 2 Bf),.d (.row 1 Bi),I Ao,I An],.d (.row 2 xlist)] [] ⟨B o,[],[]⟩:=by
 refine Fn.go Mx Tryz.func262 fun P hP Q hQ=>?_
 conv=>cbv
 refine LoopW.lp (κ:=Int) Mx hP [] [1,2] (fun i5=>[(5,I i5)]) (fun i5=>[])
  (fun i5=>0≤i5∧i5≤list.length∧∀j:Nat,j<i5.toNat→I6 (⟨Ak,Aj,Am,Al,Ao,An⟩:Aa) list j=true)
  (fun i5=>(list.length - i5).toNat) (0) ⟨by omega,by omega,fun j h=>by simp at h⟩ ⟨rfl,trivial⟩ rfl ?_
 rintro i5 J ⟨h0,h1,hb⟩ hJ
 conv=>cbv
 refine .go hlist fun v1 a2=>?_
 conv=>cbv
 refine .lss (fun h2=>?_) fun h2=>?_
 conv=>cbv
 refine .go i5.toNat hlist fun aa ⟨ab,am⟩ aj=>?_
 conv=>cbv
 have hnd:=Xid aa aj
 have hzn:ab.size≤1000000000:=by have:=hl _ (List.getElem_mem aa);rw[←aj]at this;exact this
 generalize ag:Bo ab=r4
 refine .dd hP (Kk (by omega) ag) ?_
 cases r4
 conv=>cbv
 refine .go2 (by kernel_rfl) ?_
 conv=>cbv
 have e:false=Hc (⟨Ak,Aj,Am,Al,Ao,An⟩:Aa) list:=(by exact Xdu (d:=(⟨Ak,Aj,Am,Al,Ao,An⟩:Aa)) aa (by unfold I6;rw[hnd];simp only[];rw[ag,Bool.and_false];rfl))
 rw[hr]at e
 subst e
 exact hQ _ _ (.b rfl rfl)
 conv=>cbv
 refine .go i5.toNat hlist fun az ⟨ae,ac⟩ an=>?_
 conv=>cbv
 generalize ao:G7 (⟨Ak,Aj,Am,Al,Ao,An⟩:Aa) ac=r6
 refine .dd hP (P5 A1 Ax A6 A5 (by have:=hd.1;simp only[]at this;omega) ao) ?_
 conv=>cbv
 obtain⟨rfl,rfl⟩:ae=ab∧ac=am:=by have:=an.trans aj.symm;rw[Ac.mk.injEq]at this;exact this
 have af:Kd (⟨Ak,Aj,Am,Al,Ao,An⟩:Aa) ac=r6:=ao
 refine .lss (fun h7=>?_) fun h7=>?_
 conv=>cbv
 refine .go2 (by kernel_rfl) ?_
 conv=>cbv
 have e:false=Hc (⟨Ak,Aj,Am,Al,Ao,An⟩:Aa) list:=(by exact Xdu (d:=(⟨Ak,Aj,Am,Al,Ao,An⟩:Aa)) aa (by unfold I6;rw[hnd];simp only[];rw[af,decide_eq_false (show¬0≤r6 by omega),Bool.and_false]))
 rw[hr]at e
 subst e
 exact hQ _ _ (.b rfl rfl)
 conv=>cbv
 refine .gtr (fun h8=>?_) fun h8=>?_
 conv=>cbv
 refine .sub fun v9 ar=>?_
 conv=>cbv
 refine .go v9.toNat hlist fun ak ⟨ah,au⟩ ap=>?_
 conv=>cbv
 refine .go i5.toNat hlist fun aw ⟨ad,al⟩ aq=>?_
 conv=>cbv
 obtain⟨rfl,rfl⟩:ad=ae∧al=ac:=by have:=aq.trans an.symm;rw[Ac.mk.injEq]at this;exact this
 have hpd:=Xid ak ap
 rw[show v9.toNat=i5.toNat - 1 by omega]at hpd
 have hgq:=(Xdq ah ad).symm
 refine .geq fun ax ai=>?_
 conv=>cbv
 refine .go2 (by kernel_rfl) ?_
 conv=>cbv
 cases ax
 conv=>cbv
 refine .add fun ay a1=>?_
 conv=>cbv
 exact .go [] (ay) (hJ _ ⟨by omega,by omega,fun j h=>if e:j=i5.toNat then by subst e;unfold I6;rw[hnd,hpd];simp only[];rw[hgq,←ai,ag,af,decide_eq_true (show 0≤r6 by omega),decide_eq_false (show¬i5.toNat=0 by omega)];rfl else hb j (by omega)⟩ mlt)
 conv=>cbv
 have e:false=Hc (⟨Ak,Aj,Am,Al,Ao,An⟩:Aa) list:=(by exact Xdu (d:=(⟨Ak,Aj,Am,Al,Ao,An⟩:Aa)) aa (by unfold I6;rw[hnd];simp only[];rw[hpd];simp only[];rw[hgq,←ai,decide_eq_false (show¬i5.toNat=0 by omega)];rfl))
 rw[hr]at e
 subst e
 exact hQ _ _ (.b rfl rfl)
 conv=>cbv
 refine .go2 (by kernel_rfl) ?_
 conv=>cbv
 refine .add fun v9 ar=>?_
 conv=>cbv
 exact .go [] (v9) (hJ _ ⟨by omega,by omega,fun j h=>if e:j=i5.toNat then by subst e;unfold I6;rw[hnd];simp only[];rw[ag,af,decide_eq_true (show 0≤r6 by omega),decide_eq_true (show i5.toNat=0 by omega)];rfl else hb j (by omega)⟩ mlt)
 conv=>cbv
 refine .go hlist fun v3 a6=>?_
 conv=>cbv
 refine .leq (fun h4=>?_) fun h4=>?_
 conv=>cbv
 have e:true=Hc (⟨Ak,Aj,Am,Al,Ao,An⟩:Aa) list:=(by exact Xey (l:=list) (fun j hj=>hb j (by omega)) (by symm;rw[decide_eq_true_eq];omega))
 rw[hr]at e
 subst e
 exact hQ _ _ (.b rfl rfl)
 conv=>cbv
 have e:false=Hc (⟨Ak,Aj,Am,Al,Ao,An⟩:Aa) list:=(by exact Xey (l:=list) (fun j hj=>hb j (by omega)) (by symm;rw[decide_eq_false_iff_not];omega))
 rw[hr]at e
 subst e
 exact hQ _ _ (.b rfl rfl)
theorem Xg8{a:List Ac}{xa:List (List D)}{b:List Ac}{xb:List (List D)}(ha:a.map Ad=xa)(hb:b.map Ad=xb)(ai:a.length<2^40)(hr:Kr a b=o):Fn Tryz.prog 263 [.d (.row 2 xa),.d (.row 2 xb)] [] ⟨B o,[],[]⟩:=by
 refine Fn.go Jm Tryz.func263 fun P hP Q hQ=>?_
 conv=>cbv
 refine .go ha fun v1 aj=>?_
 conv=>cbv
 refine .go hb fun v2 ak=>?_
 conv=>cbv
 refine .neq (fun h3=>?_) fun h3=>?_
 conv=>cbv
 have e:false=Kr a b:=(by unfold Kr Rf;symm;rw[decide_eq_false_iff_not];intro h;subst h;omega)
 rw[hr]at e
 subst e
 exact hQ _ _ (.b rfl rfl)
 conv=>cbv
 refine LoopW.lp (κ:=Int) Jm hP [] [0,1] (fun i5=>[(5,I i5)]) (fun i5=>[])
  (fun i5=>0≤i5∧i5≤a.length∧∀(j:Nat) (p:j<a.length) (q:j<b.length),j<i5.toNat→a[j]=b[j])
  (fun i5=>(a.length - i5).toNat) (0) ⟨by omega,by omega,fun j p q h=>by simp at h⟩ ⟨rfl,trivial⟩ rfl ?_
 rintro i5 J ⟨h0,h1,hs⟩ hJ
 conv=>cbv
 refine .go ha fun v4 al=>?_
 conv=>cbv
 refine .lss (fun h5=>?_) fun h5=>?_
 conv=>cbv
 refine .go i5.toNat ha fun ae ⟨ac,af⟩ aa=>?_
 conv=>cbv
 refine .go i5.toNat hb fun ag ⟨ad,ah⟩ ab=>?_
 conv=>cbv
 refine .eSI (fun h8=>?_) fun h8=>?_
 conv=>cbv
 refine .add fun v9 am=>?_
 conv=>cbv
 exact .go [] (v9) (hJ _ ⟨by omega,by omega,fun j p q h=>if e:j=i5.toNat then by subst e;rw[←aa,←ab,Ac.mk.injEq];exact h8 else hs j p q (by omega)⟩ mlt)
 conv=>cbv
 have e:false=Kr a b:=(by unfold Kr Rf;symm;rw[decide_eq_false_iff_not];intro h;subst h;have:=aa.trans ab.symm;rw[Ac.mk.injEq]at this;exact h8 this)
 rw[hr]at e
 subst e
 exact hQ _ _ (.b rfl rfl)
 conv=>cbv
 have e:true=Kr a b:=(by unfold Kr Rf;symm;rw[decide_eq_true_eq];exact List.ext_getElem (show a.length=b.length by omega) fun j p q=>hs j p q (by omega))
 rw[hr]at e
 subst e
 exact hQ _ _ (.b rfl rfl)
theorem Qu{name:ByteArray}{o:List Ac}(hl:l.map Ad=xl)(hn:l.length≤4000000000)(hr:Cl l name=o)(ho:o.map Ad=xo):Fn Tryz.prog 266 [.d (.row 2 xl),S name] [] ⟨.d (.row 2 xo),[],[]⟩:=by
 refine Fn.go Jm Tryz.func266 fun P hP Q hQ=>?_
 conv=>cbv
 refine LoopW.lp (κ:=Int×(List (List D))×Nat) Jm hP [1] [0,1] (fun(i6,aa,ab)=>[(5,.ref 2 0 ab),(6,I i6)]) (fun(i6,aa,ab)=>[(2,.row 2 false aa)])
  (fun(i6,aa,ab)=>∃(w2:List Ac),w2.map Ad=aa∧ab=w2.length∧0≤i6∧i6≤l.length∧w2=(l.take i6.toNat).filter (fun x=>!decide (x.name_=name))∧w2.length≤i6)
  (fun(i6,aa,ab)=>(l.length - i6).toNat) (0,[],0) ⟨[],rfl,rfl,by omega,by omega,rfl,by simp⟩ ⟨rfl,rfl,trivial⟩ rfl ?_
 rintro⟨i6,aa,ab⟩ J ⟨w2,ac,al,h0,h1,hx,hxl⟩ hJ
 conv=>cbv
 refine .go hl fun v1 ap=>?_
 conv=>cbv
 refine .lss (fun h2=>?_) fun h2=>?_
 conv=>cbv
 refine .go i6.toNat hl fun ad ⟨ah,am⟩ ae=>?_
 conv=>cbv
 refine .neq (fun h4=>?_) fun h4=>?_
 conv=>cbv
 refine .go i6.toNat hl fun an ⟨af,ag⟩ ai=>?_
 conv=>cbv
 refine .one (⟨af,ag⟩:Ac) ac rfl fun aj z6 ao ak=>?_
 conv=>cbv
 refine .add fun v7 aq=>?_
 conv=>cbv
 exact .go [4] (v7,z6,aj) (hJ _ ⟨_,ak,Cv,by omega,by omega,by rw[show v7.toNat=i6.toNat+1 by omega,C7 ad,←hx,←ae];simp only[];rw[decide_eq_false h4,ai,←ae];rfl,by rw[List.length_append,List.length_singleton];omega⟩ mlt)
 conv=>cbv
 refine .add fun v5 ar=>?_
 conv=>cbv
 exact .go [2] (v5,aa,ab) (hJ _ ⟨_,ac,Cv,by omega,by omega,by rw[show v5.toNat=i6.toNat+1 by omega,C7 ad,←hx,←ae];simp only[];rw[decide_eq_true h4];simp,by omega⟩ mlt)
 conv=>cbv
 have e:w2=Cl l name:=(by unfold Cl;rw[hx,List.take_of_length_le (by omega)])
 rw[hr]at e
 subst e
 exact hQ _ _ (.r rfl rfl (by rw[←ac,List.length_map];first|omega|(simp;omega)) (by rw[←ac,←ho]))
theorem Kn{enam:ByteArray}{eid:Int}{o:List Ac}(hl:l.map Ad=xl)(hn:l.length≤4000000000)(hr:Cn l (⟨enam,eid⟩:Ac)=o)(ho:o.map Ad=xo):Fn Tryz.prog 267 [.d (.row 2 xl),.agg [S enam,I eid]] [] ⟨.d (.row 2 xo),[],[]⟩:=by
 refine Fn.go Jm Tryz.func267 fun P hP Q hQ=>?_
 conv=>cbv
 refine LoopW.lp (κ:=Bool×Int×(List (List D))×Nat) Jm hP [2] [0,3] (fun(b6,i7,ad,ae)=>[(5,.ref 3 0 ae),(6,B b6),(7,I i7)]) (fun(b6,i7,ad,ae)=>[(3,.row 2 false ad)])
  (fun(b6,i7,ad,ae)=>∃(w3:List Ac),w3.map Ad=ad∧ae=w3.length∧0≤i7∧i7≤l.length∧w3++Ra (⟨enam,eid⟩:Ac) (l.drop i7.toNat) b6=Cn l (⟨enam,eid⟩:Ac)∧w3.length≤2*i7)
  (fun(b6,i7,ad,ae)=>(l.length - i7).toNat) (false,0,[],0) ⟨[],rfl,rfl,by omega,by omega,rfl,by simp⟩ ⟨rfl,rfl,rfl,trivial⟩ rfl ?_
 rintro⟨b6,i7,ad,ae⟩ J ⟨w3,af,be,h0,h1,hx,hxl⟩ hJ
 conv=>cbv
 refine .go hl fun v1 bo=>?_
 conv=>cbv
 refine .lss (fun h2=>?_) fun h2=>?_
 conv=>cbv
 cases b6
 conv=>cbv
 refine .go i7.toNat hl fun aq ⟨ac,ak⟩ ab=>?_
 conv=>cbv
 refine .geq fun b4 al=>?_
 conv=>cbv
 cases b4
 conv=>cbv
 refine .go i7.toNat hl fun ar ⟨aa,ag⟩ am=>?_
 conv=>cbv
 obtain⟨rfl,rfl⟩:aa=ac∧ag=ak:=by have:=am.trans ab.symm;rw[Ac.mk.injEq]at this;exact this
 refine .neq (fun h6=>?_) fun h6=>?_
 conv=>cbv
 refine .go i7.toNat hl fun bf ⟨ah,an⟩ az=>?_
 conv=>cbv
 obtain⟨rfl,rfl⟩:ah=aa∧an=ag:=by have:=az.trans am.symm;rw[Ac.mk.injEq]at this;exact this
 refine .one (⟨ah,an⟩:Ac) af rfl fun a1 z8 bg a2=>?_
 conv=>cbv
 refine .add fun v9 bp=>?_
 conv=>cbv
 have hlt:ltB ah enam=true:=by simpa using al
 have hps:=G4 (show i7.toNat<l.length by omega) ab hx
 simp only[]at hps
 rw[hlt,if_neg (by simp),if_neg h6,List.nil_append,←List.append_assoc]at hps
 exact .go [5] (false,v9,z8,a1) (hJ _ ⟨_,a2,Cv,by omega,by omega,by rw[show v9.toNat=i7.toNat+1 by omega];exact hps,by first|omega|(simp;omega)⟩ mlt)
 conv=>cbv
 refine .add fun v7 a6=>?_
 conv=>cbv
 have hlt:ltB aa enam=true:=by simpa using al
 have hps:=G4 (show i7.toNat<l.length by omega) ab hx
 simp only[]at hps
 rw[hlt,if_neg (by simp),if_pos h6,List.nil_append,List.nil_append]at hps
 exact .go [3] (false,v7,ad,ae) (hJ _ ⟨_,af,Cv,by omega,by omega,by rw[show v7.toNat=i7.toNat+1 by omega];exact hps,by first|omega|(simp;omega)⟩ mlt)
 conv=>cbv
 refine .one (⟨enam,eid⟩:Ac) af rfl fun a7 z5 bh au=>?_
 conv=>cbv
 refine .go i7.toNat hl fun bi ⟨ai,ao⟩ aw=>?_
 conv=>cbv
 obtain⟨rfl,rfl⟩:ai=ac∧ao=ak:=by have:=aw.trans ab.symm;rw[Ac.mk.injEq]at this;exact this
 refine .neq (fun h7=>?_) fun h7=>?_
 conv=>cbv
 refine .go i7.toNat hl fun bj ⟨aj,ap⟩ a8=>?_
 conv=>cbv
 obtain⟨rfl,rfl⟩:aj=ai∧ap=ao:=by have:=a8.trans aw.symm;rw[Ac.mk.injEq]at this;exact this
 refine .one (⟨aj,ap⟩:Ac) au rfl fun ba z9 bk bb=>?_
 conv=>cbv
 refine .add fun ax bl=>?_
 conv=>cbv
 have hlt:ltB aj enam=false:=by simpa using al
 have hps:=G4 (show i7.toNat<l.length by omega) ab hx
 simp only[]at hps
 rw[hlt,if_pos (by simp),if_neg h7,←List.append_assoc,←List.append_assoc]at hps
 exact .go [7] (true,ax,z9,ba) (hJ _ ⟨_,bb,Cv,by omega,by omega,by rw[show ax.toNat=i7.toNat+1 by omega];exact hps,by first|omega|(simp;omega)⟩ mlt)
 conv=>cbv
 refine .add fun v8 bq=>?_
 conv=>cbv
 have hlt:ltB ai enam=false:=by simpa using al
 have hps:=G4 (show i7.toNat<l.length by omega) ab hx
 simp only[]at hps
 rw[hlt,if_pos (by simp),if_pos h7,List.nil_append,←List.append_assoc]at hps
 exact .go [5] (true,v8,z5,a7) (hJ _ ⟨_,au,Cv,by omega,by omega,by rw[show v8.toNat=i7.toNat+1 by omega];exact hps,by first|omega|(simp;omega)⟩ mlt)
 conv=>cbv
 refine .go i7.toNat hl fun aq ⟨ac,ak⟩ ab=>?_
 conv=>cbv
 refine .neq (fun h4=>?_) fun h4=>?_
 conv=>cbv
 refine .go i7.toNat hl fun ar ⟨aa,ag⟩ am=>?_
 conv=>cbv
 obtain⟨rfl,rfl⟩:aa=ac∧ag=ak:=by have:=am.trans ab.symm;rw[Ac.mk.injEq]at this;exact this
 refine .one (⟨aa,ag⟩:Ac) af rfl fun bc z6 bm bd=>?_
 conv=>cbv
 refine .add fun v7 a6=>?_
 conv=>cbv
 have hps:=G4 (show i7.toNat<l.length by omega) ab hx
 simp only[]at hps
 rw[if_neg (by simp),if_neg h4,List.nil_append,←List.append_assoc]at hps
 exact .go [5] (true,v7,z6,bc) (hJ _ ⟨_,bd,Cv,by omega,by omega,by rw[show v7.toNat=i7.toNat+1 by omega];exact hps,by first|omega|(simp;omega)⟩ mlt)
 conv=>cbv
 refine .add fun v5 bt=>?_
 conv=>cbv
 have hps:=G4 (show i7.toNat<l.length by omega) ab hx
 simp only[]at hps
 rw[if_neg (by simp),if_pos h4,List.nil_append,List.nil_append]at hps
 exact .go [3] (true,v5,ad,ae) (hJ _ ⟨_,af,Cv,by omega,by omega,by rw[show v5.toNat=i7.toNat+1 by omega];exact hps,by first|omega|(simp;omega)⟩ mlt)
 conv=>cbv
 cases b6
 conv=>cbv
 refine .one (⟨enam,eid⟩:Ac) af rfl fun bu z3 bn ay=>?_
 conv=>cbv
 have e:(w3++[(⟨enam,eid⟩:Ac)])=Cn l (⟨enam,eid⟩:Ac):=(by rw[List.drop_of_length_le (by omega)]at hx;exact hx)
 rw[hr]at e
 subst e
 exact hQ _ _ (.r rfl rfl (by rw[←ay,List.length_map];first|omega|(simp;omega)) (by rw[←ay,←ho]))
 conv=>cbv
 have e:w3=Cn l (⟨enam,eid⟩:Ac):=(by rw[List.drop_of_length_le (by omega)]at hx;simpa[Ra]using hx)
 rw[hr]at e
 subst e
 exact hQ _ _ (.r rfl rfl (by rw[←af,List.length_map];first|omega|(simp;omega)) (by rw[←af,←ho]))
end
section
open Go Go.Proofs
set_option maxRecDepth 20000
set_option maxHeartbeats 4000000
theorem diskOk_iff{d:Aa}:B4 d=true↔(0≤d.room_∧d.room_≤1000000000)∧(1≤d.next_∧d.next_≤1000000000)∧Kc d=true∧Hr d≤d.room_∧Hs d d.old_ d.steps_=true:=by
 unfold B4 Bc Ch
 simp only[Bool.and_eq_true,decide_eq_true_eq,and_assoc]
theorem Gf{d:Aa}(h:¬B4 d=true):false=B4 d:=by
 symm
 rw[Bool.eq_false_iff]
 exact h
theorem Xfo{d:Aa}{now:List Ac}{l:List ByteArray}(h:Bv d now=false):Hs d now l=false:=by
 cases l with
 |nil=>unfold Hs;rw[h];rfl
 |cons=>unfold Hs;rw[h];rfl
def Mc:List Ac→List ByteArray→List Ac×Bool
 |now,[]=>(now,true)
 |now,s::ss=>if(A2 now s).2=false then([],false)else Mc (A2 now s).1 ss
end
section
open Go Go.Proofs
set_option maxRecDepth 20000
set_option maxHeartbeats 4000000
def Vf:List (Nat×TyRow):=[ty3,ty5,ty9]
theorem Xcn:Bl Tryz.prog Vf:=Bl.of (by kernel_rfl)
theorem XjM:Setup Tryz.prog Vf:=⟨Xcn,mixed⟩
theorem Ma{a b:ByteArray}(h:a.data.toList=b.data.toList):a=b:=ByteArray.ext (Array.toList_inj.1 h)
theorem Da(s:ByteArray)(a b:Nat):(s.extract a b).data.toList=(s.data.toList.take b).drop a:=by
 rw[ByteArray.data_extract,Array.toList_extract,List.extract_eq_take_drop,List.drop_take]
theorem M3{c:UInt8}:∀(l:List UInt8) (k:Nat),l[k]? =some c→(∀j,j<k→∀x,l[j]? =some x→x≠c)→Lib.indexByte l c=k
 |[],k,h,_=>by simp at h
 |b::l,0,h,_=>by
  simp at h
  simp[Lib.indexByte,h]
 |b::l,k+1,h,hb=>by
  have h0:=hb 0 (by omega) b rfl
  have ih:=M3 l k (by simpa using h) (fun j hj x hx=>hb (j+1) (by omega) x (by simpa using hx))
  unfold Lib.indexByte
  rw[if_neg (by simpa using h0),ih,if_neg (by simp)]
  omega
theorem S9{c:UInt8}:∀(l:List UInt8),(∀(j:Nat) x,l[j]? =some x→x≠c)→Lib.indexByte l c= -1
 |[],_=>rfl
 |b::l,hb=>by
  have h0:=hb 0 b rfl
  have ih:=S9 l (fun j x hx=>hb (j+1) x (by simpa using hx))
  unfold Lib.indexByte
  rw[if_neg (by simpa using h0),ih,if_pos (by rfl)]
theorem u8_58{x:UInt8}:x≠58↔x.toNat≠58:=⟨fun h e=>h (UInt8.toNat_inj.1 e),fun h e=>h (by rw[e];rfl)⟩
theorem Xfd{s:ByteArray}{j:Nat}{x:UInt8}(h:(s.extract 1 s.size).data.toList[j]? =some x):∃hj:j+1<s.size,s[j+1]=x:=by
 rw[Da,List.getElem?_drop,List.take_of_length_le (by rw[Array.length_toList];exact Nat.le_refl _)]at h
 have hl:1+j<s.size:=by
  have:=(List.getElem?_eq_some_iff.1 h).1
  rwa[Array.length_toList]at this
 refine⟨by omega,?_⟩
 rw[show 1+j=j+1 by omega,Mp (show j+1<s.size by omega)]at h
 exact Option.some.inj h
theorem Ru{s:ByteArray}{i:Nat}(h1:1≤i)(hi:i<s.size)(h:(s[i]).toNat=58)(hb:∀j,1≤j→j<i→∀hj:j<s.size,(s[j]).toNat≠58):Nt (s.extract 1 s.size)=(s.extract 1 i,s.extract (i+1) s.size,true):=by
 obtain⟨k,rfl⟩:∃k,i=k+1:=⟨i - 1,by omega⟩
 have hsz:(s.extract 1 s.size).size=s.size - 1:=by rw[ByteArray.size_extract];omega
 have e:Md (s.extract 1 s.size)=(k:Int):=by
  refine M3 _ k ?_ ?_
  ·rw[Da,List.getElem?_drop,List.take_of_length_le (by rw[Array.length_toList];exact Nat.le_refl _),show 1+k=k+1 by omega,Mp hi]
   exact congrArg some (UInt8.toNat_inj.1 h)
  ·intro j hj x hx
   obtain⟨aa,rfl⟩:=Xfd hx
   exact u8_58.2 (hb (j+1) (by omega) (by omega) aa)
 unfold Nt
 rw[e,if_pos (by omega),Int.toNat_natCast,hsz]
 have a1:(s.extract 1 s.size).extract 0 k=s.extract 1 (k+1):=by
  apply Ma
  rw[Da,Da,Da,List.drop_zero,List.take_of_length_le (l:=s.data.toList) (by rw[Array.length_toList];exact Nat.le_refl _),List.drop_take,Nat.add_sub_cancel]
 have a2:(s.extract 1 s.size).extract (k+1) (s.size - 1)=s.extract (k+1+1) s.size:=by
  apply Ma
  rw[Da,Da,Da,List.take_of_length_le (l:=s.data.toList) (by rw[Array.length_toList];exact Nat.le_refl _),List.take_of_length_le (by rw[List.length_drop,Array.length_toList];exact Nat.le_refl _),List.drop_drop]
  congr 1
  omega
 rw[a1,a2]
theorem Xjk{s:ByteArray}(hb:∀j,1≤j→∀hj:j<s.size,(s[j]).toNat≠58):(Nt (s.extract 1 s.size)).2.2=false:=by
 have e:Md (s.extract 1 s.size)= -1:=by
  refine S9 _ ?_
  intro j x hx
  obtain⟨aa,rfl⟩:=Xfd hx
  exact u8_58.2 (hb (j+1) (by omega) aa)
 unfold Nt
 rw[e,if_neg (by omega)]
def Ba(s:ByteArray):ByteArray×ByteArray×Int×Bool:=
 if s.size<2∨(s.data.toList.head?≠some 43∧s.data.toList.head?≠some 45∧s.data.toList.head?≠some 62)then(tx [],tx [],0,false)
 else if s.data.toList.head?=some 45 then(s.extract 1 s.size,tx [],0,true)
 else if(Nt (s.extract 1 s.size)).2.2=false then(tx [],tx [],0,false)
 else if s.data.toList.head?=some 62 then((Nt (s.extract 1 s.size)).1,(Nt (s.extract 1 s.size)).2.1,0,Bo (Nt (s.extract 1 s.size)).2.1&& !decide ((Nt (s.extract 1 s.size)).1=(Nt (s.extract 1 s.size)).2.1))
 else((Nt (s.extract 1 s.size)).1,tx [],(A8 (Nt (s.extract 1 s.size)).2.1).1,(A8 (Nt (s.extract 1 s.size)).2.1).2&&Bo (Nt (s.extract 1 s.size)).1)
theorem I5{s:ByteArray}{v:Int}{n:Nat}(h0:0<s.size)(hv:v=((s[0]).toNat:Int))(h:v≠(n:Int))(hn:n<256):s.data.toList.head?≠some (UInt8.ofNat n):=by
 rw[Tw h0]
 intro e
 exact u8_ne hv h hn (Option.some.inj e)
theorem Il{s:ByteArray}{v:Int}{n:Nat}(h0:0<s.size)(hv:v=((s[0]).toNat:Int))(h:v=(n:Int))(hn:n<256):s.data.toList.head?=some (UInt8.ofNat n):=(Tw h0).trans (congrArg some (u8_eq hv h hn))
section
variable {s a b:ByteArray}
theorem Yb(h:s.size<2∨(s.data.toList.head?≠some 43∧s.data.toList.head?≠some 45∧s.data.toList.head?≠some 62)):(tx [],tx [],0,false)=Ba s:=by unfold Ba;rw[if_pos h]
theorem Xbt(h2:2≤s.size)(h:s.data.toList.head?=some 45):(s.extract 1 s.size,tx [],0,true)=Ba s:=by
 unfold Ba
 rw[if_neg (by rw[h];rintro(h|h);omega;exact h.2.1 rfl),if_pos h]
theorem Yq(h2:2≤s.size)(hh:s.data.toList.head?=some 43∨s.data.toList.head?=some 45∨s.data.toList.head?=some 62)(h45:s.data.toList.head?≠some 45)(hc:(Nt (s.extract 1 s.size)).2.2=false):(tx [],tx [],0,false)=Ba s:=by
 unfold Ba
 rw[if_neg (by rintro(h|⟨k1,k2,k3⟩);omega;rcases hh with h|h|h;exact k1 h;exact k2 h;exact k3 h),if_neg h45,if_pos hc]
theorem T4(h2:2≤s.size)(h:s.data.toList.head?=some 62)(hc:Nt (s.extract 1 s.size)=(a,b,true)):Ba s=(a,b,0,Bo b&& !decide (a=b)):=by
 unfold Ba
 rw[if_neg (by rw[h];rintro(h|h);omega;exact h.2.2 rfl),if_neg (by rw[h];decide),hc,if_neg (by simp),if_pos h]
theorem Tu(h2:2≤s.size)(h:s.data.toList.head?=some 43)(hc:Nt (s.extract 1 s.size)=(a,b,true)):Ba s=(a,tx [],(A8 b).1,(A8 b).2&&Bo a):=by
 unfold Ba
 rw[if_neg (by rw[h];rintro(h|h);omega;exact h.1 rfl),if_neg (by rw[h];decide),hc,if_neg (by simp),if_neg (by rw[h];decide)]
end
theorem Mm:Setup Tryz.prog ((3000009,Em Tryz.prog 3000009)::((3000012,Em Tryz.prog 3000012)::((1000026,Em Tryz.prog 1000026)::Vf))):=(Setup.mark 3000009 (Setup.mark 3000012 (Setup.mark 1000026 XjM)))
theorem XaI{step:ByteArray}{oa:ByteArray}{ob:ByteArray}{oc:Int}{od:Bool}(hs:step.size≤1000000000)(hr:Ba step=(oa,ob,oc,od)):Fn Tryz.prog 264 [S step] [] ⟨.tup [S oa,S ob,I oc,B od],[],[]⟩:=by
 refine Fn.go Mm Tryz.func264 fun P hP Q hQ=>?_
 conv=>cbv
 refine JoinW.jn (κ:=Unit) Mm hP [] [0] (fun()=>[]) (fun()=>[])
  (fun()=>2≤step.size∧(step.data.toList.head?=some 43∨step.data.toList.head?=some 45∨step.data.toList.head?=some 62)) (fun Jj hJj=>?_) ?_
 conv=>cbv
 refine .go fun v1 an=>?_
 conv=>cbv
 refine .lss (fun h2=>?_) fun h2=>?_
 conv=>cbv
 have e:((tx []),(tx []),0,false)=Ba step:=(by exact Yb (.inl (by omega)))
 rw[hr]at e
 simp only[Prod.mk.injEq]at e
 obtain⟨rfl,rfl,rfl,rfl⟩:=e
 refine hQ _ _ ?_
 exact .many (.inl rfl) rfl rfl (.d rfl rfl (.d rfl rfl (.d rfl rfl (.d rfl rfl (.nil)))))
 conv=>cbv
 refine .go 0 fun hjv3 v3 aw bv3=>?_
 conv=>cbv
 refine .neq (fun h4=>?_) fun h4=>?_
 conv=>cbv
 refine .go 0 fun hjv5 v5 ax bv5=>?_
 conv=>cbv
 refine .neq (fun h6=>?_) fun h6=>?_
 conv=>cbv
 refine .go 0 fun hjv7 v7 ac bv7=>?_
 conv=>cbv
 refine .neq (fun h8=>?_) fun h8=>?_
 conv=>cbv
 have e:((tx []),(tx []),0,false)=Ba step:=(by exact Yb (.inr ⟨(I5 (n:=43) (show 0<step.size by omega) aw (by omega) (by decide)),(I5 (n:=45) (show 0<step.size by omega) ax (by omega) (by decide)),(I5 (n:=62) (show 0<step.size by omega) ac (by omega) (by decide))⟩))
 rw[hr]at e
 simp only[Prod.mk.injEq]at e
 obtain⟨rfl,rfl,rfl,rfl⟩:=e
 refine hQ _ _ ?_
 exact .many (.inl rfl) rfl rfl (.d rfl rfl (.d rfl rfl (.d rfl rfl (.d rfl rfl (.nil)))))
 conv=>cbv
 exact .go [] (()) (hJj _ ⟨by omega,.inr (.inr (Il (n:=62) (show 0<step.size by omega) ac (by omega) (by decide)))⟩)
 conv=>cbv
 exact .go [] (()) (hJj _ ⟨by omega,.inr (.inl (Il (n:=45) (show 0<step.size by omega) ax (by omega) (by decide)))⟩)
 conv=>cbv
 exact .go [] (()) (hJj _ ⟨by omega,.inl (Il (n:=43) (show 0<step.size by omega) aw (by omega) (by decide))⟩)
 rintro⟨⟩ ⟨ag,hh0⟩
 conv=>cbv
 refine .go 0 fun hjv1 v1 an bv1=>?_
 conv=>cbv
 refine .eql (fun h2=>?_) fun h2=>?_
 conv=>cbv
 refine .lo fun s3 bj=>?_
 conv=>cbv
 have e:(s3,(tx []),0,true)=Ba step:=(by rw[bj];exact Xbt ag (Il (n:=45) (show 0<step.size by omega) an (by omega) (by decide)))
 rw[hr]at e
 simp only[Prod.mk.injEq]at e
 obtain⟨rfl,rfl,rfl,rfl⟩:=e
 refine hQ _ _ ?_
 exact .many (.inl rfl) rfl rfl (.d rfl rfl (.d rfl rfl (.d rfl rfl (.d rfl rfl (.nil)))))
 conv=>cbv
 refine LoopW.lp (κ:=Int) Mm hP [] [0] (fun i6=>[(6,I i6)]) (fun i6=>[])
  (fun i6=>1≤i6∧i6≤step.size∧∀j,1≤j→j<i6.toNat→∀hj:j<step.size,(step[j]).toNat≠58)
  (fun i6=>(step.size - i6).toNat) (1) ⟨by omega,by omega,fun j h1 h2=>by omega⟩ ⟨rfl,trivial⟩ rfl ?_
 rintro i6 J1 ⟨h0,h1,hb⟩ bk
 conv=>cbv
 refine .go fun v3 aw=>?_
 conv=>cbv
 refine .lss (fun h4=>?_) fun h4=>?_
 conv=>cbv
 refine .go i6.toNat fun hjv5 v5 ax bv5=>?_
 conv=>cbv
 refine .eql (fun h6=>?_) fun h6=>?_
 conv=>cbv
 refine .go 0 fun hjv7 v7 ac bv7=>?_
 conv=>cbv
 refine .eql (fun h8=>?_) fun h8=>?_
 conv=>cbv
 refine .lohi fun s9 ay=>?_
 conv=>cbv
 refine .add fun az bm=>?_
 conv=>cbv
 refine .lo fun a1 ao=>?_
 conv=>cbv
 refine .add fun a2 bn=>?_
 conv=>cbv
 refine .lo fun ah ad=>?_
 conv=>cbv
 have bb:ah.size≤step.size:=by rw[ad,ByteArray.size_extract];omega
 generalize aa:Bo ah=a6
 refine .dd hP (Kk (by omega) aa) ?_
 cases a6
 conv=>cbv
 refine .go2 (by kernel_rfl) ?_
 conv=>cbv
 have e:(s9,a1,0,false)=Ba step:=(by have hm:=T4 ag (Il (n:=62) (show 0<step.size by omega) ac (by omega) (by decide)) (Ru (s:=step) (i:=i6.toNat) (by omega) (by omega) (by omega) hb);have ai:ah=step.extract (i6.toNat+1) step.size:=(by rw[ad,show a2.toNat=i6.toNat+1 by omega]);rw[ai]at aa;rw[hm,ay,ao,aa,show az.toNat=i6.toNat+1 by omega];rfl)
 rw[hr]at e
 simp only[Prod.mk.injEq]at e
 obtain⟨rfl,rfl,rfl,rfl⟩:=e
 refine hQ _ _ ?_
 exact .many (.inl rfl) rfl rfl (.d rfl rfl (.d rfl rfl (.d rfl rfl (.d rfl rfl (.nil)))))
 conv=>cbv
 refine .lohi fun a7 ae=>?_
 conv=>cbv
 refine .add fun bc bo=>?_
 conv=>cbv
 refine .lo fun bv au=>?_
 conv=>cbv
 refine .neq (fun h18=>?_) fun h18=>?_
 conv=>cbv
 refine .go2 (by kernel_rfl) ?_
 conv=>cbv
 have e:(s9,a1,0,true)=Ba step:=(by have hm:=T4 ag (Il (n:=62) (show 0<step.size by omega) ac (by omega) (by decide)) (Ru (s:=step) (i:=i6.toNat) (by omega) (by omega) (by omega) hb);have ai:ah=step.extract (i6.toNat+1) step.size:=(by rw[ad,show a2.toNat=i6.toNat+1 by omega]);rw[ai]at aa;rw[hm,ay,ao,aa,show az.toNat=i6.toNat+1 by omega,decide_eq_false (show¬step.extract 1 i6.toNat=step.extract (i6.toNat+1) step.size from fun e=>h18 (by rw[ae,au,show bc.toNat=i6.toNat+1 by omega];exact e))];rfl)
 rw[hr]at e
 simp only[Prod.mk.injEq]at e
 obtain⟨rfl,rfl,rfl,rfl⟩:=e
 refine hQ _ _ ?_
 exact .many (.inl rfl) rfl rfl (.d rfl rfl (.d rfl rfl (.d rfl rfl (.d rfl rfl (.nil)))))
 conv=>cbv
 refine .go2 (by kernel_rfl) ?_
 conv=>cbv
 have e:(s9,a1,0,false)=Ba step:=(by have hm:=T4 ag (Il (n:=62) (show 0<step.size by omega) ac (by omega) (by decide)) (Ru (s:=step) (i:=i6.toNat) (by omega) (by omega) (by omega) hb);have ai:ah=step.extract (i6.toNat+1) step.size:=(by rw[ad,show a2.toNat=i6.toNat+1 by omega]);rw[ai]at aa;rw[hm,ay,ao,aa,show az.toNat=i6.toNat+1 by omega,decide_eq_true (show step.extract 1 i6.toNat=step.extract (i6.toNat+1) step.size from by rw[ae,au,show bc.toNat=i6.toNat+1 by omega]at h18;exact h18)];rfl)
 rw[hr]at e
 simp only[Prod.mk.injEq]at e
 obtain⟨rfl,rfl,rfl,rfl⟩:=e
 refine hQ _ _ ?_
 exact .many (.inl rfl) rfl rfl (.d rfl rfl (.d rfl rfl (.d rfl rfl (.d rfl rfl (.nil)))))
 conv=>cbv
 refine .go i6.toNat fun hjv9 v9 bd bv9=>?_
 conv=>cbv
 refine .eql (fun h10=>?_) fun h10=>?_
 conv=>cbv
 refine .add fun a8 bp=>?_
 conv=>cbv
 refine .lo fun af aj=>?_
 conv=>cbv
 have bq:af.size≤step.size:=by rw[aj,ByteArray.size_extract];omega
 rcases ab:A8 af with⟨ap,be⟩
 refine .dd hP (Qy (by omega) ab) ?_
 conv=>cbv
 refine .lohi fun ba aq=>?_
 conv=>cbv
 cases be
 conv=>cbv
 refine .go2 (by kernel_rfl) ?_
 conv=>cbv
 have e:(ba,(tx []),ap,false)=Ba step:=(by have hm:=Tu ag (hh0.elim id fun h=>h.elim (fun h=>absurd h (I5 (n:=45) (show 0<step.size by omega) an (by omega) (by decide))) fun h=>absurd h (I5 (n:=62) (show 0<step.size by omega) ac (by omega) (by decide))) (Ru (s:=step) (i:=i6.toNat) (by omega) (by omega) (by omega) hb);have ak:af=step.extract (i6.toNat+1) step.size:=(by rw[aj,show a8.toNat=i6.toNat+1 by omega]);rw[ak]at ab;rw[hm,aq,ab];rfl)
 rw[hr]at e
 simp only[Prod.mk.injEq]at e
 obtain⟨rfl,rfl,rfl,rfl⟩:=e
 refine hQ _ _ ?_
 exact .many (.inl rfl) rfl rfl (.d rfl rfl (.d rfl rfl (.d rfl rfl (.d rfl rfl (.nil)))))
 conv=>cbv
 refine .lohi fun a7 ae=>?_
 conv=>cbv
 have bt:a7.size≤step.size:=by rw[ae,ByteArray.size_extract];omega
 generalize al:Bo a7=bl
 refine .dd hP (Kk (by omega) al) ?_
 cases bl
 conv=>cbv
 refine .go2 (by kernel_rfl) ?_
 conv=>cbv
 have e:(ba,(tx []),ap,false)=Ba step:=(by have hm:=Tu ag (hh0.elim id fun h=>h.elim (fun h=>absurd h (I5 (n:=45) (show 0<step.size by omega) an (by omega) (by decide))) fun h=>absurd h (I5 (n:=62) (show 0<step.size by omega) ac (by omega) (by decide))) (Ru (s:=step) (i:=i6.toNat) (by omega) (by omega) (by omega) hb);have ak:af=step.extract (i6.toNat+1) step.size:=(by rw[aj,show a8.toNat=i6.toNat+1 by omega]);rw[ak]at ab;rw[ae]at al;have am:=(show Bo (step.extract 1 i6.toNat)=_ from al);rw[hm,aq,ab,am];rfl)
 rw[hr]at e
 simp only[Prod.mk.injEq]at e
 obtain⟨rfl,rfl,rfl,rfl⟩:=e
 refine hQ _ _ ?_
 exact .many (.inl rfl) rfl rfl (.d rfl rfl (.d rfl rfl (.d rfl rfl (.d rfl rfl (.nil)))))
 conv=>cbv
 refine .go2 (by kernel_rfl) ?_
 conv=>cbv
 have e:(ba,(tx []),ap,true)=Ba step:=(by have hm:=Tu ag (hh0.elim id fun h=>h.elim (fun h=>absurd h (I5 (n:=45) (show 0<step.size by omega) an (by omega) (by decide))) fun h=>absurd h (I5 (n:=62) (show 0<step.size by omega) ac (by omega) (by decide))) (Ru (s:=step) (i:=i6.toNat) (by omega) (by omega) (by omega) hb);have ak:af=step.extract (i6.toNat+1) step.size:=(by rw[aj,show a8.toNat=i6.toNat+1 by omega]);rw[ak]at ab;rw[ae]at al;have am:=(show Bo (step.extract 1 i6.toNat)=_ from al);rw[hm,aq,ab,am];rfl)
 rw[hr]at e
 simp only[Prod.mk.injEq]at e
 obtain⟨rfl,rfl,rfl,rfl⟩:=e
 refine hQ _ _ ?_
 exact .many (.inl rfl) rfl rfl (.d rfl rfl (.d rfl rfl (.d rfl rfl (.d rfl rfl (.nil)))))
 exfalso;omega
 conv=>cbv
 refine .go i6.toNat fun hjv7 v7 ac bv7=>?_
 conv=>cbv
 refine .eql (fun h8=>?_) fun h8=>?_
 conv=>cbv
 refine .add fun v9 bd=>?_
 conv=>cbv
 refine .lo fun bf bg=>?_
 conv=>cbv
 have bu:bf.size≤step.size:=by rw[bg,ByteArray.size_extract];omega
 rcases bh:A8 bf with⟨ar,bi⟩
 refine .dd hP (Qy (by omega) bh) ?_
 conv=>cbv
 refine .lohi fun af aj=>?_
 conv=>cbv
 cases bi
 conv=>cbv
 refine .go2 (by kernel_rfl) ?_
 conv=>cbv
 have e:(af,(tx []),ar,false)=Ba step:=(by exfalso;omega)
 rw[hr]at e
 simp only[Prod.mk.injEq]at e
 obtain⟨rfl,rfl,rfl,rfl⟩:=e
 refine hQ _ _ ?_
 exact .many (.inl rfl) rfl rfl (.d rfl rfl (.d rfl rfl (.d rfl rfl (.d rfl rfl (.nil)))))
 conv=>cbv
 refine .lohi fun ah ad=>?_
 conv=>cbv
 have bb:ah.size≤step.size:=by rw[ad,ByteArray.size_extract];omega
 generalize aa:Bo ah=a6
 refine .dd hP (Kk (by omega) aa) ?_
 cases a6
 conv=>cbv
 refine .go2 (by kernel_rfl) ?_
 conv=>cbv
 have e:(af,(tx []),ar,false)=Ba step:=(by exfalso;omega)
 rw[hr]at e
 simp only[Prod.mk.injEq]at e
 obtain⟨rfl,rfl,rfl,rfl⟩:=e
 refine hQ _ _ ?_
 exact .many (.inl rfl) rfl rfl (.d rfl rfl (.d rfl rfl (.d rfl rfl (.d rfl rfl (.nil)))))
 conv=>cbv
 refine .go2 (by kernel_rfl) ?_
 conv=>cbv
 have e:(af,(tx []),ar,true)=Ba step:=(by exfalso;omega)
 rw[hr]at e
 simp only[Prod.mk.injEq]at e
 obtain⟨rfl,rfl,rfl,rfl⟩:=e
 refine hQ _ _ ?_
 exact .many (.inl rfl) rfl rfl (.d rfl rfl (.d rfl rfl (.d rfl rfl (.d rfl rfl (.nil)))))
 conv=>cbv
 refine .add fun v9 bd=>?_
 conv=>cbv
 exact .go [] (v9) (bk _ ⟨by omega,by omega,fun j k1 k2 hj=>if e:j=i6.toNat then by subst e;omega else hb j k1 (by omega) hj⟩ mlt)
 conv=>cbv
 have e:((tx []),(tx []),0,false)=Ba step:=(by exact Yq ag hh0 (I5 (n:=45) (show 0<step.size by omega) an (by omega) (by decide)) (Xjk fun j k1 hj=>hb j k1 (by omega) hj))
 rw[hr]at e
 simp only[Prod.mk.injEq]at e
 obtain⟨rfl,rfl,rfl,rfl⟩:=e
 refine hQ _ _ ?_
 exact .many (.inl rfl) rfl rfl (.d rfl rfl (.d rfl rfl (.d rfl rfl (.d rfl rfl (.nil)))))
end
end Go.Proofs.YtjbmpmmffjgedaaGreatDoor.Ab
