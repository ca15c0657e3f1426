/- What functions come to. -/
import Derived.Test.YtjbmpmmffjgedaaGreatDoorFmch04
import Derived.Test.YtjbmpmmffjgedaaGreatDoorFmZ9
import Derived.Lib.ItoaNum
import Derived.Lib.AppendIntMem
import Derived.Test.YtjbmpmmffjgedaaGreatDoorFmch10
import Derived.Below
import Derived.ProofKit
import Derived.Shelf.Spec.SlicesInsertGrow
set_option linter.unusedVariables false
set_option linter.unusedSimpArgs false
set_option maxHeartbeats 4000000
set_option maxRecDepth 20000
namespace Go.Proofs.YtjbmpmmffjgedaaGreatDoor.Ab
section
open Go Go.Proofs
def Ru:List (Nat×TyRow):=[ty3,ty9,XaC,Xp,Xgj,ty48,ty96,U5,XlJ,Xmh]
theorem Xe2:B1 Tryz.prog Ru:=B1.of (by kernel_rfl)
theorem Q3:Setup Tryz.prog Ru:=⟨Xe2,mixed⟩
def Gi(base:Int)(text:ByteArray):List TOp:=[⟨2,Cf base,tx [],tx []⟩,⟨3,Cf base,tx [],text⟩,⟨4,Cf base,tx [],tx []⟩,⟨5,Cf base,A4 base,tx []⟩,⟨6,tx [],tx [],tx []⟩]
def Nm(n:ByteArray):TOp:=⟨1,n,tx [],tx []⟩
def Fv(names:List ByteArray):List TOp:=if names=[]then[]else names.map Nm++[⟨6,tx [],tx [],tx []⟩]
def Gs(d:Aa)(b:Int):List TOp:=if(Ft d (A4 b)).1.sure_=(Ft d (A4 b)).1.text_.size then[]else[⟨4,A4 b,tx [],tx []⟩]
def Fg(d:Aa)(v:Int)(b:Int):List TOp:=if C3 (Du d b) v=Du d b then[]else Gi b (C3 (Du d b) v)
def Hd(n:ByteArray):Bool:=decide ((Bv n).1=2)
def Yf(v:Int):Int:=if v=1∨v=2 then v else 0
def Xbc(d:Aa):List TOp:=(Fo d).flatMap (Gs d)++(if d.steps_=[]then[]else[⟨6,tx [],tx [],tx []⟩])
def XaZ(d:Aa):List TOp:=Fv ((Cc d).filter Hd)
def H9(d:Aa)(v:Int):List TOp:=Xbc d++XaZ d++(Fo d).flatMap (Fg d (Yf v))++Fv ((Cc d).filter (fun n=>!Hd n)).reverse
theorem Xk6{α:Type}{l w:List α}{i j:Int}{a b:α}(hl:w.length=l.length)(h0:0≤i)(hij:i+j=l.length - 1)(hlt:i<j)(h:∀k:Nat,k<l.length→w[k]? =if(k:Int)<i∨j<k then l[l.length - 1 - k]? else l[k]?)
  (ha:w[j.toNat]? =some a)(hb:w[i.toNat]? =some b):∀k:Nat,k<l.length→((w.set i.toNat a).set j.toNat b)[k]? =if(k:Int)<i+1∨j - 1<k then l[l.length - 1 - k]? else l[k]? :=by
 intro k hk
 have hj:=h j.toNat (by omega)
 have hi:=h i.toNat (by omega)
 rw[if_neg (by omega),ha]at hj
 rw[if_neg (by omega),hb]at hi
 by_cases e1:k=j.toNat
 ·subst e1
  rw[List.getElem?_set_self (by rw[List.length_set];omega),if_pos (by omega),show l.length - 1 - j.toNat=i.toNat by omega,←hi]
 ·rw[List.getElem?_set_ne (fun e=>e1 e.symm)]
  by_cases e2:k=i.toNat
  ·subst e2
   rw[List.getElem?_set_self (by omega),if_pos (by omega),show l.length - 1 - i.toNat=j.toNat by omega,←hj]
  ·rw[List.getElem?_set_ne (fun e=>e2 e.symm),h k hk]
   by_cases e3:(k:Int)<i∨j<k
   ·rw[if_pos e3,if_pos (by omega)]
   ·rw[if_neg e3,if_neg (by omega)]
theorem Xl9{α:Type}{l w:List α}{i j:Int}(hl:w.length=l.length)(hij:i+j=l.length - 1)(hlt:j≤i)(h:∀k:Nat,k<l.length→w[k]? =if(k:Int)<i∨j<k then l[l.length - 1 - k]? else l[k]?):w=l.reverse:=by
 refine List.ext_getElem? fun k=>?_
 by_cases hk:k<l.length
 ·rw[h k hk,List.getElem?_reverse hk]
  split
  ·rfl
  ·rw[show l.length - 1 - k=k by omega]
 ·rw[List.getElem?_eq_none (by omega),List.getElem?_eq_none (by rw[List.length_reverse];omega)]
theorem Sk{d:Aa}{α:Type}(f:T5→List α)(g:Int→List α)(h:∀x,x.text_=Du d x.base_→x.scan_=Bu (Du d x.base_)→f x=g x.base_):(N9 d).flatMap f=(Fo d).flatMap g:=by
 rw[List.flatMap_def,List.flatMap_def,Xiw f g h]
theorem Dv{α:Type}{p:α→Bool}{l:List α}{k:Nat}(h:k<l.length):(l.take (k+1)).filter p=(l.take k).filter p++(if p l[k]then[l[k]]else[]):=by
 rw[List.take_succ_eq_append_getElem h,List.filter_append,List.filter_cons,List.filter_nil]
theorem Z3{d:Aa}{l:List ByteArray}(e:Cc d=l):∀n∈l,(Bv n).1=2∨(Bv n).1=1:=by
 intro n hn
 rw[←e]at hn
 unfold Cc at hn
 have h:=(List.mem_filter.1 hn).2
 unfold N8 at h
 rw[decide_eq_true_eq]at h
 rcases h with h|⟨h,_⟩
 ·exact .inl h
 ·exact .inr h
theorem XaW{d:Aa}{l:List ByteArray}(hd:okD d)(e:Cc d=l):∀n∈l,n.size≤1000000000:=by
 intro n hn
 rw[←e]at hn
 unfold Cc at hn
 obtain⟨x,hx,rfl⟩:=List.mem_map.1 (List.mem_filter.1 hn).1
 exact hd.2.2.2.1 x hx
theorem Nq{l:List ByteArray}:(Fv l).length≤l.length+1:=by
 unfold Fv
 split
 ·simp
 ·simp
theorem XfD{α β:Type}{f:α→List β}{m:Nat}(h:∀x,(f x).length≤m):∀l:List α,(l.flatMap f).length≤m*l.length
 |[]=>by simp
 |x::l=>by
  have:=XfD h l
  have h2:=h x
  rw[List.flatMap_cons,List.length_append,List.length_cons,Nat.mul_succ]
  omega
theorem R8{d:Aa}(b:Int):(Gs d b).length≤1:=by unfold Gs;split<;>simp
theorem XhY{d:Aa}{v:Int}(b:Int):(Fg d v b).length≤5:=by unfold Fg;split<;>simp[Gi]
theorem XkE{α β:Type}{f:α→List β}{m:Nat}(h:∀x,(f x).length≤m){l:List α}{k:Nat}{w:List β}(e:w=(l.take k).flatMap f):w.length≤m*l.length:=by
 rw[e]
 have:=XfD h (l.take k)
 have h2:(l.take k).length≤l.length:=by rw[List.length_take];omega
 exact Nat.le_trans this (Nat.mul_le_mul_left m h2)
variable {base Ap An version:Int} {text:ByteArray} {o:List TOp} {xo Bo Bn Bm Bp:List (List D)} {Af:List A0} {Ah Ai:List Ad} {Ag:List ByteArray}
theorem Xhv(hr:Gi base text=o)(ho:o.map eOp=xo):Fn Tryz.prog 124 [I base,S text] [] ⟨.d (.row 4 xo),[],[]⟩:=by
 refine Fn.go Q3 Tryz.func124 fun P hP Q hQ=>?_
 conv=>cbv
 generalize aa:Cf base=r1
 refine .dd hP (Zs aa) ?_
 conv=>cbv
 generalize ab:A4 base=r2
 refine .dd hP (G6 ab) ?_
 conv=>cbv
 have e:[(⟨2,r1,tx [],tx []⟩:TOp),(⟨3,r1,tx [],text⟩:TOp),(⟨4,r1,tx [],tx []⟩:TOp),(⟨5,r1,r2,tx []⟩:TOp),(⟨6,tx [],tx [],tx []⟩:TOp)]=Gi base text:=(by unfold Gi;rw[aa,ab])
 rw[hr]at e
 subst e
 exact hQ _ _ (.r rfl rfl rfl (by rw[←ho];rfl))
theorem Xhk(hr:Gi base text=o)(ho:o.map eOp=xo):Fn Tryz.prog 113 [I base,S text] [] ⟨.d (.row 4 xo),[],[]⟩:=by
 refine Fn.go Q3 Tryz.func113 fun P hP Q hQ=>?_
 conv=>cbv
 generalize aa:Cf base=r1
 refine .dd hP (Zk aa) ?_
 conv=>cbv
 generalize ab:A4 base=r2
 refine .dd hP (I0 ab) ?_
 conv=>cbv
 have e:[(⟨2,r1,tx [],tx []⟩:TOp),(⟨3,r1,tx [],text⟩:TOp),(⟨4,r1,tx [],tx []⟩:TOp),(⟨5,r1,r2,tx []⟩:TOp),(⟨6,tx [],tx [],tx []⟩:TOp)]=Gi base text:=(by unfold Gi;rw[aa,ab])
 rw[hr]at e
 subst e
 exact hQ _ _ (.r rfl rfl rfl (by rw[←ho];rfl))
theorem Ys{names:List ByteArray}{xnames:List (List D)}{no:Nat}(hnames:names.map cS=xnames)(hn:names.length<2^40)(hr:Fv names=o)(ho:o.map eOp=xo)(hno:no=o.length):Fn Tryz.prog 183 [.d (.row 1 xnames)] [] ⟨.ref 0 0 no,[.row 4 false xo],[]⟩:=by
 refine Fn.goR Q3 Tryz.func183 fun P hP Q hQ=>?_
 conv=>cbv
 refine .go hnames fun v1 am=>?_
 conv=>cbv
 refine LoopW.lp (κ:=Int×(List (List D))×Nat) Q3 hP [1] [7,8] (fun(i9,aa,ab)=>[(3,.ref 2 0 ab),(9,I i9)]) (fun(i9,aa,ab)=>[(2,.row 4 false aa)])
  (fun(i9,aa,ab)=>∃(w2:List TOp),w2.map eOp=aa∧ab=w2.length∧0≤i9∧i9≤names.length∧w2=(names.take i9.toNat).map Nm∧w2.length=i9.toNat)
  (fun(i9,aa,ab)=>(names.length - i9).toNat) (0,[],0) ⟨[],rfl,rfl,by omega,by omega,by simp,rfl⟩ ⟨rfl,rfl,trivial⟩ rfl ?_
 rintro⟨i9,aa,ab⟩ J ⟨w2,ac,aj,h0,h1,hw,hwl⟩ hJ
 conv=>cbv
 refine .lss (fun h2=>?_) fun h2=>?_
 conv=>cbv
 refine .go i9.toNat hnames fun ad e3 ae=>?_
 conv=>cbv
 refine .one (⟨1,e3,tx [],tx []⟩:TOp) ac rfl fun af z4 ak ag=>?_
 conv=>cbv
 refine .add fun v5 an=>?_
 conv=>cbv
 exact .go [4] (v5,z4,af) (hJ _ ⟨_,ag,Ic,by omega,by omega,by rw[hw,show v5.toNat=i9.toNat+1 by omega,Xbv ad,←ae];rfl,by rw[List.length_append,List.length_singleton];omega⟩ mlt)
 conv=>cbv
 refine .go fun v3 ao=>?_
 conv=>cbv
 refine .gtr (fun h4=>?_) fun h4=>?_
 conv=>cbv
 refine .one (⟨6,tx [],tx [],tx []⟩:TOp) ac rfl fun ah z5 al ai=>?_
 conv=>cbv
 have e:(w2++[(⟨6,tx [],tx [],tx []⟩:TOp)])=Fv names:=(by unfold Fv;rw[if_neg (by intro e;subst e;simp at h1;omega),hw,List.take_of_length_le (by omega)])
 rw[hr]at e
 subst e
 obtain rfl:z5=xo:=by rw[←ai,←ho]
 obtain rfl:ah=no:=by first|omega|(rw[hno];simp;done)|(rw[hno];simp;omega)
 exact hQ _ _ (.o [4] rfl)
 conv=>cbv
 have e:w2=Fv names:=(by unfold Fv;rw[if_pos (List.eq_nil_of_length_eq_zero (by omega))];exact List.eq_nil_of_length_eq_zero (by omega))
 rw[hr]at e
 subst e
 obtain rfl:aa=xo:=by rw[←ac,←ho]
 obtain rfl:ab=no:=by first|omega|(rw[hno];simp;done)|(rw[hno];simp;omega)
 exact hQ _ _ (.o [2] rfl)
theorem Fj:Setup Tryz.prog ((3000003,E9 Tryz.prog 3000003)::Ru):=(Setup.mark 3000003 Q3)
theorem Jv{l:List ByteArray}{xl:List (List D)}{nl:Nat}{xf:List (List D)}(hl:l.map cS=xl)(hnl:nl=l.length)(hn:l.length<2^40)(hf:l.reverse.map cS=xf):Fn Tryz.prog 185 [.ref 0 0 nl] [.row 1 false xl] ⟨.tup [],[],[(0,.row 1 false xf)]⟩:=by
 refine Fn.goR Fj Tryz.func185 fun P hP Q hQ=>?_
 conv=>cbv
 refine .go fun v1 ay=>?_
 conv=>cbv
 refine .sub fun v2 az=>?_
 conv=>cbv
 refine LoopW.lp (κ:=Int×Int×(List (List D))) Fj hP [] [0] (fun(i2,i3,aa)=>[(2,I i2),(3,I i3)]) (fun(i2,i3,aa)=>[(0,.row 1 false aa)])
  (fun(i2,i3,aa)=>∃(w0:List ByteArray),w0.map cS=aa∧(w0.length=l.length∧0≤i2∧i2+i3=l.length - 1∧i2≤i3+1)∧∀k:Nat,k<l.length→w0[k]? =if(k:Int)<i2∨i3<k then l[l.length - 1 - k]? else l[k]?)
  (fun(i2,i3,aa)=>(i3 - i2+1).toNat) (0,v2,xl) ⟨l,hl,⟨rfl,by omega,by omega,by omega⟩,fun k hk=>by rw[if_neg (by omega)]⟩ ⟨rfl,rfl,trivial⟩ rfl ?_
 rintro⟨i2,i3,aa⟩ J ⟨w0,ab,hb,hw⟩ hJ
 conv=>cbv
 refine .lss (fun h3=>?_) fun h3=>?_
 conv=>cbv
 refine .go i3.toNat fun p4 ag ao=>?_
 conv=>cbv
 refine .go ab fun ap e5 ah=>?_
 conv=>cbv
 refine .go i2.toNat fun p6 ai aq=>?_
 conv=>cbv
 refine .go ab fun ar e7 aj=>?_
 conv=>cbv
 refine .go i2.toNat fun p8 ak au=>?_
 conv=>cbv
 refine .all (e5) ab rfl fun z9 al=>?_
 conv=>cbv
 refine .go i3.toNat fun a1 ac am=>?_
 conv=>cbv
 have hls:(w0.set p8 e5).length=w0.length:=List.length_set
 refine .all (e7) al rfl fun an ad=>?_
 conv=>cbv
 refine .go2 (by kernel_rfl) ?_
 conv=>cbv
 refine .add fun ae aw=>?_
 conv=>cbv
 refine .sub fun af ax=>?_
 conv=>cbv
 subst ak ac
 exact .go [] (ae,af,an) (hJ _ ⟨_,ad,⟨by rw[List.length_set,List.length_set];exact hb.1,by omega,by omega,by omega⟩,by have:=Xk6 hb.1 (by omega) hb.2.2.1 h3 hw (a:=e5) (b:=e7) (by subst ag;rw[ah];exact List.getElem?_eq_getElem _) (by subst ai;rw[aj];exact List.getElem?_eq_getElem _);rw[show ae=i2+1 by omega,show af=i3 - 1 by omega];exact this⟩ mlt)
 conv=>cbv
 have e:=Xl9 hb.1 hb.2.2.1 (by omega) hw
 subst e
 obtain rfl:aa=xf:=by rw[←ab,←hf]
 exact hQ _ _ (.of [] (.inr rfl) rfl rfl rfl rfl)
theorem Ii:Setup Tryz.prog ((1000090,E9 Tryz.prog 1000090)::((1000054,E9 Tryz.prog 1000054)::Ru)):=(Setup.mark 1000090 (Setup.mark 1000054 Q3))
theorem XkO(Al:Af.map Bf=Bo)(Am:Ah.map Ac=Bn)(Aq:Ai.map Ac=Bm)(Ao:Ag.map cS=Bp)(hd:okD ⟨Af,Ah,Ai,Ag,Ap,An⟩)(hr:H9 (⟨Af,Ah,Ai,Ag,Ap,An⟩:Aa) version=o)(ho:o.map eOp=xo):Fn Tryz.prog 99 [.agg [.d (.row 3 Bo),.d (.row 2 Bn),.d (.row 2 Bm),.d (.row 1 Bp),I Ap,I An],I version] [] ⟨.d (.row 4 xo),[],[]⟩:=by
 refine Fn.go Ii Tryz.func99 fun P hP Q hQ=>?_
 conv=>cbv
 generalize bi:N9 (⟨Af,Ah,Ai,Ag,Ap,An⟩:Aa)=l1
 generalize bm:l1.map Xk0=d6
 refine .dd hP (XjA Al Am Aq Ao hd bi bm) ?_
 conv=>cbv
 refine .go bm fun v2 d7=>?_
 conv=>cbv
 refine LoopW.lp (κ:=Int×(List (List D))×Nat) Ii hP [2] [1,2,6,23,24] (fun(ai,a1,a2)=>[(5,.ref 3 0 a2),(25,I ai)]) (fun(ai,a1,a2)=>[(3,.row 4 false a1)])
  (fun(ai,a1,a2)=>∃(w3:List TOp),w3.map eOp=a1∧a2=w3.length∧0≤ai∧ai≤l1.length∧w3=(l1.take ai.toNat).flatMap fun x=>Gs (⟨Af,Ah,Ai,Ag,Ap,An⟩:Aa) x.base_)
  (fun(ai,a1,a2)=>(l1.length - ai).toNat) (0,[],0) ⟨[],rfl,rfl,by omega,by omega,by simp⟩ ⟨rfl,rfl,trivial⟩ rfl ?_
 rintro⟨ai,a1,a2⟩ J ⟨w3,b5,dq,h0,h1,hx⟩ hJ
 have b9:=Th bi
 have hwb:=XkE (fun x:T5=>R8 x.base_) hx
 conv=>cbv
 refine .lss (fun h3=>?_) fun h3=>?_
 conv=>cbv
 refine .goX ai.toNat bm fun ca ⟨aj,ci,⟨bn,⟨au,aw,ax,ay⟩,ap,aq,bj,bk⟩⟩ fe4 cw hfe4=>?_
 replace hfe4:[.sc (.int .i64 aj),.sc (.string ci),.sc (.bool bn),.sc (.int .i64 au),.sc (.int .i64 aw),.sc (.int .i64 ax),.sc (.int .i64 ay),.row 1 (ap.map cS),.row 1 (aq.map cI),.sc (.int .i64 bj),.sc (.bool bk)]=fe4:=hfe4
 generalize cj:ap.map cS=ck at hfe4
 generalize cm:aq.map cI=cn at hfe4
 subst hfe4
 conv=>cbv
 generalize b6:A4 aj=r5
 refine .dd hP (G6 b6) ?_
 conv=>cbv
 rcases co:Ft (⟨Af,Ah,Ai,Ag,Ap,An⟩:Aa) r5 with⟨⟨c7,c5,c6⟩,d8⟩
 refine .dd hP (XfW Al Am Aq Ao hd co) ?_
 conv=>cbv
 refine .go fun v7 cx=>?_
 conv=>cbv
 refine .neq (fun h8=>?_) fun h8=>?_
 conv=>cbv
 generalize a6:A4 aj=r9
 refine .dd hP (G6 a6) ?_
 conv=>cbv
 refine .one (⟨4,r9,tx [],tx []⟩:TOp) b5 rfl fun a7 bo bp a8=>?_
 conv=>cbv
 refine .add fun ao cb=>?_
 conv=>cbv
 have hso:Gs (⟨Af,Ah,Ai,Ag,Ap,An⟩:Aa) aj=[⟨4,r9,tx [],tx []⟩]:=by unfold Gs;rw[b6,co,←a6,b6,if_neg (by rw[←cx];exact h8)]
 exact .go [9] (ao,bo,a7) (hJ _ ⟨_,a8,Ic,by omega,by omega,by rw[show ao.toNat=ai.toNat+1 by omega,Pg ca,←hx,←cw];simp only[];rw[hso]⟩ mlt)
 conv=>cbv
 refine .add fun v9 c8=>?_
 conv=>cbv
 have hso:Gs (⟨Af,Ah,Ai,Ag,Ap,An⟩:Aa) aj=[]:=by unfold Gs;rw[b6,co,if_pos (by rw[←cx];exact h8)]
 exact .go [3] (v9,a1,a2) (hJ _ ⟨_,b5,Ic,by omega,by omega,by rw[show v9.toNat=ai.toNat+1 by omega,Pg ca,←hx,←cw];simp only[];rw[hso,List.append_nil]⟩ mlt)
 conv=>cbv
 have hS:w3=(Fo (⟨Af,Ah,Ai,Ag,Ap,An⟩:Aa)).flatMap (Gs (⟨Af,Ah,Ai,Ag,Ap,An⟩:Aa)):=by rw[hx,List.take_of_length_le (by omega),←Sk (fun x=>Gs (⟨Af,Ah,Ai,Ag,Ap,An⟩:Aa) x.base_) _ fun x _ _=>rfl,bi]
 have d9:=XkE (fun x:T5=>R8 x.base_) hx
 refine JoinW.jn (κ:=(List (List D))×Nat) Ii hP [3] [1,2,6] (fun(bq,bt)=>[(5,.ref 4 0 bt)]) (fun(bq,bt)=>[(4,.row 4 false bq)])
  (fun(bq,bt)=>∃(w4:List TOp),w4.map eOp=bq∧bt=w4.length∧w4=Xbc (⟨Af,Ah,Ai,Ag,Ap,An⟩:Aa)∧w4.length≤17) (fun Jj1 hJj1=>?_) ?_
 conv=>cbv
 refine .go Ao fun v4 cy=>?_
 conv=>cbv
 refine .gtr (fun h5=>?_) fun h5=>?_
 conv=>cbv
 refine .one (⟨6,tx [],tx [],tx []⟩:TOp) b5 rfl fun c9 z6 dr da=>?_
 conv=>cbv
 exact .go [6] (z6,c9) (hJj1 _ ⟨_,da,Ic,by unfold Xbc;rw[←hS,if_neg (by intro e;rw[show Ag=[]from e]at cy;simp at cy;omega)],by simp;omega⟩)
 conv=>cbv
 exact .go [4] (a1,a2) (hJj1 _ ⟨_,b5,Ic,by unfold Xbc;rw[←hS,if_pos (List.eq_nil_of_length_eq_zero (show Ag.length=0 by omega)),List.append_nil],by omega⟩)
 rintro⟨bq,bt⟩ ⟨w4,db,ds,hA,hAl⟩
 conv=>cbv
 have dc:=b9
 generalize bu:Cc (⟨Af,Ah,Ai,Ag,Ap,An⟩:Aa)=l4
 generalize cp:l4.map cS=ea
 refine .dd hP (XbE Al Am Aq Ao hd bu cp) ?_
 conv=>cbv
 refine .go cp fun v5 eb=>?_
 conv=>cbv
 refine LoopW.lp (κ:=Int×(List (List D))×Nat×(List (List D))×Nat) Ii hP [5,6] [1,5,6,62,63] (fun(i64,ba,bb,bc,bd)=>[(11,.ref 7 0 bb),(12,.ref 8 0 bd),(64,I i64)]) (fun(i64,ba,bb,bc,bd)=>[(7,.row 1 false ba),(8,.row 1 false bc)])
  (fun(i64,ba,bb,bc,bd)=>∃(w7:List ByteArray) (w8:List ByteArray),w7.map cS=ba∧bb=w7.length∧w8.map cS=bc∧bd=w8.length∧(0≤i64∧i64≤l4.length)∧w7=(l4.take i64.toNat).filter Hd∧w8=(l4.take i64.toNat).filter (fun n=>!Hd n)∧w7.length+w8.length≤i64)
  (fun(i64,ba,bb,bc,bd)=>(l4.length - i64).toNat) (0,[],0,[],0) ⟨[],[],rfl,rfl,rfl,rfl,by omega,rfl,rfl,by simp⟩ ⟨rfl,rfl,rfl,trivial⟩ rfl ?_
 rintro⟨i64,ba,bb,bc,bd⟩ J2 ⟨w7,w8,b7,dt,cq,du,h0,hwt,hwu,hwl⟩ cz
 have de:=XaI hd bu
 conv=>cbv
 refine .lss (fun h6=>?_) fun h6=>?_
 conv=>cbv
 refine .go i64.toNat cp fun bg e7 bv=>?_
 conv=>cbv
 have hsz7:=XaW hd bu e7 (bv▸List.getElem_mem _)
 rcases cr:Bv e7 with⟨ec,ed⟩
 refine .dd hP (Xal (by omega) cr) ?_
 conv=>cbv
 refine .eql (fun h9=>?_) fun h9=>?_
 conv=>cbv
 refine .one e7 b7 rfl fun a7 bo bp a8=>?_
 conv=>cbv
 refine .add fun ao cb=>?_
 conv=>cbv
 have hte:Hd e7=true:=by unfold Hd;rw[cr];exact decide_eq_true h9
 exact .go [10,8] (ao,bo,a7,bc,bd) (cz _ ⟨_,_,a8,Ic,cq,Ic,by omega,by rw[show ao.toNat=i64.toNat+1 by omega,Dv bg,←hwt,←bv,hte];simp,by rw[show ao.toNat=i64.toNat+1 by omega,Dv bg,←hwu,←bv,hte];simp,by simp;omega⟩ mlt)
 conv=>cbv
 refine .one e7 cq rfl fun a7 bo bp a8=>?_
 conv=>cbv
 refine .add fun ao cb=>?_
 conv=>cbv
 have hte:Hd e7=false:=by unfold Hd;rw[cr];exact decide_eq_false h9
 exact .go [7,10] (ao,ba,bb,bo,a7) (cz _ ⟨_,_,b7,Ic,a8,Ic,by omega,by rw[show ao.toNat=i64.toNat+1 by omega,Dv bg,←hwt,←bv,hte];simp,by rw[show ao.toNat=i64.toNat+1 by omega,Dv bg,←hwu,←bv,hte];simp,by simp;omega⟩ mlt)
 conv=>cbv
 have hT:w7=l4.filter Hd:=by rw[hwt,List.take_of_length_le (by omega)]
 have hU:w8=l4.filter (fun n=>!Hd n):=by rw[hwu,List.take_of_length_le (by omega)]
 have hTl:=List.length_filter_le Hd l4
 have hUl:=List.length_filter_le (fun n=>!Hd n) l4
 rw[←hT]at hTl
 rw[←hU]at hUl
 generalize ct:Fv w7=l7
 generalize cu:l7.map eOp=ee
 obtain⟨nl7,hnl7⟩:∃m,m=l7.length:=⟨_,rfl⟩
 refine .lntR hP (Ys b7 (by omega) ct cu hnl7) (.ref rfl (by rw[←b7,List.length_map];first|omega|(simp;omega)) .nil) (cu▸Ff (fun _=>rfl) l7) ?_
 conv=>cbv
 have hrl7:l7.length≤w7.length+1:=by rw[←ct];exact Nq
 refine .sub (m:=l7) db cu fun df z8 dv dg=>?_
 conv=>cbv
 refine JoinW.jn (κ:=Int) Ii hP [] [5,6,12] (fun i1=>[(1,I i1)]) (fun i1=>[])
  (fun i1=>i1=Yf version∧0≤i1∧i1≤2) (fun Jj3 hJj3=>?_) ?_
 conv=>cbv
 generalize a6:C4 version=r9
 refine .dd hP (K5 a6) ?_
 cases r9
 simp only[C4,decide_eq_true_eq,decide_eq_false_iff_not]at a6
 conv=>cbv
 exact .go [] (0) (hJj3 _ ⟨by unfold Yf;rw[if_neg a6],by omega,by omega⟩)
 simp only[C4,decide_eq_true_eq,decide_eq_false_iff_not]at a6
 conv=>cbv
 exact .go [] (version) (hJj3 _ ⟨by unfold Yf;rw[if_pos a6],by omega,by omega⟩)
 rintro i1 ⟨hV,hV0,hV2⟩
 conv=>cbv
 refine .go bm fun v9 c8=>?_
 conv=>cbv
 refine LoopW.lp (κ:=Int×(List (List D))×Nat) Ii hP [10] [1,12,91,92] (fun(ah,ak,al)=>[(5,.ref 11 0 al),(93,I ah)]) (fun(ah,ak,al)=>[(11,.row 4 false ak)])
  (fun(ah,ak,al)=>∃(be:List TOp),be.map eOp=ak∧al=be.length∧(0≤ah∧ah≤l1.length)∧be=w4++l7++((l1.take ah.toNat).flatMap fun x=>Fg (⟨Af,Ah,Ai,Ag,Ap,An⟩:Aa) i1 x.base_)∧be.length≤w4.length+l7.length+5*ah)
  (fun(ah,ak,al)=>(l1.length - ah).toNat) (0,z8,df) ⟨(w4++l7),dg,(by first|omega|(simp;omega)),by omega,by simp,by simp⟩ ⟨rfl,rfl,trivial⟩ rfl ?_
 rintro⟨ah,ak,al⟩ J4 ⟨be,bw,dh,h0,hx,hxl⟩ c0
 have b9:=Th bi
 have de:=XaI hd bu
 conv=>cbv
 refine .lss (fun h10=>?_) fun h10=>?_
 conv=>cbv
 refine .goX ah.toNat bm fun bz ⟨ag,az,⟨ar,⟨aa,ab,ac,ad⟩,ae,af,am,an⟩⟩ fe11 b0 hfe11=>?_
 replace hfe11:[.sc (.int .i64 ag),.sc (.string az),.sc (.bool ar),.sc (.int .i64 aa),.sc (.int .i64 ab),.sc (.int .i64 ac),.sc (.int .i64 ad),.row 1 (ae.map cS),.row 1 (af.map cI),.sc (.int .i64 am),.sc (.bool an)]=fe11:=hfe11
 generalize cc:ae.map cS=cd at hfe11
 generalize ce:af.map cI=cf at hfe11
 subst hfe11
 conv=>cbv
 have hm:=Z1 bi (x:=⟨ag,az,⟨ar,⟨aa,ab,ac,ad⟩,ae,af,am,an⟩⟩) (by rw[b0];exact List.getElem_mem _)
 obtain⟨b8,di,s9,dj⟩:=hm
 simp only[]at b8 di dj
 have hz:=Ps hd b8.symm
 generalize bh:C3 az i1=dk
 have zr12:=Rl bh
 refine .dd hP (Xhf (by omega) bh) ?_
 conv=>cbv
 refine .neq (fun h13=>?_) fun h13=>?_
 conv=>cbv
 generalize b2:Gi ag dk=cv
 generalize cg:cv.map eOp=dw
 refine .dd hP (Xhv b2 cg) ?_
 conv=>cbv
 have dl:cv.length=5:=by rw[←b2];rfl
 refine .row bw cg fun c1 dm dn c2=>?_
 conv=>cbv
 refine .add fun c3 dx=>?_
 conv=>cbv
 have hfo:Fg (⟨Af,Ah,Ai,Ag,Ap,An⟩:Aa) i1 ag=cv:=by unfold Fg;rw[←b8,bh,if_neg h13,b2]
 exact .go [15] (c3,dm,c1) (c0 _ ⟨_,c2,Ic,by omega,by rw[show c3.toNat=ah.toNat+1 by omega,Pg bz,←List.append_assoc,←hx,←b0];simp only[];rw[hfo],by rw[List.length_append];omega⟩ mlt)
 conv=>cbv
 refine .add fun c4 dy=>?_
 conv=>cbv
 have hfo:Fg (⟨Af,Ah,Ai,Ag,Ap,An⟩:Aa) i1 ag=[]:=by unfold Fg;rw[←b8,bh,if_pos h13]
 exact .go [11] (c4,ak,al) (c0 _ ⟨_,bw,Ic,by omega,by rw[show c4.toNat=ah.toNat+1 by omega,Pg bz,←List.append_assoc,←hx,←b0];simp only[];rw[hfo,List.append_nil],by omega⟩ mlt)
 conv=>cbv
 have hrv:w8.reverse.length=w8.length:=List.length_reverse
 generalize bf:(w8.reverse).map cS=dz
 refine .bx [8] [] hP (Jv cq (by first|rfl|omega|(simp;omega)) (by omega) bf) rfl rfl rfl rfl ?_
 conv=>cbv
 generalize b3:Fv (w8.reverse)=bl
 generalize b4:bl.map eOp=d0
 obtain⟨nl13,hnl13⟩:∃m,m=bl.length:=⟨_,rfl⟩
 refine .lntR hP (Ys bf (by omega) b3 b4 hnl13) (.ref rfl (by rw[←bf,List.length_map];first|omega|(simp;omega)) .nil) (b4▸Ff (fun _=>rfl) bl) ?_
 conv=>cbv
 have hrl13:bl.length≤w8.length+1:=by rw[←b3];have:=Nq (l:=w8.reverse);rw[List.length_reverse]at this;exact this
 have hF:be=w4++l7++(Fo (⟨Af,Ah,Ai,Ag,Ap,An⟩:Aa)).flatMap (Fg (⟨Af,Ah,Ai,Ag,Ap,An⟩:Aa) i1):=by rw[hx,List.take_of_length_le (by omega),←Sk (fun x=>Fg (⟨Af,Ah,Ai,Ag,Ap,An⟩:Aa) i1 x.base_) _ fun x _ _=>rfl,bi]
 refine .sub (m:=bl) bw b4 fun d5 ef dp ch=>?_
 conv=>cbv
 have e:(be++bl)=H9 (⟨Af,Ah,Ai,Ag,Ap,An⟩:Aa) version:=(by unfold H9 XaZ;rw[hF,hA,←ct,←b3,hT,hU,hV,bu])
 rw[hr]at e
 subst e
 exact hQ _ _ (.r rfl rfl (by rw[←ch,List.length_map];first|omega|(simp;omega)) (by rw[←ch,←ho]))
theorem Xhq{α:Type}{p:α→Bool}{l:List α}{i:Int}(h0:0≤i)(hi:i.toNat<l.length):(l.drop (i - 1+1).toNat).reverse.filter p=(l.drop (i+1).toNat).reverse.filter p++(if p l[i.toNat]then[l[i.toNat]]else[]):=by
 rw[show(i - 1+1).toNat=i.toNat by omega,show(i+1).toNat=i.toNat+1 by omega,List.drop_eq_getElem_cons hi,List.reverse_cons,List.filter_append,List.filter_cons,List.filter_nil]
theorem Wl{l:List ByteArray}(h:false= !l.isEmpty):Fv l=l.map Nm:=by
 have:l=[]:=by cases l with
  |nil=>rfl
  |cons=>cases h
 subst this
 rfl
theorem Ut{l:List ByteArray}(h:true= !l.isEmpty):Fv l=l.map Nm++[⟨6,tx [],tx [],tx []⟩]:=by
 unfold Fv
 rw[if_neg]
 rintro rfl
 cases h
theorem XiU{d:Aa}{l:List ByteArray}{n:ByteArray}(e:Cc d=l)(hn:n∈l):(Bv n).1=1↔Hd n=false:=by
 have:=Z3 e n hn
 unfold Hd
 rw[decide_eq_false_iff_not]
 omega
theorem F1:Setup Tryz.prog ((1000095,E9 Tryz.prog 1000095)::((1000088,E9 Tryz.prog 1000088)::((1000057,E9 Tryz.prog 1000057)::Ru))):=(Setup.mark 1000095 (Setup.mark 1000088 (Setup.mark 1000057 Q3)))
theorem Xlg(Al:Af.map Bf=Bo)(Am:Ah.map Ac=Bn)(Aq:Ai.map Ac=Bm)(Ao:Ag.map cS=Bp)(hd:okD ⟨Af,Ah,Ai,Ag,Ap,An⟩)(hr:H9 (⟨Af,Ah,Ai,Ag,Ap,An⟩:Aa) version=o)(ho:o.map eOp=xo):Fn Tryz.prog 108 [.agg [.d (.row 3 Bo),.d (.row 2 Bn),.d (.row 2 Bm),.d (.row 1 Bp),I Ap,I An],I version] [] ⟨.d (.row 4 xo),[],[]⟩:=by
 refine Fn.go F1 Tryz.func108 fun P hP Q hQ=>?_
 conv=>cbv
 generalize aw:Fo (⟨Af,Ah,Ai,Ag,Ap,An⟩:Aa)=l1
 generalize ax:l1.map cI=d9
 refine .dd hP (Xin Al Am Aq Ao hd aw ax) ?_
 conv=>cbv
 refine LoopW.lp (κ:=Int×(List (List D))×Nat) F1 hP [2] [1,2,6] (fun(i7,af,ag)=>[(5,.ref 3 0 ag),(7,I i7)]) (fun(i7,af,ag)=>[(3,.row 4 false af)])
  (fun(i7,af,ag)=>∃(w3:List TOp),w3.map eOp=af∧ag=w3.length∧0≤i7∧i7≤l1.length∧w3=(l1.take i7.toNat).flatMap (Gs (⟨Af,Ah,Ai,Ag,Ap,An⟩:Aa)))
  (fun(i7,af,ag)=>(l1.length - i7).toNat) (0,[],0) ⟨[],rfl,rfl,by omega,by omega,by simp⟩ ⟨rfl,rfl,trivial⟩ rfl ?_
 rintro⟨i7,af,ag⟩ J ⟨w3,bf,dl,h0,h1,hx⟩ hJ
 have bh:=M1 aw
 have hwb:=XkE (fun x=>R8 x) hx
 conv=>cbv
 refine .go ax fun v2 ea=>?_
 conv=>cbv
 refine .lss (fun h3=>?_) fun h3=>?_
 conv=>cbv
 refine .go i7.toNat ax fun bi e4 b6=>?_
 conv=>cbv
 generalize bo:A4 e4=r5
 refine .dd hP (I0 bo) ?_
 conv=>cbv
 rcases bp:Ft (⟨Af,Ah,Ai,Ag,Ap,An⟩:Aa) r5 with⟨⟨cv,ct,cu⟩,eb⟩
 refine .dd hP (Xf9 Al Am Aq Ao hd bp) ?_
 conv=>cbv
 refine .go fun v7 bq=>?_
 conv=>cbv
 refine .neq (fun h8=>?_) fun h8=>?_
 conv=>cbv
 refine .one (⟨4,r5,tx [],tx []⟩:TOp) bf rfl fun cw z9 dm cx=>?_
 conv=>cbv
 refine .add fun ah bj=>?_
 conv=>cbv
 have hso:Gs (⟨Af,Ah,Ai,Ag,Ap,An⟩:Aa) e4=[⟨4,r5,tx [],tx []⟩]:=by unfold Gs;rw[bo,bp,if_neg (by rw[←bq];exact h8)]
 exact .go [6] (ah,z9,cw) (hJ _ ⟨_,cx,Ic,by omega,by omega,by rw[show ah.toNat=i7.toNat+1 by omega,Pg bi,←hx,←b6,hso]⟩ mlt)
 conv=>cbv
 refine .add fun v9 cy=>?_
 conv=>cbv
 have hso:Gs (⟨Af,Ah,Ai,Ag,Ap,An⟩:Aa) e4=[]:=by unfold Gs;rw[bo,bp,if_pos (by rw[←bq];exact h8)]
 exact .go [3] (v9,af,ag) (hJ _ ⟨_,bf,Ic,by omega,by omega,by rw[show v9.toNat=i7.toNat+1 by omega,Pg bi,←hx,←b6,hso,List.append_nil]⟩ mlt)
 conv=>cbv
 have hS:w3=(Fo (⟨Af,Ah,Ai,Ag,Ap,An⟩:Aa)).flatMap (Gs (⟨Af,Ah,Ai,Ag,Ap,An⟩:Aa)):=by rw[hx,List.take_of_length_le (by omega),aw]
 have ec:=XkE (fun x=>R8 x) hx
 refine JoinW.jn (κ:=(List (List D))×Nat) F1 hP [3] [1,2,6] (fun(ay,az)=>[(5,.ref 4 0 az)]) (fun(ay,az)=>[(4,.row 4 false ay)])
  (fun(ay,az)=>∃(w4:List TOp),w4.map eOp=ay∧az=w4.length∧w4=Xbc (⟨Af,Ah,Ai,Ag,Ap,An⟩:Aa)∧w4.length≤17) (fun Jj1 hJj1=>?_) ?_
 conv=>cbv
 refine .go Ao fun v4 b7=>?_
 conv=>cbv
 refine .gtr (fun h5=>?_) fun h5=>?_
 conv=>cbv
 refine .one (⟨6,tx [],tx [],tx []⟩:TOp) bf rfl fun cz z6 dn c0=>?_
 conv=>cbv
 exact .go [6] (z6,cz) (hJj1 _ ⟨_,c0,Ic,by unfold Xbc;rw[←hS,if_neg (by intro e;rw[show Ag=[]from e]at b7;simp at b7;omega)],by simp;omega⟩)
 conv=>cbv
 exact .go [4] (af,ag) (hJj1 _ ⟨_,bf,Ic,by unfold Xbc;rw[←hS,if_pos (List.eq_nil_of_length_eq_zero (show Ag.length=0 by omega)),List.append_nil],by omega⟩)
 rintro⟨ay,az⟩ ⟨w4,c1,dp,hA,hAl⟩
 conv=>cbv
 have c2:=bh
 generalize ad:Cc (⟨Af,Ah,Ai,Ag,Ap,An⟩:Aa)=l4
 generalize an:l4.map cS=ed
 refine .dd hP (XdK Al Am Aq Ao hd ad an) ?_
 conv=>cbv
 refine LoopW.lp (κ:=Bool×Int×(List (List D))×Nat) F1 hP [4] [1,2,6,11] (fun(ae,ab,ai,aj)=>[(5,.ref 5 0 aj),(12,B ae),(13,I ab)]) (fun(ae,ab,ai,aj)=>[(5,.row 4 false ai)])
  (fun(ae,ab,ai,aj)=>∃(w5:List TOp),w5.map eOp=ai∧aj=w5.length∧(0≤ab∧ab≤l4.length)∧w5=w4++((l4.take ab.toNat).filter Hd).map Nm∧ae= !((l4.take ab.toNat).filter Hd).isEmpty∧w5.length≤w4.length+ab)
  (fun(ae,ab,ai,aj)=>(l4.length - ab).toNat) (false,0,ay,az) ⟨w4,c1,(by first|omega|(simp;omega)),by omega,by simp,rfl,by simp⟩ ⟨rfl,rfl,rfl,trivial⟩ rfl ?_
 rintro⟨ae,ab,ai,aj⟩ J2 ⟨w5,bg,dq,h0,hwt,hwb,hwl⟩ b8
 have b9:=XaI hd ad
 conv=>cbv
 refine .go an fun v5 ee=>?_
 conv=>cbv
 refine .lss (fun h6=>?_) fun h6=>?_
 conv=>cbv
 refine .go ab.toNat an fun aq e7 a1=>?_
 conv=>cbv
 have hsz7:=XaW hd ad e7 (a1▸List.getElem_mem _)
 rcases bt:Bv e7 with⟨ef,eg⟩
 refine .dd hP (Tg (by omega) bt) ?_
 conv=>cbv
 refine .eql (fun h9=>?_) fun h9=>?_
 conv=>cbv
 refine .go ab.toNat an fun c3 bu ca=>?_
 conv=>cbv
 have cb:bu=e7:=ca.trans a1.symm
 subst cb
 refine .one (⟨1,bu,tx [],tx []⟩:TOp) bg rfl fun cc c4 c5 cd=>?_
 conv=>cbv
 refine .add fun bv dr=>?_
 conv=>cbv
 have hte:Hd bu=true:=by unfold Hd;rw[bt];exact decide_eq_true h9
 exact .go [7] (true,bv,c4,cc) (b8 _ ⟨_,cd,Ic,by omega,by rw[show bv.toNat=ab.toNat+1 by omega,Dv aq,←a1,hte,hwt];simp;rfl,by rw[show bv.toNat=ab.toNat+1 by omega,Dv aq,←a1,hte];simp,by simp;omega⟩ mlt)
 conv=>cbv
 refine .add fun ah bj=>?_
 conv=>cbv
 have hte:Hd e7=false:=by unfold Hd;rw[bt];exact decide_eq_false h9
 exact .go [5] (ae,ah,ai,aj) (b8 _ ⟨_,bg,Ic,by omega,by rw[show ah.toNat=ab.toNat+1 by omega,Dv aq,←a1,hte,hwt];simp,by rw[show ah.toNat=ab.toNat+1 by omega,Dv aq,←a1,hte,hwb];simp,by omega⟩ mlt)
 conv=>cbv
 have hT:w5=w4++(l4.filter Hd).map Nm:=by rw[hwt,List.take_of_length_le (by omega)]
 have hT2:ae= !(l4.filter Hd).isEmpty:=by rw[hwb,List.take_of_length_le (by omega)]
 have ds:=b9
 refine JoinW.jn (κ:=(List (List D))×Nat) F1 hP [5] [1,2,6,11] (fun(a2,a6)=>[(5,.ref 6 0 a6)]) (fun(a2,a6)=>[(6,.row 4 false a2)])
  (fun(a2,a6)=>∃(w6:List TOp),w6.map eOp=a2∧a6=w6.length∧w6=w4++XaZ (⟨Af,Ah,Ai,Ag,Ap,An⟩:Aa)∧w6.length≤1073741900) (fun Jj3 hJj3=>?_) ?_
 conv=>cbv
 cases ae
 conv=>cbv
 exact .go [6] (ai,aj) (hJj3 _ ⟨_,bg,Ic,by unfold XaZ;rw[ad,Wl hT2];exact hT,by omega⟩)
 conv=>cbv
 refine .one (⟨6,tx [],tx [],tx []⟩:TOp) bg rfl fun c6 z7 dt c7=>?_
 conv=>cbv
 exact .go [8] (z7,c6) (hJj3 _ ⟨_,c7,Ic,by unfold XaZ;rw[ad,Ut hT2,←List.append_assoc,←hT],by simp;omega⟩)
 rintro⟨a2,a6⟩ ⟨w6,c8,du,hB,hBl⟩
 conv=>cbv
 refine JoinW.jn (κ:=Int) F1 hP [] [2,5,6,11] (fun i1=>[(1,I i1)]) (fun i1=>[])
  (fun i1=>i1=Yf version∧0≤i1∧i1≤2) (fun Jj4 hJj4=>?_) ?_
 conv=>cbv
 generalize bw:Bi version 1 2=r7
 refine .dd hP (Dt bw) ?_
 cases r7
 simp only[Bi,decide_eq_true_eq,decide_eq_false_iff_not]at bw
 conv=>cbv
 exact .go [] (0) (hJj4 _ ⟨by unfold Yf;rw[if_neg (by omega)],by omega,by omega⟩)
 simp only[Bi,decide_eq_true_eq,decide_eq_false_iff_not]at bw
 conv=>cbv
 exact .go [] (version) (hJj4 _ ⟨by unfold Yf;rw[if_pos (by omega)],by omega,by omega⟩)
 rintro i1 ⟨hV,hV0,hV2⟩
 conv=>cbv
 refine LoopW.lp (κ:=Int×(List (List D))×Nat) F1 hP [6] [1,2,6,11] (fun(ac,ak,al)=>[(5,.ref 7 0 al),(16,I ac)]) (fun(ac,ak,al)=>[(7,.row 4 false ak)])
  (fun(ac,ak,al)=>∃(w7:List TOp),w7.map eOp=ak∧al=w7.length∧(0≤ac∧ac≤l1.length)∧w7=w6++(l1.take ac.toNat).flatMap (Fg (⟨Af,Ah,Ai,Ag,Ap,An⟩:Aa) i1)∧w7.length≤w6.length+5*ac)
  (fun(ac,ak,al)=>(l1.length - ac).toNat) (0,a2,a6) ⟨w6,c8,(by first|omega|(simp;omega)),by omega,by simp,by simp⟩ ⟨rfl,rfl,trivial⟩ rfl ?_
 rintro⟨ac,ak,al⟩ J5 ⟨w7,bz,dv,h0,hx,hxl⟩ ce
 have bh:=M1 aw
 conv=>cbv
 refine .go ax fun v7 bq=>?_
 conv=>cbv
 refine .lss (fun h8=>?_) fun h8=>?_
 conv=>cbv
 refine .go ac.toNat ax fun bk e9 b0=>?_
 conv=>cbv
 generalize ar:Du (⟨Af,Ah,Ai,Ag,Ap,An⟩:Aa) e9=c9
 refine .dd hP (XfU Al Am Aq Ao hd ar) ?_
 conv=>cbv
 have eh:=Ps hd ar
 generalize au:C3 c9 i1=da
 have zr11:=Rl au
 refine .dd hP (Xg7 (by omega) au) ?_
 conv=>cbv
 refine .neq (fun h12=>?_) fun h12=>?_
 conv=>cbv
 refine .go ac.toNat ax fun db b2 cf=>?_
 conv=>cbv
 have cg:b2=e9:=cf.trans b0.symm
 subst cg
 generalize a7:Gi b2 da=b3
 generalize bl:b3.map eOp=dw
 refine .dd hP (Xhk a7 bl) ?_
 conv=>cbv
 have dc:b3.length=5:=by rw[←a7];rfl
 refine .row bz bl fun ch de df ci=>?_
 conv=>cbv
 refine .add fun cj dx=>?_
 conv=>cbv
 have hfo:Fg (⟨Af,Ah,Ai,Ag,Ap,An⟩:Aa) i1 b2=b3:=by unfold Fg;rw[ar,au,if_neg h12,a7]
 exact .go [8] (cj,de,ch) (ce _ ⟨_,ci,Ic,by omega,by rw[show cj.toNat=ac.toNat+1 by omega,Pg bk,←List.append_assoc,←hx,←b0,hfo],by rw[List.length_append];omega⟩ mlt)
 conv=>cbv
 refine .add fun ck dy=>?_
 conv=>cbv
 have hfo:Fg (⟨Af,Ah,Ai,Ag,Ap,An⟩:Aa) i1 e9=[]:=by unfold Fg;rw[ar,au,if_pos h12]
 exact .go [7] (ck,ak,al) (ce _ ⟨_,bz,Ic,by omega,by rw[show ck.toNat=ac.toNat+1 by omega,Pg bk,←List.append_assoc,←hx,←b0,hfo,List.append_nil],by omega⟩ mlt)
 conv=>cbv
 refine .go an fun v9 cy=>?_
 conv=>cbv
 refine .sub fun ah bj=>?_
 conv=>cbv
 refine LoopW.lp (κ:=Bool×Int×(List (List D))×Nat) F1 hP [7] [11] (fun(am,aa,ao,ap)=>[(5,.ref 8 0 ap),(19,B am),(20,I aa)]) (fun(am,aa,ao,ap)=>[(8,.row 4 false ao)])
  (fun(am,aa,ao,ap)=>∃(w8:List TOp),w8.map eOp=ao∧ap=w8.length∧(-1≤aa∧aa<l4.length)∧w8=w7++((l4.drop (aa+1).toNat).reverse.filter (fun n=>!Hd n)).map Nm∧am= !((l4.drop (aa+1).toNat).reverse.filter (fun n=>!Hd n)).isEmpty∧w8.length≤w7.length+(l4.length - 1 - aa))
  (fun(am,aa,ao,ap)=>(aa+1).toNat) (false,ah,ak,al) ⟨w7,bz,(by first|omega|(simp;omega)),by omega,by rw[List.drop_of_length_le (by omega)];simp,by rw[List.drop_of_length_le (by omega)];rfl,by omega⟩ ⟨rfl,rfl,rfl,trivial⟩ rfl ?_
 rintro⟨am,aa,ao,ap⟩ J6 ⟨w8,a8,dz,h0,hwv,hwc,hwl2⟩ cm
 have b9:=XaI hd ad
 conv=>cbv
 refine .geq (fun h11=>?_) fun h11=>?_
 conv=>cbv
 refine .go aa.toNat an fun dg ba bb=>?_
 conv=>cbv
 have bm:ba∈l4:=bb▸List.getElem_mem _
 have hsz12:=XaW hd ad ba bm
 have hnt:=XiU ad bm
 have hrs:=Xhq (p:=(fun n=>!Hd n)) (l:=l4) (i:=aa) (by omega) (by omega)
 rw[←bb]at hrs
 rcases bc:Bv ba with⟨d0,d5⟩
 refine .dd hP (Tg (by omega) bc) ?_
 conv=>cbv
 refine .eql (fun h14=>?_) fun h14=>?_
 conv=>cbv
 refine .go aa.toNat an fun dh b4 cn=>?_
 conv=>cbv
 have b5:b4=ba:=cn.trans bb.symm
 subst b5
 refine .one (⟨1,b4,tx [],tx []⟩:TOp) a8 rfl fun co di dj cp=>?_
 conv=>cbv
 refine .sub fun cq d6=>?_
 conv=>cbv
 have hte:(!Hd b4)=true:=by rw[bc]at hnt;rw[hnt.1 h14];rfl
 rw[hte,if_pos rfl]at hrs
 have bd:cq=aa - 1:=by omega
 exact .go [10] (true,cq,di,co) (cm _ ⟨_,cp,Ic,by omega,by rw[bd,hrs,hwv];simp;rfl,by rw[bd,hrs];simp,by simp;omega⟩ mlt)
 conv=>cbv
 refine .sub fun cr d7=>?_
 conv=>cbv
 have hte:¬((!Hd ba)=true):=by intro hh;rw[bc]at hnt;exact h14 (hnt.2 (by simpa using hh))
 rw[if_neg hte,List.append_nil]at hrs
 have be:cr=aa - 1:=by omega
 exact .go [8] (am,cr,ao,ap) (cm _ ⟨_,a8,Ic,by omega,by rw[be,hrs,hwv],by rw[be,hrs,hwc],by omega⟩ mlt)
 conv=>cbv
 have hE:(l4.drop (aa+1).toNat).reverse.filter (fun n=>!Hd n)=(l4.filter (fun n=>!Hd n)).reverse:=by rw[show(aa+1).toNat=0 by omega,List.drop_zero,List.filter_reverse]
 rw[hE]at hwv hwc
 cases am
 conv=>cbv
 have hF:w7=w4++XaZ (⟨Af,Ah,Ai,Ag,Ap,An⟩:Aa)++(Fo (⟨Af,Ah,Ai,Ag,Ap,An⟩:Aa)).flatMap (Fg (⟨Af,Ah,Ai,Ag,Ap,An⟩:Aa) (Yf version)):=by rw[hx,List.take_of_length_le (by omega),aw,←hV,←hB]
 have e:w8=H9 (⟨Af,Ah,Ai,Ag,Ap,An⟩:Aa) version:=(by unfold H9;rw[ad,Wl hwc,←hA,←hF,hwv])
 rw[hr]at e
 subst e
 exact hQ _ _ (.r rfl rfl (by rw[←a8,List.length_map];first|omega|(simp;omega)) (by rw[←a8,←ho]))
 conv=>cbv
 refine .one (⟨6,tx [],tx [],tx []⟩:TOp) a8 rfl fun d8 ei dk bn=>?_
 conv=>cbv
 have hF:w7=w4++XaZ (⟨Af,Ah,Ai,Ag,Ap,An⟩:Aa)++(Fo (⟨Af,Ah,Ai,Ag,Ap,An⟩:Aa)).flatMap (Fg (⟨Af,Ah,Ai,Ag,Ap,An⟩:Aa) (Yf version)):=by rw[hx,List.take_of_length_le (by omega),aw,←hV,←hB]
 have e:(w8++[(⟨6,tx [],tx [],tx []⟩:TOp)])=H9 (⟨Af,Ah,Ai,Ag,Ap,An⟩:Aa) version:=(by unfold H9;rw[ad,Ut hwc,←hA,←hF,hwv,List.append_assoc])
 rw[hr]at e
 subst e
 exact hQ _ _ (.r rfl rfl (by rw[←bn,List.length_map];first|omega|(simp;omega)) (by rw[←bn,←ho]))
end
section
open Go Go.Proofs
def XbK:List (Nat×TyRow):=[ty3,ty5,ty9,XmM,Xgj]
theorem Xdm:B1 Tryz.prog XbK:=B1.of (by kernel_rfl)
theorem Su:Setup Tryz.prog XbK:=⟨Xdm,mixed⟩
def fig(x:Int):UInt8:=UInt8.ofNat (if x<10 then 48+x.toNat else 87+x.toNat)
def Fl(x:Int):Int:=(if x<10 then 48+x else 97+x - 10)% 256
theorem XjI{x:Int}(h:0≤x∧x<16):((fig x).toNat:Int)=Fl x:=by
 unfold fig Fl
 split
 ·rw[UInt8.toNat_ofNat',Nat.mod_eq_of_lt (by omega)];omega
 ·rw[UInt8.toNat_ofNat',Nat.mod_eq_of_lt (by omega)];omega
theorem Xgh{x r:Int}(hr:Fl x=r)(h:0≤x∧x<16):[D.sc (.int .u8 r)]=cB (fig x):=by
 show _=[D.sc (.int .u8 ((fig x).toNat:Int))]
 rw[XjI h,hr]
theorem fig10(n:Nat):fig ((n% 10:Nat):Int)=UInt8.ofNat (48+n% 10):=by
 unfold fig
 rw[if_pos (by omega),Int.toNat_natCast]
theorem Ir:∀(k u:Nat),u<10^ (k+1)→1≤(Lib.decDigits u).length∧(Lib.decDigits u).length≤k+1
 |0,u,h=>by rw[Lib.decDigits,dif_pos (by simpa using h)];simp
 |k+1,u,h=>by
  by_cases hn:u<10
  ·rw[Lib.decDigits,dif_pos hn];simp
  ·rw[Lib.decDigits,dif_neg hn]
   have:=Ir k (u/10) (by rw[Nat.pow_succ]at h;omega)
   simp;omega
def XiT(n:Nat):List UInt8:=if n=0 then[]else Lib.decDigits n
theorem S2{n:Nat}(h:n≠0):XiT n=XiT (n/10)++[fig ((n% 10:Nat):Int)]:=by
 unfold XiT
 rw[if_neg h,Lib.decDigits,fig10]
 split
 ·rw[if_pos (by omega),Nat.mod_eq_of_lt (by omega)];rfl
 ·rw[if_neg (by omega)]
theorem XfP{u:Nat}(h:u≤9223372036854775808):(XiT u).length≤19:=by
 unfold XiT
 split
 ·simp
 ·exact(Ir 18 u (by omega)).2
abbrev Xbj(n:Int):Prop:=-9223372036854775808≤n∧n≤9223372036854775807
def Ch(n:Int):ByteArray:=tx (Lib.itoa n)
def Xnw(n:Int):ByteArray:=Ch n
theorem Xjb(n:Int)(h:n≠0):Lib.itoa n=(if n<0 then[45]else[])++XiT n.natAbs:=by
 unfold Lib.itoa XiT
 rw[if_neg (show¬n.natAbs=0 by omega)]
 split
 ·rfl
 ·rw[show n.toNat=n.natAbs by omega];rfl
theorem Xj7{n:Int}(h:Xbj n):1≤(Lib.itoa n).length∧(Lib.itoa n).length≤20:=by
 unfold Xbj at h
 unfold Lib.itoa
 split
 ·have:=Ir 18 n.natAbs (by omega)
  simp;omega
 ·have:=Ir 18 n.toNat (by omega)
  omega
theorem Uc{n:Int}{o:ByteArray}(e:Ch n=o)(h:Xbj n):1≤o.size∧o.size≤20:=by
 rw[←e]
 unfold Ch
 rw[Bz]
 exact Xj7 h
theorem ArW.quoT{K:Int→Prop}{a:Int}(h:∀v,v=a.tdiv 10→K v)(hr: -9223372036854775808≤a∧a<9223372036854775808:=by omega):ArW .quo .i64 .i64 a 10 K:=by
 refine⟨a.tdiv 10,?_,h _ rfl⟩
 show(if(10:Int)=0 then none else some (Value.int .i64 (IntKind.i64.wrap (a.tdiv 10))))=_
 rw[if_neg (by decide),Pm]
 rcases Int.le_total 0 a with h0|h0
 ·rw[Int.tdiv_eq_ediv_of_nonneg h0];omega
 ·have:a.tdiv 10= -((-a)/10):=by rw[←Int.tdiv_eq_ediv_of_nonneg (by omega),Int.neg_tdiv];omega
  omega
theorem ArW.remT{K:Int→Prop}{k:IntKind}{a:Int}(h:∀v,v=a.tmod 10→K v):ArW .rem k k a 10 K:=by
 refine⟨a.tmod 10,?_,h _ rfl⟩
 show(if k=k then(if(10:Int)=0 then none else some (Value.int k (a.tmod 10)))else none)=_
 rw[if_pos rfl,if_neg (by decide)]
theorem Xnq{a:Int}{q:Nat}(h:a= -(q:Int)):a.tdiv 10= -((q/10:Nat):Int):=by
 subst h
 rw[Int.neg_tdiv,Int.tdiv_eq_ediv_of_nonneg (by omega)]
 omega
theorem Xnf{a:Int}{q:Nat}(h:a= -(q:Int)):a.tmod 10= -((q% 10:Nat):Int):=by
 subst h
 rw[Int.neg_tmod,Int.tmod_eq_emod_of_nonneg (by omega)]
 omega
theorem Xm0{a:Int}{q:Nat}(h:a=(q:Int)):a.tdiv 10=((q/10:Nat):Int):=by
 subst h
 rw[Int.tdiv_eq_ediv_of_nonneg (by omega)]
 omega
theorem Xnu{a:Int}{q:Nat}(h:a=(q:Int)):a.tmod 10=((q% 10:Nat):Int):=by
 subst h
 rw[Int.tmod_eq_emod_of_nonneg (by omega)]
 omega
variable {n:Int} {o:ByteArray}
theorem Yh(hn:Xbj n)(hr:Xnw n=o):Fn Tryz.prog 242 [I n] [] ⟨S o,[],[]⟩:=by
 refine⟨E8 Tryz.func242 rfl rfl,CallOk.ofCallsG fun E vs hS hG hA=>?_⟩
 obtain⟨u,rfl,h1⟩:=Xlb hA
 rw[Qj h1]
 have ht:=XmB hG
 refine(Tryz.strconv_Itoa n hn.1 hn.2 E.w ht).mono ?_
 rintro e w' ⟨rfl,k,os,rfl⟩
 exact⟨_,rfl,Lib.below_grow _ _ (Nat.le_refl _) k os,by rw[←hr];exact .sc _ rfl⟩
theorem N4{x:Int}{o:Int}(hx:0≤x∧x<16)(hr:Fl x=o):Fn Tryz.prog 189 [I x] [] ⟨.d (.sc (.int .u8 o)),[],[]⟩:=by
 refine Fn.go Su Tryz.func189 fun P hP Q hQ=>?_
 conv=>cbv
 refine .lss (fun h1=>?_) fun h1=>?_
 conv=>cbv
 refine .add fun v2 aa=>?_
 conv=>cbv
 refine .go fun v3 ab=>?_
 conv=>cbv
 have e:v3=Fl x:=(by rw[ab,Mi,aa];unfold Fl;rw[if_pos (by omega)])
 rw[hr]at e
 subst e
 exact hQ _ _ (.i rfl rfl)
 conv=>cbv
 refine .add fun v2 aa=>?_
 conv=>cbv
 refine .sub fun v3 ab=>?_
 conv=>cbv
 refine .go fun v4 ac=>?_
 conv=>cbv
 have e:v4=Fl x:=(by rw[ac,Mi,ab,aa];unfold Fl;rw[if_neg (by omega)])
 rw[hr]at e
 subst e
 exact hQ _ _ (.i rfl rfl)
theorem Xc7(hn:Xbj n)(hr:Ch n=o):Fn Tryz.prog 178 [I n] [] ⟨S o,[],[]⟩:=by
 refine Fn.go Su Tryz.func178 fun P hP Q hQ=>?_
 conv=>cbv
 generalize aa:Xnw n=r1
 refine .dd hP (Yh hn aa) ?_
 conv=>cbv
 have e:r1=Ch n:=(by exact aa.symm)
 rw[hr]at e
 subst e
 exact hQ _ _ (.s rfl rfl)
theorem XdJ(hn:Xbj n)(hr:Ch n=o):Fn Tryz.prog 101 [I n] [] ⟨S o,[],[]⟩:=by
 refine Fn.go Su Tryz.func101 fun P hP Q hQ=>?_
 conv=>cbv
 refine .eql (fun h1=>?_) fun h1=>?_
 conv=>cbv
 have e:(tx [48])=Ch n:=(by unfold Ch;rw[h1,show Lib.itoa 0=[48]by unfold Lib.itoa;rw[if_neg (by decide),Lib.decDigits];rfl])
 rw[hr]at e
 subst e
 exact hQ _ _ (.s rfl rfl)
 conv=>cbv
 refine .lss (fun h2=>?_) fun h2=>?_
 conv=>cbv
 refine LoopW.lp (κ:=Int×ByteArray) Su hP [] [3] (fun(i0,s4)=>[(0,I i0),(4,S s4)]) (fun(i0,s4)=>[])
  (fun(i0,s4)=>∃(q:Nat) (w:List UInt8),s4=tx w∧XiT n.natAbs=XiT q++w∧q≤n.natAbs∧(n<0→i0= -(q:Int))∧(0≤n→i0=(q:Int)))
  (fun(i0,s4)=>i0.natAbs) (n,tx []) ⟨n.natAbs,[],rfl,by simp,by omega,by omega,by omega⟩ ⟨rfl,rfl,trivial⟩ rfl ?_
 rintro⟨i0,s4⟩ J ⟨q,w,aa,hw,hq,hiN,hiP⟩ hJ
 have hwl:=congrArg List.length hw
 rw[List.length_append]at hwl
 have hdl:=XfP (u:=n.natAbs) (by unfold Xbj at hn;omega)
 have ai:s4.size=w.length:=by rw[aa,Bz]
 have et:(n<0→i0.tdiv 10= -((q/10:Nat):Int))∧(0≤n→i0.tdiv 10=((q/10:Nat):Int)):=⟨fun h=>Xnq (hiN h),fun h=>Xm0 (hiP h)⟩
 have em:(n<0→i0.tmod 10= -((q% 10:Nat):Int))∧(0≤n→i0.tmod 10=((q% 10:Nat):Int)):=⟨fun h=>Xnf (hiN h),fun h=>Xnu (hiP h)⟩
 have hn_:=hn
 unfold Xbj at hn_
 conv=>cbv
 refine .neq (fun h3=>?_) fun h3=>?_
 conv=>cbv
 refine .remT fun v4 ak=>?_
 conv=>cbv
 refine .lss (fun h5=>?_) fun h5=>?_
 conv=>cbv
 refine .go fun v6 al=>?_
 conv=>cbv
 generalize ad:Fl v6=r7
 refine .dd hP (N4 (by omega) ad) ?_
 conv=>cbv
 refine .go (l:=[fig ((q% 10:Nat):Int)]) (by show[cB (fig _)]=_;rw[show((q% 10:Nat):Int)=v6 by omega,←Xgh ad (by omega)]) (hn:=rfl) fun s8 ab=>?_
 conv=>cbv
 have ag:s8.size=1:=by rw[ab];rfl
 refine .go fun s9 ae am=>?_
 conv=>cbv
 refine .quoT fun ah aj=>?_
 conv=>cbv
 exact .go [] (ah,s9) (hJ _ ⟨q/10,fig ((q% 10:Nat):Int)::w,by first|(rw[ae,ab,aa,D1];rfl)|(rw[ab,ac,aa,D1];rfl),by rw[hw,S2 (show q≠0 by omega),List.append_assoc];rfl,by omega,by omega,by omega⟩ mlt)
 conv=>cbv
 generalize af:Fl v4=r6
 refine .dd hP (N4 (by omega) af) ?_
 conv=>cbv
 refine .go (l:=[fig ((q% 10:Nat):Int)]) (by show[cB (fig _)]=_;rw[show((q% 10:Nat):Int)=v4 by omega,←Xgh af (by omega)]) (hn:=rfl) fun s7 ac=>?_
 conv=>cbv
 have an:s7.size=1:=by rw[ac];rfl
 refine .go fun s8 ab ag=>?_
 conv=>cbv
 refine .quoT fun v9 ao=>?_
 conv=>cbv
 exact .go [] (v9,s8) (hJ _ ⟨q/10,fig ((q% 10:Nat):Int)::w,by first|(rw[ae,ab,aa,D1];rfl)|(rw[ab,ac,aa,D1];rfl),by rw[hw,S2 (show q≠0 by omega),List.append_assoc];rfl,by omega,by omega,by omega⟩ mlt)
 conv=>cbv
 refine .litL 1 fun s4 aa ai=>?_
 conv=>cbv
 have e:s4=Ch n:=(by unfold Ch;rw[Xjb n h1,if_pos h2,hw,show q=0 by omega,aa];rename_i hs4_ _;rw[hs4_];show tx [45]++tx _=_;rw[D1];rfl)
 rw[hr]at e
 subst e
 exact hQ _ _ (.s rfl rfl)
 conv=>cbv
 refine LoopW.lp (κ:=Int×ByteArray) Su hP [] [3] (fun(i0,s4)=>[(0,I i0),(4,S s4)]) (fun(i0,s4)=>[])
  (fun(i0,s4)=>∃(q:Nat) (w:List UInt8),s4=tx w∧XiT n.natAbs=XiT q++w∧q≤n.natAbs∧(n<0→i0= -(q:Int))∧(0≤n→i0=(q:Int)))
  (fun(i0,s4)=>i0.natAbs) (n,tx []) ⟨n.natAbs,[],rfl,by simp,by omega,by omega,by omega⟩ ⟨rfl,rfl,trivial⟩ rfl ?_
 rintro⟨i0,s4⟩ J ⟨q,w,aa,hw,hq,hiN,hiP⟩ hJ
 have hwl:=congrArg List.length hw
 rw[List.length_append]at hwl
 have hdl:=XfP (u:=n.natAbs) (by unfold Xbj at hn;omega)
 have ai:s4.size=w.length:=by rw[aa,Bz]
 have et:(n<0→i0.tdiv 10= -((q/10:Nat):Int))∧(0≤n→i0.tdiv 10=((q/10:Nat):Int)):=⟨fun h=>Xnq (hiN h),fun h=>Xm0 (hiP h)⟩
 have em:(n<0→i0.tmod 10= -((q% 10:Nat):Int))∧(0≤n→i0.tmod 10=((q% 10:Nat):Int)):=⟨fun h=>Xnf (hiN h),fun h=>Xnu (hiP h)⟩
 have hn_:=hn
 unfold Xbj at hn_
 conv=>cbv
 refine .neq (fun h3=>?_) fun h3=>?_
 conv=>cbv
 refine .remT fun v4 ak=>?_
 conv=>cbv
 refine .lss (fun h5=>?_) fun h5=>?_
 conv=>cbv
 refine .go fun v6 al=>?_
 conv=>cbv
 generalize ad:Fl v6=r7
 refine .dd hP (N4 (by omega) ad) ?_
 conv=>cbv
 refine .go (l:=[fig ((q% 10:Nat):Int)]) (by show[cB (fig _)]=_;rw[show((q% 10:Nat):Int)=v6 by omega,←Xgh ad (by omega)]) (hn:=rfl) fun s8 ab=>?_
 conv=>cbv
 have ag:s8.size=1:=by rw[ab];rfl
 refine .go fun s9 ae am=>?_
 conv=>cbv
 refine .quoT fun ah aj=>?_
 conv=>cbv
 exact .go [] (ah,s9) (hJ _ ⟨q/10,fig ((q% 10:Nat):Int)::w,by first|(rw[ae,ab,aa,D1];rfl)|(rw[ab,ac,aa,D1];rfl),by rw[hw,S2 (show q≠0 by omega),List.append_assoc];rfl,by omega,by omega,by omega⟩ mlt)
 conv=>cbv
 generalize af:Fl v4=r6
 refine .dd hP (N4 (by omega) af) ?_
 conv=>cbv
 refine .go (l:=[fig ((q% 10:Nat):Int)]) (by show[cB (fig _)]=_;rw[show((q% 10:Nat):Int)=v4 by omega,←Xgh af (by omega)]) (hn:=rfl) fun s7 ac=>?_
 conv=>cbv
 have an:s7.size=1:=by rw[ac];rfl
 refine .go fun s8 ab ag=>?_
 conv=>cbv
 refine .quoT fun v9 ao=>?_
 conv=>cbv
 exact .go [] (v9,s8) (hJ _ ⟨q/10,fig ((q% 10:Nat):Int)::w,by first|(rw[ae,ab,aa,D1];rfl)|(rw[ab,ac,aa,D1];rfl),by rw[hw,S2 (show q≠0 by omega),List.append_assoc];rfl,by omega,by omega,by omega⟩ mlt)
 conv=>cbv
 have e:s4=Ch n:=(by unfold Ch;rw[Xjb n h1,if_neg (by omega),hw,show q=0 by omega,aa];rfl)
 rw[hr]at e
 subst e
 exact hQ _ _ (.s rfl rfl)
end
section
open Go Go.Proofs
end
section
open Go Go.Proofs
open Go.Lib
open Go.RowKit
abbrev zE:Value:=.agg #[.string ⟨#[]⟩,.int .i64 0]
theorem XgH:∃i,Tryz.prog.info? 113=some i∧i.zero=some zE∧i.size=2∧i.bytes=24:=by
 have h:(Tryz.prog.info? 113).map (fun i=>(i.zero,i.size,i.bytes))=some (some zE,2,24):=by kernel_rfl
 obtain⟨i,hi,h⟩:=Option.map_eq_some_iff.1 h
 simp only[Prod.mk.injEq]at h
 exact⟨i,hi,h.1,h.2.1,h.2.2⟩
theorem Wc{w:World}{b o:Nat}{vs:List Value}{N:Nat}(h:∀j,j<N→(w.cell? ⟨b,j,none⟩).isSome=true)(hle:o+vs.length≤N):∀j,j<N→((w.setCells b o vs).cell? ⟨b,j,none⟩).isSome=true:=
 fun j hj=>isSome_setCells b _ _ _ (fun t ht=>h _ (by omega)) _ (h _ hj)
theorem XmR(w:World)(ty b o c:Nat)(hc:∀j,j<2→(w.cell? ⟨b,o+j,none⟩).isSome=true)(hf:∀j,j<2→w.frozen? ⟨b,o+j,none⟩=false):
  (Builtin.clear_ #[25] ty #[.slice (some ⟨b,o,none⟩) 1 c]).run Tryz.prog w= .ok (.tuple #[]) (w.setCells b o [.string ⟨#[]⟩,.int .i64 0]):=by
 obtain⟨i,hi,hz,hs,_⟩:=XgH
 have hst:=run_storeCells_cells (P:=Tryz.prog) b o [.string ⟨#[]⟩,.int .i64 0] 0 w (by simpa using hc) (by simpa using hf) (by intro v hv;simp at hv;rcases hv with rfl|rfl<;>rfl)
 simp only[Nat.add_zero]at hst
 have hzc:(Builtin.zeroCells zE.cells 1).toList=[.string ⟨#[]⟩,.int .i64 0]:=by simp[Builtin.zeroCells,Value.cells,List.range_succ]
 simp[Builtin.clear_,run_underlying Tryz.underlying25,zeroValue,typeInfo,hi,hz,hzc,hst]
theorem delE(b n cap i j:Nat)(w:World)(cs:List Value)(hi:i<n)(hj:j=i+1)(hnc:n≤cap)(hm:n≤4000000000)(hcl:cs.length=n*2)(h1c:∀u∈cs,u.oneCell'=true)
  (hcs:∀j v,cs[j]? =some v→w.cell? ⟨b,j,none⟩=some v)(hfz:∀j,j<n*2→w.frozen? ⟨b,j,none⟩=false):
  Calls Tryz.prog 333 #[.slice (some ⟨b,0,none⟩) n cap,.int .i64 i,.int .i64 j] w fun e w'=>e= .returned (.slice (some ⟨b,0,none⟩) (n - 1) cap)∧
   w'=(w.drew.setCells b (i*2) (cs.drop (j*2))).setCells b ((n - 1)*2) [.string ⟨#[]⟩,.int .i64 0]:=by
 obtain⟨i0,aa,ac,ab,ad⟩:=XgH
 have hlen:(cs.drop (j*2)).length=(n - j)*2:=by rw[List.length_drop];omega
 obtain⟨A,hA,hsrc⟩:∃A:Addr,(if cap=j then some (⟨b,0,none⟩:Addr)else some ⟨b,j*2,none⟩)=some A∧Hid (∀t u,(cs.drop (j*2))[t]? =some u→w.drew.cell? (A.add t)=some u):=by
  by_cases h:cap=j
  ·refine⟨⟨b,0,none⟩,by simp[h],fun t u hu=>?_⟩
   have h0:(cs.drop (j*2)).length=0:=by omega
   rw[List.length_eq_zero_iff.1 h0]at hu
   simp at hu
  ·refine⟨⟨b,j*2,none⟩,by simp[h],fun t u hu=>?_⟩
   rw[List.getElem?_drop]at hu
   rw[Addr.add_lit]
   exact hcs _ _ hu
 have s1:Hid ((cs.drop (j*2)).length=(n - j)*2):=hlen
 have s2:Hid (∀u∈cs.drop (j*2),u.oneCell'=true):=fun u hu=>h1c u (List.mem_of_mem_drop hu)
 have hsome:∀j,j<n*2→(w.cell? ⟨b,j,none⟩).isSome=true:=fun j hj=>by rw[hcs j _ (List.getElem?_eq_getElem (by omega))];rfl
 have s3:Hid (∀t,t<(cs.drop (j*2)).length→(w.drew.cell? ⟨b,0+i*2+t,none⟩).isSome=true∧w.drew.frozen? ⟨b,0+i*2+t,none⟩=false):=by
  intro t ht
  exact⟨hsome _ (by omega),hfz _ (by omega)⟩
 obtain⟨W1,hW1⟩:∃W1,W1=w.drew.setCells b (0+i*2) (cs.drop (j*2)):=⟨_,rfl⟩
 have hcl:∀ty,(Builtin.clear_ #[25] ty #[.slice (some ⟨b,(i+(n - j))*2,none⟩) (n - (i+(n - j))) (cap - (i+(n - j)))]).run Tryz.prog W1= .ok (.tuple #[]) (W1.setCells b ((n - 1)*2) [.string ⟨#[]⟩,.int .i64 0]):=fun ty=>by
  rw[show n - (i+(n - j))=1 by omega,show i+(n - j)=n - 1 by omega]
  refine XmR W1 ty b ((n - 1)*2) _ (fun k hk=>?_) (fun k hk=>?_)
  ·rw[hW1]
   exact Wc (w:=w.drew) hsome (by omega) _ (by omega)
  ·rw[hW1,World.frozen?_setCells]
   exact hfz _ (by omega)
 have hW:Hid (W1=w.drew.setCells b (0+i*2) (cs.drop (j*2))):=hW1
 have hic:i≤cap:=by omega
 have hjc:j≤cap:=by omega
 have hij:i≤j:=by omega
 have hjn:j≤n:=by omega
 have hne:¬(i:Int)=(j:Int):=by omega
 have mixed:Tryz.prog.follows .mixedOrders=true:=by kernel_rfl
 have hjH:Hid (j=i+1):=hj
 have hjl:i<j:=by omega
 clear hj hW1 hlen hsome hcs hfz
 go_enter Tryz.func333,Tryz.ntmps333
 go_wp2_with fail
 go_region_law_o (refine step_append_room rfl (.tmp 22) (.tmp 25) 25 rfl 113 i0 2 Tryz.underlying25 aa ab b 0 i cap (by simp[Act.eval,Act.put]) A (n - j) (cap - j) (cs.drop (j*2)) (by simp[Act.eval,Act.put]) s1.out hsrc.out s2.out (by omega) s3.out ?_;rw[←hW.out])
 go_wp2
 go_ret
 refine⟨by have:=hjH.out;rw[show n - 1=i+(n - j)by omega];rfl,?_⟩
 rw[hW.out,Nat.zero_add]
theorem I3{P:Program}(w:World)(dT sT ty elem sz:TypeId)(b o dLen dCap:Nat)(a:Addr)(Xl6 sCap:Nat)(cs:List Value)
  (hu:P.underlying dT=some (.slice elem))(hs:(P.info? elem).map (·.size)=some sz)(hn:cs.length=Nat.min Xl6 dLen*sz)
  (hsrc:∀j v,cs[j]? =some v→w.cell? (a.add j)=some v)(hc:∀j,j<cs.length→(w.cell? ⟨b,o+j,none⟩).isSome=true)(hf:∀j,j<cs.length→w.frozen? ⟨b,o+j,none⟩=false)(h1:∀v∈cs,v.oneCell'=true):
  (Builtin.copy_ #[dT,sT] ty #[.slice (some ⟨b,o,none⟩) dLen dCap,.slice (some a) Xl6 sCap]).run P w= .ok (goInt (Nat.min Xl6 dLen)) (w.setCells b o cs):=by
 have hl:=run_loadCells_list (P:=P) w a cs hsrc
 have hst:=run_storeCells_cells (P:=P) b o cs 0 w (by simpa using hc) (by simpa using hf) h1
 cases hq:P.info? elem with
 |none=>simp[hq]at hs
 |some i=>
  have hi:i.size=sz:=by simpa[hq]using hs
  simp[Builtin.copy_,run_underlying hu,Builtin.lenOf,Builtin.firstCells,sizeOf,typeInfo,hq,hi,←hn,hl,hst]
theorem szE:(Tryz.prog.info? 113).map (·.size)=some 2:=by kernel_rfl
theorem Xho(b n c i vb vc:Nat)(cs vs:List Value)(w:World)(hi:i<n)(hroom:n+1≤c)(hm:n≤4000000000)(hvb:vb≠b)
  (hcl:cs.length=n*2)(hvl:vs.length=2)
  (hcs:∀j v,cs[j]? =some v→w.cell? ⟨b,j,none⟩=some v)(hsp:∀j,j<(n+1)*2→(w.cell? ⟨b,j,none⟩).isSome=true)(hfz:∀j,j<(n+1)*2→w.frozen? ⟨b,j,none⟩=false)
  (hvs:∀j v,vs[j]? =some v→w.cell? ⟨vb,j,none⟩=some v)(h1c:∀v∈cs,v.oneCell'=true)(h1v:∀v∈vs,v.oneCell'=true)
  (tA tB:TypeId)(kA kB:Nat)(hsa:w.shape? vb=some (tA,kA))(hsb:w.shape? b=some (tB,kB))(hkB:kB≠0)(hfa:w.frozen? ⟨vb,0,none⟩=false)(hfe:w.frozen? ⟨vb,kA,none⟩=false):
  Calls Tryz.prog 332 #[.slice (some ⟨b,0,none⟩) n c,.int .i64 i,.slice (some ⟨vb,0,none⟩) 1 vc] w fun e w'=>
   e= .returned (.slice (some ⟨b,0,none⟩) (n+1) c)∧w'=(w.drew.setCells b ((i+1)*2) (cs.drop (i*2))).setCells b (i*2) vs:=by
 have ab:¬((i:Int)=(n:Int)):=by omega
 have hsz:=szE
 obtain⟨i0,aa,ac,hzs,hzb⟩:=XgH
 have hszo:∀w,(Go.sizeOf 113).run Tryz.prog w= .ok 2 w:=fun w=>by simp[Go.sizeOf,typeInfo,aa,hzs]
 have hov:∀lb cb,(callFunc 344 #[.slice (some ⟨vb,0,none⟩) 1 vc,.slice (some ⟨b,(i+1)*2,none⟩) lb cb]).run Tryz.prog w= .ok (.value (.bool false)) w:=fun lb cb=>by
  rw[run_callFunc_extern Tryz.func344 (by kernel_rfl) (by kernel_rfl) (by kernel_rfl) (e:=Extern.SlicesOverlaps.overlaps #[25,25] #[4]) (by kernel_rfl),
   Lib.run_overlaps_apart w 25 4 113 Tryz.underlying25 2 hszo ⟨vb,0,none⟩ ⟨b,(i+1)*2,none⟩ 1 vc lb cb hvb tA tB kA kB hsa hsb hkB hfa hfe]
  rfl
 have hdl:(cs.drop (i*2)).length=(n - i)*2:=by rw[List.length_drop,hcl];omega
 have mixed:Tryz.prog.follows .mixedOrders=true:=by kernel_rfl
 have ad:IntKind.i64.wrap ((i:Int)+1)=(i:Int)+1:=by rw[IntKind.wrap_i64];omega
 have ae:(0:Int)≤(i:Int)+1:=by omega
 have hin:i≤n:=by omega
 have htn:((i:Int)+1).toNat=i+1:=by omega
 have hb2:¬(c=i+1):=by omega
 have af:(i:Int)≤(n:Int)+1:=by omega
 have ag:¬(c=i):=by omega
 have hcp1:∀ty dc sc,(Builtin.copy_ #[25,25] ty #[.slice (some ⟨b,(i+1)*2,none⟩) (n - i) dc,.slice (some ⟨b,i*2,none⟩) (n+1 - i) sc]).run Tryz.prog w.drew= .ok (goInt (Nat.min (n+1 - i) (n - i))) (w.drew.setCells b ((i+1)*2) (cs.drop (i*2))):=fun ty dc sc=>
  I3 w.drew _ _ ty 113 2 b ((i+1)*2) (n - i) dc ⟨b,i*2,none⟩ (n+1 - i) sc (cs.drop (i*2)) Tryz.underlying25 hsz (by rw[hdl];simp only[Nat.min_def];split<;>omega)
   (fun j v hj=>by rw[Addr.add_lit];exact hcs (i*2+j) v (by rwa[List.getElem?_drop]at hj))
   (fun j hj=>hsp _ (by omega)) (fun j hj=>hfz _ (by omega)) (fun v hv=>h1c v (List.mem_of_mem_drop hv))
 obtain⟨W1,hW1⟩:∃W1,W1=w.drew.setCells b ((i+1)*2) (cs.drop (i*2)):=⟨_,rfl⟩
 have hsp1:∀k,k<(n+1)*2→(W1.cell? ⟨b,k,none⟩).isSome=true:=fun k hk=>by
  rw[hW1]
  exact Wc (w:=w.drew) hsp (by omega) _ hk
 have hcp2:∀(W:World),(∀x,W.cell? x=W1.cell? x)→(∀x,W.frozen? x=W1.frozen? x)→∀ty dc,(Builtin.copy_ #[25,25] ty #[.slice (some ⟨b,i*2,none⟩) (n+1 - i) dc,.slice (some ⟨vb,0,none⟩) 1 vc]).run Tryz.prog W= .ok (goInt (Nat.min 1 (n+1 - i))) (W.setCells b (i*2) vs):=fun W hWc hWf ty dc=>
  I3 W _ _ ty 113 2 b (i*2) (n+1 - i) dc ⟨vb,0,none⟩ 1 vc vs Tryz.underlying25 hsz (by rw[hvl];simp only[Nat.min_def];split<;>omega)
   (fun j v hj=>by
    rw[Addr.add_lit,hWc,hW1,World.cell?_setCells_out b _ _ _ _ (fun h _=>absurd h hvb),Nat.zero_add]
    exact hvs j v hj)
   (fun j hj=>by rw[hWc];exact hsp1 _ (by omega)) (fun j hj=>by rw[hWf,hW1,World.frozen?_setCells];exact hfz _ (by omega)) h1v
 rw[←hW1]at hcp1
 go_enter Tryz.func332,Tryz.ntmps332
 go_wp2_with (simp only[hov])
 go_region_law_o (refine step_copy_runI rfl _ _ 25 25 rfl _ _ (by simp[Act.eval,Act.put]) (by simp[Act.eval,Act.put]) (hcp1 _ _ _) ?_)
 go_wp2_with (at_builtin;refine wpList_copy_runI _ rfl _ _ 25 25 rfl _ _ rfl rfl (hcp2 _ (fun _=>rfl) (fun _=>rfl) _ _) ?_)
 go_ret
 first|exact⟨rfl,rfl⟩|exact⟨rfl,by rw[hW1]⟩
theorem Xm4{need old:Nat}(h:old<need)(hb:need≤1000000000*8):Builtin.nextslicecap need old*24≤281474976710656:=by
 have:=Zx h
 have:=Nat.mul_le_mul_right 24 this
 omega
theorem Xbw(b n c vb vc:Nat)(vs:List Value)(w:World)(hroom:n+1≤c)(hm:n≤4000000000)
  (hvl:vs.length=2)(hsp:∀j,j<2→(w.cell? ⟨b,n*2+j,none⟩).isSome=true)(hfz:∀j,j<2→w.frozen? ⟨b,n*2+j,none⟩=false)
  (hvs:∀j v,vs[j]? =some v→w.cell? ⟨vb,j,none⟩=some v)(h1v:∀v∈vs,v.oneCell'=true):
  Calls Tryz.prog 332 #[.slice (some ⟨b,0,none⟩) n c,.int .i64 n,.slice (some ⟨vb,0,none⟩) 1 vc] w fun e w'=>
   e= .returned (.slice (some ⟨b,0,none⟩) (n+1) c)∧w'=w.setCells b (n*2) vs:=by
 obtain⟨i0,aa,ab,hzs,hzb⟩:=XgH
 have hsrc:Go.Src Tryz.prog i0.size 25 (.slice (some ⟨vb,0,none⟩) 1 vc) 1 vs w:=by
  rw[hzs]
  exact Go.Src.ofSlice w Tryz.underlying25 ⟨vb,0,none⟩ 1 vc vs (by omega) (fun j u hj=>by rw[Addr.add_lit,Nat.zero_add];exact hvs j u hj) h1v
 have hrun:∀ty,(Builtin.append_ #[25,25] ty #[.slice (some ⟨b,0,none⟩) n c,.slice (some ⟨vb,0,none⟩) 1 vc]).run Tryz.prog w= .ok (.slice (some ⟨b,0,none⟩) (n+1) c) (w.setCells b (n*2) vs):=fun ty=>by
  have h:=run_append_room_src w 25 25 ty 113 i0 Tryz.underlying25 aa b 0 n c _ 1 vs hsrc hroom (fun j hj=>by rw[hzs,Nat.zero_add];exact hsp j (by omega)) (fun j hj=>by rw[hzs,Nat.zero_add];exact hfz j (by omega))
  rw[hzs,Nat.zero_add]at h
  exact h
 go_enter Tryz.func332,Tryz.ntmps332
 go_wp2_with (at_builtin;refine Lib.wpList_append_run _ rfl _ _ _ _ rfl _ _ rfl rfl _ _ (hrun _) ?_)
 go_ret
 exact⟨rfl,rfl⟩
theorem R5(base:Option Addr)(n c vb vc:Nat)(cs vs:List Value)(w:World)(hnc:n≤c)(hroom:c<n+1)(hbig:n≤4000000000)
  (hcl:cs.length=n*2)(hvl:vs.length=2)(hnil:base=none→n=0)
  (hcs:∀a,base=some a→∀j v,cs[j]? =some v→w.cell? (a.add j)=some v)
  (hvs:∀j v,vs[j]? =some v→w.cell? ⟨vb,j,none⟩=some v)(h1v:∀v∈vs,v.oneCell'=true):
  Calls Tryz.prog 332 #[.slice base n c,.int .i64 n,.slice (some ⟨vb,0,none⟩) 1 vc] w fun e w'=>
   e= .returned (.slice (some ⟨w.heap.size,0,none⟩) (n+1) (grownCap w (n+1) c 113))∧
   w'=w.drew.alloc (.cells ((cs++vs).toArray++Builtin.zeroCells zE.cells (grownCap w (n+1) c 113 - (n+1))) 113):=by
 obtain⟨i0,aa,ac,hzs,hzb⟩:=XgH
 have hsrc:Go.Src Tryz.prog i0.size 25 (.slice (some ⟨vb,0,none⟩) 1 vc) 1 vs w:=by
  rw[hzs]
  exact Go.Src.ofSlice w Tryz.underlying25 ⟨vb,0,none⟩ 1 vc vs (by omega) (fun j u hj=>by rw[Addr.add_lit,Nat.zero_add];exact hvs j u hj) h1v
 have hold:(Builtin.firstCells i0.size n (.slice base n c)).run Tryz.prog w.drew= .ok cs.toArray w.drew:=by
  rw[hzs]
  cases base with
  |none=>
   have h0:=hnil rfl
   subst h0
   rw[List.length_eq_zero_iff.1 hcl]
   exact run_firstCells_none w.drew 2 0 0 c
  |some a=>exact run_firstCells_some w.drew 2 n a n c cs (by omega) (fun j v hj=>hcs a rfl j v hj)
 have hrun:∀ty,(Builtin.append_ #[25,25] ty #[.slice base n c,.slice (some ⟨vb,0,none⟩) 1 vc]).run Tryz.prog w=_:=fun ty=>
  run_append_grow_src w 25 25 ty 113 i0 _ Tryz.underlying25 aa ac base n c cs hold _ 1 vs hsrc hroom (by omega) (by rw[hzb];exact Xm4 hroom (by omega))
 go_enter Tryz.func332,Tryz.ntmps332
 cases base with
 |none=>
  have h0:=hnil rfl
  subst h0
  go_wp2_with (at_builtin;refine Lib.wpList_append_run _ rfl _ _ _ _ rfl _ _ rfl rfl _ _ (hrun _) ?_)
  go_ret
  exact⟨rfl,rfl⟩
 |some a=>
  obtain⟨ab,ao,asp⟩:=a
  go_wp2_with (at_builtin;refine Lib.wpList_append_run _ rfl _ _ _ _ rfl _ _ rfl rfl _ _ (hrun _) ?_)
  all_goals (go_ret;exact⟨rfl,rfl⟩)
theorem XjH(b n c i vb vc:Nat)(cs vs:List Value)(w:World)(hi:i<n)(hnc:n≤c)(hroom:c<n+1)(hbig:n≤4000000000)
  (hcl:cs.length=n*2)(hvl:vs.length=2)
  (hcs:∀j v,cs[j]? =some v→w.cell? ⟨b,j,none⟩=some v)
  (hvs:∀j v,vs[j]? =some v→w.cell? ⟨vb,j,none⟩=some v)(h1c:∀v∈cs,v.oneCell'=true)(h1v:∀v∈vs,v.oneCell'=true):
  Calls Tryz.prog 332 #[.slice (some ⟨b,0,none⟩) n c,.int .i64 i,.slice (some ⟨vb,0,none⟩) 1 vc] w fun e w'=>
   e= .returned (.slice (some ⟨w.heap.size,0,none⟩) (n+1) (grownCap w (n+1) c 113))∧
   w'=(((w.alloc (.cells ((cs.take (i*2)).toArray++Builtin.zeroCells zE.cells (n+1 - i)++Builtin.zeroCells zE.cells (grownCap w (n+1) c 113 - (n+1))) 113)).drew.setCells w.heap.size (i*2) vs).drew).setCells w.heap.size ((i+1)*2) (cs.drop (i*2)):=by
 have mixed:Tryz.prog.follows .mixedOrders=true:=by kernel_rfl
 obtain⟨i0,aa,ab,hzs,hzb⟩:=XgH
 have ac:¬((i:Int)=(n:Int)):=by omega
 have ad:(c:Int)<(n:Int)+1:=by omega
 have hsz:=szE
 have hbw:b<w.heap.size:=block_lt_of_cell (hcs 0 _ (List.getElem?_eq_getElem (by omega)))
 have hvw:vb<w.heap.size:=block_lt_of_cell (hvs 0 _ (List.getElem?_eq_getElem (by omega)))
 have hkk:(n:Int)+1 - (i:Int)=((n+1 - i:Nat):Int):=by omega
 have hik:i+(n+1 - i)=n+1:=by omega
 have hold:(Builtin.firstCells i0.size i (.slice (some ⟨b,0,none⟩) i c)).run Tryz.prog w.drew= .ok (cs.take (i*2)).toArray w.drew:=by
  rw[hzs]
  exact run_firstCells_some w.drew 2 i ⟨b,0,none⟩ i c (cs.take (i*2)) (by rw[List.length_take];omega) (fun j v hj=>by
   rw[Addr.add_lit,Nat.zero_add]
   rw[List.getElem?_take]at hj
   split at hj
   ·exact hcs j v hj
   ·cases hj)
 have hrz:∀ty,(Builtin.append_ #[25,3] ty #[.slice (some ⟨b,0,none⟩) i c,.int .i64 ((n:Int)+1 - (i:Int))]).run Tryz.prog w=
   .ok (.slice (some ⟨w.heap.size,0,none⟩) (n+1) (grownCap w (n+1) c 113)) (w.drew.alloc (.cells ((cs.take (i*2)).toArray++Builtin.zeroCells zE.cells (n+1 - i)++Builtin.zeroCells zE.cells (grownCap w (n+1) c 113 - (n+1))) 113)):=fun ty=>by
  have h:=Lib.run_append_grow_zeros w 25 3 ty 113 i0 _ .i64 .i64 Tryz.underlying25 Tryz.underlying3 aa ab (some ⟨b,0,none⟩) i c (cs.take (i*2)) hold (n+1 - i) (by omega) (by omega) (by omega) (by omega) (by rw[hzb];omega) (by rw[hzb,hik];exact Xm4 hroom (by omega))
  rw[hik]at h
  rw[hkk]
  exact h
 obtain⟨G,hG⟩:∃G,G=grownCap w (n+1) c 113:=⟨_,rfl⟩
 obtain⟨ROW,hROW⟩:∃ROW:Array Value,ROW=(cs.take (i*2)).toArray++Builtin.zeroCells zE.cells (n+1 - i)++Builtin.zeroCells zE.cells (G - (n+1)):=⟨_,rfl⟩
 rw[←hG]at hrz⊢
 rw[←hROW]at hrz⊢
 have hRl:(n+1)*2≤ROW.size:=by
  rw[hROW]
  simp[Builtin.zeroCells,Value.cells]
  omega
 obtain⟨W1,hW1⟩:∃W1,W1=w.drew.alloc (.cells ROW 113):=⟨_,rfl⟩
 rw[←hW1]at hrz
 have hN:∀j,j<(n+1)*2→(W1.cell? ⟨w.heap.size,j,none⟩).isSome=true:=fun j hj=>by
  rw[hW1,World.cell?_alloc_at (w:=w.drew) ROW _ w.heap.size j rfl,Array.getElem?_eq_getElem (by omega)];rfl
 have hNf:∀j,W1.frozen? ⟨w.heap.size,j,none⟩=false:=fun j=>by rw[hW1];exact World.frozen?_alloc_at (w:=w.drew) ROW _ w.heap.size j rfl
 have hOb:∀j v,w.cell? ⟨b,j,none⟩=some v→W1.cell? ⟨b,j,none⟩=some v:=fun j v h=>by rw[hW1,World.cell?_alloc_past (w:=w.drew) _ b j hbw];exact h
 have hOv:∀j v,w.cell? ⟨vb,j,none⟩=some v→W1.cell? ⟨vb,j,none⟩=some v:=fun j v h=>by rw[hW1,World.cell?_alloc_past (w:=w.drew) _ vb j hvw];exact h
 have hcpA:∀(W:World),(∀x,W.cell? x=W1.cell? x)→(∀x,W.frozen? x=W1.frozen? x)→∀ty dc,(Builtin.copy_ #[25,25] ty #[.slice (some ⟨w.heap.size,i*2,none⟩) (n+1 - i) dc,.slice (some ⟨vb,0,none⟩) 1 vc]).run Tryz.prog W= .ok (goInt (Nat.min 1 (n+1 - i))) (W.setCells w.heap.size (i*2) vs):=fun W hWc hWf ty dc=>
  I3 W _ _ ty 113 2 w.heap.size (i*2) (n+1 - i) dc ⟨vb,0,none⟩ 1 vc vs Tryz.underlying25 hsz (by rw[hvl];simp only[Nat.min_def];split<;>omega)
   (fun j v hj=>by rw[Addr.add_lit,hWc,Nat.zero_add];exact hOv _ v (hvs j v hj))
   (fun j hj=>by rw[hWc];exact hN _ (by omega)) (fun j hj=>by rw[hWf];exact hNf _) h1v
 have hGn:n+1≤G:=by rw[hG];exact grownCap_ge w _ _ _
 have hG63:G≤9223372036854775807:=by
  have:=grownCap_le_maxLen w (n+1) c 113 (by unfold maxLen;omega)
  rw[←hG]at this
  unfold maxLen at this
  omega
 have hGi:¬(G=i):=by omega
 have hGim:¬(G=i+1):=by omega
 have hci:¬(c=i):=by omega
 have hbN:b≠w.heap.size:=by omega
 have hdl:(cs.drop (i*2)).length=(n - i)*2:=by rw[List.length_drop,hcl];omega
 have hcpB:∀(W:World),(∀x,W.cell? x=(W1.setCells w.heap.size (i*2) vs).cell? x)→(∀x,W.frozen? x=(W1.setCells w.heap.size (i*2) vs).frozen? x)→∀ty dc sc,(Builtin.copy_ #[25,25] ty #[.slice (some ⟨w.heap.size,(i+1)*2,none⟩) (n - i) dc,.slice (some ⟨b,i*2,none⟩) (n - i) sc]).run Tryz.prog W= .ok (goInt (Nat.min (n - i) (n - i))) (W.setCells w.heap.size ((i+1)*2) (cs.drop (i*2))):=fun W hWc hWf ty dc sc=>
  I3 W _ _ ty 113 2 w.heap.size ((i+1)*2) (n - i) dc ⟨b,i*2,none⟩ (n - i) sc (cs.drop (i*2)) Tryz.underlying25 hsz (by rw[hdl];simp only[Nat.min_def];split<;>omega)
   (fun j v hj=>by
    rw[Addr.add_lit,hWc,World.cell?_setCells_out _ _ _ _ _ (fun h _=>absurd h hbN)]
    exact hOb _ v (hcs (i*2+j) v (by rwa[List.getElem?_drop]at hj)))
   (fun j hj=>by rw[hWc];exact Wc (w:=W1) hN (by omega) _ (by omega))
   (fun j hj=>by rw[hWf,World.frozen?_setCells];exact hNf _) (fun v hv=>h1c v (List.mem_of_mem_drop hv))
 subst hW1
 have hE1:∀x,((w.alloc (.cells ROW 113)).drew).cell? x=(w.drew.alloc (.cells ROW 113)).cell? x:=fun x=>rfl
 have hE2:∀x,((w.alloc (.cells ROW 113)).drew).frozen? x=(w.drew.alloc (.cells ROW 113)).frozen? x:=fun x=>rfl
 have hF1:∀x,(((w.alloc (.cells ROW 113)).drew.setCells w.heap.size (i*2) vs).drew).cell? x=((w.drew.alloc (.cells ROW 113)).setCells w.heap.size (i*2) vs).cell? x:=fun x=>rfl
 have hF2:∀x,(((w.alloc (.cells ROW 113)).drew.setCells w.heap.size (i*2) vs).drew).frozen? x=((w.drew.alloc (.cells ROW 113)).setCells w.heap.size (i*2) vs).frozen? x:=fun x=>rfl
 have ae:IntKind.i64.wrap ((i:Int)+1)=(i:Int)+1:=by rw[IntKind.wrap_i64];omega
 have af:(0:Int)≤(i:Int)+1:=by omega
 have hin:i≤n:=by omega
 have htn:((i:Int)+1).toNat=i+1:=by omega
 have ag:(i:Int)≤(n:Int):=by omega
 clear hkk hik hold hROW hG hRl
 go_enter Tryz.func332,Tryz.ntmps332
 go_wp2_with (first
  |(at_builtin;refine Lib.wpList_append_run _ rfl _ _ _ _ rfl _ _ rfl rfl _ _ (hrz _) ?_)
  |(at_builtin;refine wpList_copy_runI _ rfl _ _ 25 25 rfl _ _ rfl rfl (hcpA _ hE1 hE2 _ _) ?_)
  |(at_builtin;refine wpList_copy_runI _ rfl _ _ 25 25 rfl _ _ rfl rfl (hcpB _ (fun _=>rfl) (fun _=>rfl) _ _ _) ?_))
 go_region_law_o (refine step_copy_runI rfl _ _ 25 25 rfl (.slice (some ⟨w.heap.size,(i+1)*2,none⟩) (n - i) (G - (i+1))) (.slice (some ⟨b,i*2,none⟩) (n - i) (c - i)) (by simp[Act.eval,Act.put]) (by simp[Act.eval,Act.put]) (hcpB _ hF1 hF2 3 (G - (i+1)) (c - i)) ?_)
 go_wp2
 go_ret
 exact⟨rfl,rfl⟩
theorem Wrote.trans{w w1 w2:World}{b:Nat}{cs c1 c2:Array Value}{t:TypeId}{fr:Nat×Nat}(h:Wrote w w1 b cs c1 t fr)(k:Wrote w1 w2 b c1 c2 t fr):Wrote w w2 b cs c2 t fr:=
 ⟨k.at_,k.size.trans h.size,fun x hx=>(k.others x hx).trans (h.others x hx),k.hsize.trans h.hsize,k.os.trans h.os,k.output.trans h.output,k.tape.trans h.tape⟩
theorem Wrote.ofDrew{w w1:World}{b:Nat}{cs c1:Array Value}{t:TypeId}{fr:Nat×Nat}(h:Wrote w.drew w1 b cs c1 t fr):Wrote w w1 b cs c1 t fr:=
 ⟨h.at_,h.size,h.others,h.hsize,h.os,h.output,h.tape⟩
theorem Xju{c:Ctx}{E:Env}(hM:Mem c E){r n sz:Nat}{xs:List (List D)}{v:Value}(hr:E.rt r=some (.row sz false xs))(hp:E.pres r)(hv:RelAV E (.ref r 0 n) v)(hn:n=xs.length)(hsz:0<sz):
  (n=0∧∃a,v= .slice a 0 0)∨∃b cap cs t fr,v= .slice (some ⟨b,0,none⟩) n cap∧E.β r=some b∧E.w.heap[b]? =some (.cells cs t fr)∧n≤cap∧cap*sz≤cs.size∧Jo cs.size fr∧Xdz sz fr∧(∀(i:Nat) x,xs[i]? =some x→x.length=sz)∧
   (∀(i:Nat) x (j:Nat) y,xs[i]? =some x→x[j]? =some y→∃u,cs[i*sz+j]? =some u∧RelD E.w E.S y u)∧
   (cs.toList.take (n*sz)).length=n*sz∧(∀(k:Nat),k<n*sz→(cs.toList.take (n*sz))[k]? =cs[k]?)∧(∀u∈cs.toList.take (n*sz),u.oneCell'=true):=by
 cases hv with
 |dref r off len v h1 ho=>rw[hr]at h1;cases h1
 |refz r off R sz0 a h1 hk h2=>exact .inl ⟨rfl,a,rfl⟩
 |ref r off len R sz0 b cap t0 N h1 hk h2 h3 h4 h5 h6=>
  rw[hr]at h1
  obtain rfl:=Option.some.inj h1
  simp only[Root.kind,Kind.row.injEq]at hk
  subst hk
  rcases hM.roots r _ hp hr with⟨hb',_⟩|⟨b',cs,t,fr,hb',hh,hxl,hxs,hxr,hfz⟩
  ·rw[h3]at hb';cases hb'
  rw[h3]at hb'
  obtain rfl:=Option.some.inj hb'
  rcases hfz with⟨hf,_⟩|⟨_,hnS,hfr⟩
  ·cases hf
  have hN:N=cs.size:=by
   unfold World.shape? at h4
   rw[hh]at h4
   exact(Prod.mk.inj (Option.some.inj h4)).2.symm
  subst hN
  rw[Nat.zero_add]at h6
  have hle:n*sz≤cs.size:=Nat.le_trans (Nat.mul_le_mul_right _ h5) h6
  have hget:∀(k:Nat),k<n*sz→(cs.toList.take (n*sz))[k]? =cs[k]? :=fun k hk=>by rw[List.getElem?_take,if_pos hk,Array.getElem?_toList]
  refine .inr ⟨b,cap,cs,t,fr,by rw[Nat.zero_mul],h3,hh,h5,h6,hfr.1,hfr.2,hxl,hxr,by rw[List.length_take,Array.length_toList];omega,hget,?_⟩
  intro u hu
  obtain⟨k,hk⟩:=List.getElem?_of_mem hu
  have hkl:k<n*sz:=by
   have:=(List.getElem?_eq_some_iff.1 hk).1
   rw[List.length_take,Array.length_toList]at this
   omega
  rw[hget k hkl]at hk
  have hi:k/sz<xs.length:=by rw[←hn];exact(Nat.div_lt_iff_lt_mul hsz).2 hkl
  have hj:k% sz<sz:=Nat.mod_lt _ hsz
  have hx:=List.getElem?_eq_getElem hi
  have hxl':=hxl _ _ hx
  obtain⟨u',hu',hrel⟩:=hxr (k/sz) _ (k% sz) _ hx (List.getElem?_eq_getElem (by rw[hxl'];exact hj))
  have e:k/sz*sz+k% sz=k:=by rw[Nat.mul_comm];exact Nat.div_add_mod k sz
  rw[e,hk]at hu'
  rw[Option.some.inj hu']
  exact hrel.one
theorem XlG{c:Ctx}{E:Env}(hM:Mem c E){r n sz:Nat}{xs:List (List D)}{v:Value}(hr:E.rt r=some (.row sz false xs))(hp:E.pres r)(hv:RelAV E (.ref r 0 n) v)(hn:n=xs.length)(h0:0<n)(hsz:0<sz):
  ∃b cap cs t fr,v= .slice (some ⟨b,0,none⟩) n cap∧E.β r=some b∧E.w.heap[b]? =some (.cells cs t fr)∧n≤cap∧cap*sz≤cs.size∧Jo cs.size fr∧Xdz sz fr∧(∀(i:Nat) x,xs[i]? =some x→x.length=sz)∧
   (∀(i:Nat) x (j:Nat) y,xs[i]? =some x→x[j]? =some y→∃u,cs[i*sz+j]? =some u∧RelD E.w E.S y u)∧
   (cs.toList.take (n*sz)).length=n*sz∧(∀(k:Nat),k<n*sz→(cs.toList.take (n*sz))[k]? =cs[k]?)∧(∀u∈cs.toList.take (n*sz),u.oneCell'=true):=
 (Xju hM hr hp hv hn hsz).resolve_left fun h=>by omega
theorem Wd{w:World}{b k:Nat}{cs:Array Value}{t:TypeId}{fr:Nat×Nat}(hh:w.heap[b]? =some (.cells cs t fr)):w.cell? ⟨b,k,none⟩=cs[k]? :=by
 simp[World.cell?,hh]
theorem Xmc{E:Env}{k:IntKind}{n:Int}{v:Value}(h:RelAV E (.d (.sc (.int k n))) v):v= .int k n:=by
 cases h with
 |d _ _ h=>cases h with|sc=>rfl
theorem Xlo{E:Env}{x y z:AV}{vs:Array Value}(h:XeJ E [x,y,z] vs):∃u v t,vs= #[u,v,t]∧RelAV E x u∧RelAV E y v∧RelAV E z t:=by
 obtain⟨hs,hr⟩:=h
 have:vs.size=3:=hs
 obtain⟨l⟩:=vs
 match l,this with
 |[u,v,t],_=>exact⟨u,v,t,rfl,hr 0 x rfl,hr 1 y rfl,hr 2 z rfl⟩
theorem XfY{w:World}{S:Nat→Prop}{β:Nat→Option Nat}{r0:List Root}{R:Root}:Fresh (Ga w S β r0) (By w S β r0 [R]) r0.length [R]:=by
 refine⟨Nat.le_refl _,?_,?_⟩
 ·intro k R' hk
  show(r0++[R])[r0.length+k]? =some R'
  rw[List.getElem?_append_right (by omega)]
  simpa using hk
 ·intro k hk hp
  have:r0.length+k<r0.length:=hp
  omega
theorem Xh3{xs:List (List D)}{n:Nat}{i j:Int}(hn:n=xs.length)(h0:0≤i)(hi:i<n)(hj:j=i+1)(hm:n≤4000000000):CallOk Tryz.prog 333 [.ref 0 0 n,.d (.sc (.int .i64 i)),.d (.sc (.int .i64 j))] [.row 2 false xs] ⟨.ref 1 0 (xs.eraseIdx i.toNat).length,[.row 2 false (xs.eraseIdx i.toNat)],[(0,.dead)]⟩:=by
 intro w S β vs hM hA
 obtain⟨vl,vi,vj,rfl,h1,h2,h3⟩:=Xlo hA
 obtain rfl:=Xmc h2
 obtain rfl:=Xmc h3
 obtain⟨b,cap,cs,t,fr,rfl,hb,hh,hnc,hcs,hfr,-,hxl,hxr,hvl,hvg,hone⟩:=XlG hM (r:=0) rfl (show(0:Nat)<1 by decide) h1 hn (by omega) (by decide)
 have hh':w.heap[b]? =some (.cells cs t fr):=hh
 obtain⟨i,rfl⟩:∃k:Nat,i=k:=⟨i.toNat,by omega⟩
 obtain⟨j,rfl⟩:∃k:Nat,j=k:=⟨j.toNat,by omega⟩
 have hjn:j=i+1:=by omega
 have hin:i<n:=by omega
 have hcn:n*2≤cs.size:=by omega
 rw[Int.toNat_natCast]
 refine(delE b n cap i j w (cs.toList.take (n*2)) hin hjn hnc hm hvl hone (fun k v hk=>by
   have hkl:k<n*2:=by rw[←hvl];exact(List.getElem?_eq_some_iff.1 hk).1
   rw[hvg k hkl]at hk
   rw[Wd hh'];exact hk) (fun k hk=>G7 hh' hfr (by omega))).mono ?_
 rintro e w' ⟨rfl,rfl⟩
 have hdl:((cs.toList.take (n*2)).drop (j*2)).length=(n - j)*2:=by rw[List.length_drop,hvl];omega
 obtain⟨c1,aa,ab⟩:=Dc b t fr ((cs.toList.take (n*2)).drop (j*2)) (i*2) w.drew cs hh' (by rw[hdl];omega)
 obtain⟨c2,ac,ad⟩:=Dc b t fr [.string ⟨#[]⟩,.int .i64 0] ((n - 1)*2) _ c1 aa.at_ (by rw[aa.size];simp;omega)
 have hlen:(xs.eraseIdx i).length=n - 1:=by rw[List.length_eraseIdx,if_pos (by omega)];omega
 obtain⟨E',e1,e2⟩:=Xfa (sz:=2) (cap:=cap) (ys:=xs.eraseIdx i) (nb:=1) hM (r:=0) rfl (show(0:Nat)<1 by decide) XfY hb hh ((Wrote.ofDrew aa).trans ac)
  (by
   intro k x hk
   rw[List.getElem?_eraseIdx]at hk
   split at hk<;>exact hxl _ _ hk) hcs (by omega) (by
   intro k x f y hk hf
   have ae:k<n - 1:=by rw[←hlen];exact(List.getElem?_eq_some_iff.1 hk).1
   have hxs:∃q,xs[q]? =some x∧q=(if k<i then k else k+1):=by
    rw[List.getElem?_eraseIdx]at hk
    split at hk
    ·rename_i h;exact⟨k,hk,by rw[if_pos h]⟩
    ·rename_i h;exact⟨k+1,hk,by rw[if_neg h]⟩
   obtain⟨q,hq,hqk⟩:=hxs
   have af:f<2:=by rw[←hxl q x hq];exact(List.getElem?_eq_some_iff.1 hf).1
   obtain⟨u,hu,hrel⟩:=hxr q x f y hq hf
   refine⟨u,?_,hrel⟩
   rw[ad,if_neg (by simp;omega),ab,hdl]
   split at hqk
   ·subst hqk
    rw[if_neg (by omega)];exact hu
   ·subst hqk
    rw[if_pos (by omega),List.getElem?_drop,hvg _ (by omega),show j*2+(k*2+f - i*2)=(k+1)*2+f by omega]
    exact hu)
 rw[hlen]at e2
 exact⟨_,E',rfl,e1,by rw[hlen];exact e2⟩
theorem Grow.ofDrew{w w':World}{o:Obj}(g:Grow w.drew w' o):Grow w w' o:=⟨g.heap,g.os,g.output,g.tape⟩
theorem Grow.drew{w w':World}{o:Obj}(g:Grow w w' o):Grow w w'.drew o:=⟨g.heap,g.os,g.output,g.tape⟩
theorem Y2{w:World}{b k:Nat}{cs:Array Value}{t:TypeId}{fr:Nat×Nat}(hh:w.heap[b]? =some (.cells cs t fr))(h:Xdz 2 fr):w.frozen? ⟨b,k,none⟩=false:=by
 obtain rfl:fr=(0,0):=h.resolve_left (by decide)
 simp[World.frozen?,hh]
theorem Xq{w:World}{S:Nat→Prop}{xs:List (List D)}{v:List D}{i n:Nat}{cs':Array Value}{vals vs:List Value}(hn:n=xs.length)(hi:i≤n)(hxl:∀(i:Nat) x,xs[i]? =some x→x.length=2)(hv:v.length=2)
  (hxr:∀(i:Nat) x (j:Nat) y,xs[i]? =some x→x[j]? =some y→∃u,vals[i*2+j]? =some u∧RelD w S y u)(hvr:∀(j:Nat) y,v[j]? =some y→∃u,vs[j]? =some u∧RelD w S y u)
  (hc:∀k f,k<n+1→f<2→cs'[k*2+f]? =if k<i then vals[k*2+f]? else if k=i then vs[f]? else vals[(k - 1)*2+f]?):
  (∀(k:Nat) x,(xs.take i++v::xs.drop i)[k]? =some x→x.length=2)∧∀(k:Nat) x (j:Nat) y,(xs.take i++v::xs.drop i)[k]? =some x→x[j]? =some y→∃u,cs'[k*2+j]? =some u∧RelD w S y u:=by
 have key:∀(k:Nat) x,(xs.take i++v::xs.drop i)[k]? =some x→(k<i∧xs[k]? =some x)∨(k=i∧x=v)∨(i<k∧xs[k - 1]? =some x):=by
  intro k x hk
  have hl:(xs.take i).length=i:=by rw[List.length_take];omega
  by_cases h:k<i
  ·rw[List.getElem?_append_left (by omega),List.getElem?_take,if_pos h]at hk
   exact .inl ⟨h,hk⟩
  ·rw[List.getElem?_append_right (by omega),hl]at hk
   by_cases h':k=i
   ·subst h'
    rw[Nat.sub_self]at hk
    exact .inr (.inl ⟨rfl,(Option.some.inj hk).symm⟩)
   ·obtain⟨m,hm⟩:∃m,k - i=m+1:=⟨k - i - 1,by omega⟩
    rw[hm,List.getElem?_cons_succ,List.getElem?_drop,show i+m=k - 1 by omega]at hk
    exact .inr (.inr ⟨by omega,hk⟩)
 refine⟨fun k x hk=>?_,fun k x j y hk hy=>?_⟩
 ·rcases key k x hk with⟨_,h⟩|⟨_,h⟩|⟨_,h⟩
  ·exact hxl _ _ h
  ·rw[h];exact hv
  ·exact hxl _ _ h
 ·rcases key k x hk with⟨h,hx⟩|⟨h,hx⟩|⟨h,hx⟩
  ·have hkn:=(List.getElem?_eq_some_iff.1 hx).1
   have hj:j<2:=by rw[←hxl _ _ hx];exact(List.getElem?_eq_some_iff.1 hy).1
   rw[hc k j (by omega) hj,if_pos h]
   exact hxr _ _ _ _ hx hy
  ·subst hx h
   have hj:j<2:=by rw[←hv];exact(List.getElem?_eq_some_iff.1 hy).1
   rw[hc k j (by omega) hj,if_neg (by omega),if_pos rfl]
   exact hvr _ _ hy
  ·have hkn:=(List.getElem?_eq_some_iff.1 hx).1
   have hj:j<2:=by rw[←hxl _ _ hx];exact(List.getElem?_eq_some_iff.1 hy).1
   rw[hc k j (by omega) hj,if_neg (by omega),if_neg (by omega)]
   exact hxr _ _ _ _ hx hy
theorem XhF{xs:List (List D)}{v:List D}{n i:Nat}(hn:n=xs.length)(hin:i≤n)(hm:n≤4000000000):CallOk Tryz.prog 332 [.ref 0 0 n,.d (.sc (.int .i64 i)),.ref 1 0 1] [.row 2 false xs,.row 2 false [v]]
  ⟨.ref 2 0 (xs.take i++v::xs.drop i).length,[.row 2 false (xs.take i++v::xs.drop i)],[(0,.dead)]⟩:=by
 intro w S β vs hM hA
 obtain⟨vl,vi,vv,rfl,h1,h2,h3⟩:=Xlo hA
 obtain rfl:=Xmc h2
 obtain⟨vb,vc,cv,tv,frv,rfl,hbv,hhv,hvc,hcv,hfrv,hplv,hvxl,hvxr,hvvl,hvvg,hvone⟩:=XlG hM (r:=1) rfl (show(1:Nat)<2 by decide) h3 rfl (by decide) (by decide)
 have hhv':w.heap[vb]? =some (.cells cv tv frv):=hhv
 have hlen:(xs.take i++v::xs.drop i).length=n+1:=by simp;omega
 have ac:v.length=2:=hvxl 0 v rfl
 have hvr:∀(j:Nat) y,v[j]? =some y→∃u,(cv.toList.take (1*2))[j]? =some u∧RelD w S y u:=by
  intro j y hy
  have hj:j<2:=by rw[←ac];exact(List.getElem?_eq_some_iff.1 hy).1
  obtain⟨u,hu,hrel⟩:=hvxr 0 v j y rfl hy
  rw[Nat.zero_mul,Nat.zero_add]at hu
  exact⟨u,by rw[hvvg j (by omega)];exact hu,hrel⟩
 have hvs:∀j u,(cv.toList.take (1*2))[j]? =some u→w.cell? ⟨vb,j,none⟩=some u:=fun k u hk=>by
  have hkl:k<1*2:=by rw[←hvvl];exact(List.getElem?_eq_some_iff.1 hk).1
  rw[hvvg k hkl]at hk
  rw[Wd hhv'];exact hk
 generalize hvsd:cv.toList.take (1*2)=vs at hvr hvs hvvl hvone
 have hvl2:vs.length=2:=hvvl
 rcases Xju hM (r:=0) rfl (show(0:Nat)<2 by decide) h1 hn (by decide)with⟨h0,a,rfl⟩|⟨b,cap,cs,t,fr,rfl,hb,hh,hnc,hcs,hfr,hpl,hxl,hxr,hvl,hvg,hone⟩
 ·obtain rfl:xs=[]:=List.eq_nil_of_length_eq_zero (by omega)
  obtain rfl:i=0:=by omega
  subst h0
  refine(R5 a 0 0 vb vc [] vs w (by omega) (by omega) (by omega) rfl hvl2 (fun _=>rfl) (fun a _ j v h=>by simp at h) hvs hvone).mono ?_
  rintro e w' ⟨rfl,rfl⟩
  have hge:=grownCap_ge w (0+1) 0 113
  obtain⟨k1,k2⟩:=Xq (w:=w) (S:=S) (xs:=[]) (v:=v) (i:=0) (n:=0) (cs':=(([]++vs).toArray++Builtin.zeroCells zE.cells (grownCap w (0+1) 0 113 - (0+1)))) (vals:=[]) (vs:=vs) rfl (by omega) (by simp) ac (by simp) hvr (by
   intro k f hk hf
   obtain rfl:k=0:=by omega
   rw[if_neg (by omega),if_pos rfl,Nat.zero_mul,Nat.zero_add,Array.getElem?_append_left (by simp;omega)]
   simp)
  obtain⟨E',e1,e2⟩:=XlB (sz:=2) (cap:=grownCap w (0+1) 0 113) (nb:=2) hM (r:=0) rfl (show(0:Nat)<2 by decide) XfY (Grow.alloc w.drew _).ofDrew k1 (by
   rw[Array.size_append,Hn]
   simp[Value.cells,hvl2]
   omega) (by rw[hlen];exact hge) k2
  rw[hlen]at e2
  exact⟨_,E',rfl,e1,by rw[hlen];exact e2⟩
 have hh':w.heap[b]? =some (.cells cs t fr):=hh
 have hvals:∀j u,(cs.toList.take (n*2))[j]? =some u→w.cell? ⟨b,j,none⟩=some u:=fun k u hk=>by
  have hkl:k<n*2:=by rw[←hvl];exact(List.getElem?_eq_some_iff.1 hk).1
  rw[hvg k hkl]at hk
  rw[Wd hh'];exact hk
 have hxr':∀(i:Nat) x (j:Nat) y,xs[i]? =some x→x[j]? =some y→∃u,(cs.toList.take (n*2))[i*2+j]? =some u∧RelD w S y u:=by
  intro q x f y hq hf
  have hqn:q<xs.length:=(List.getElem?_eq_some_iff.1 hq).1
  have af:f<2:=by rw[←hxl q x hq];exact(List.getElem?_eq_some_iff.1 hf).1
  obtain⟨u,hu,hrel⟩:=hxr q x f y hq hf
  exact⟨u,by rw[hvg _ (by omega)];exact hu,hrel⟩
 have hvgn:∀k,k<n*2→cs[k]? =(cs.toList.take (n*2))[k]? :=fun k hk=>(hvg k hk).symm
 generalize hvd:cs.toList.take (n*2)=vals at hvals hxr' hvgn hvl hone
 have hvb:vb≠b:=by
  rintro rfl
  have:=hM.inj 0 1 _ _ vb (show(0:Nat)<2 by decide) (show(1:Nat)<2 by decide) rfl (by simp) rfl (by simp) hb hbv
  cases this
 have hnew:∀{cs':Array Value} {w':World} {G:Nat},Grow w w' (.cells cs' 113 (0,0))→n+1≤G→G*2≤cs'.size→(∀k f,k<n+1→f<2→cs'[k*2+f]? =if k<i then vals[k*2+f]? else if k=i then vs[f]? else vals[(k - 1)*2+f]?)→
   ∃v' E',Ending.returned (.slice (some ⟨w.heap.size,0,none⟩) (n+1) G)=Ending.returned v'∧E'.w=w'∧OutRel (Ga w S β [.row 2 false xs,.row 2 false [v]]) (By w S β [.row 2 false xs,.row 2 false [v]] [.row 2 false (xs.take i++v::xs.drop i)]) 2 ⟨.ref 2 0 (xs.take i++v::xs.drop i).length,[.row 2 false (xs.take i++v::xs.drop i)],[(0,.dead)]⟩ v' E':=by
  intro cs' w' G g hG hGs hc
  obtain⟨k1,k2⟩:=Xq (w:=w) (S:=S) hn hin hxl ac hxr' hvr hc
  obtain⟨E',e1,e2⟩:=XlB (sz:=2) (cap:=G) (nb:=2) hM (r:=0) rfl (show(0:Nat)<2 by decide) XfY g k1 hGs (by rw[hlen];exact hG) k2
  rw[hlen]at e2
  exact⟨_,E',rfl,e1,by rw[hlen];exact e2⟩
 have hown:∀{cs':Array Value} {w':World},Wrote w w' b cs cs' t fr→n+1≤cap→(∀k f,k<n+1→f<2→cs'[k*2+f]? =if k<i then vals[k*2+f]? else if k=i then vs[f]? else vals[(k - 1)*2+f]?)→
   ∃v' E',Ending.returned (.slice (some ⟨b,0,none⟩) (n+1) cap)=Ending.returned v'∧E'.w=w'∧OutRel (Ga w S β [.row 2 false xs,.row 2 false [v]]) (By w S β [.row 2 false xs,.row 2 false [v]] [.row 2 false (xs.take i++v::xs.drop i)]) 2 ⟨.ref 2 0 (xs.take i++v::xs.drop i).length,[.row 2 false (xs.take i++v::xs.drop i)],[(0,.dead)]⟩ v' E':=by
  intro cs' w' g hG hc
  obtain⟨k1,k2⟩:=Xq (w:=w) (S:=S) hn hin hxl ac hxr' hvr hc
  obtain⟨E',e1,e2⟩:=Xfa (sz:=2) (cap:=cap) (nb:=2) hM (r:=0) rfl (show(0:Nat)<2 by decide) XfY hb hh g k1 hcs (by rw[hlen];exact hG) k2
  rw[hlen]at e2
  exact⟨_,E',rfl,e1,by rw[hlen];exact e2⟩
 by_cases hroom:n+1≤cap
 ·by_cases hie:i=n
  ·subst hie
   refine(Xbw b i cap vb vc vs w hroom hm hvl2 (fun j hj=>by rw[Wd hh',Array.getElem?_eq_getElem (by omega)];rfl) (fun j hj=>G7 hh' hfr (by omega)) hvs hvone).mono ?_
   rintro e w' ⟨rfl,rfl⟩
   obtain⟨c1,aa,ab⟩:=Dc b t fr vs (i*2) w cs hh' (by omega)
   refine hown aa hroom ?_
   intro k f hk hf
   rw[ab]
   by_cases h:k<i
   ·rw[if_pos h,if_neg (by omega)]
    exact hvgn _ (by omega)
   ·rw[if_neg h,if_pos (by omega),if_pos (by omega),show k*2+f - i*2=f by omega]
  ·have hdl:(vals.drop (i*2)).length=(n - i)*2:=by rw[List.length_drop,hvl];omega
   refine(Xho b n cap i vb vc vals vs w (by omega) hroom hm hvb hvl hvl2 hvals (fun j hj=>by rw[Wd hh',Array.getElem?_eq_getElem (by omega)];rfl) (fun j hj=>G7 hh' hfr (by omega)) hvs hone hvone tv t cv.size cs.size
    (by simp[World.shape?,hhv']) (by simp[World.shape?,hh']) (by omega) (Y2 hhv' hplv) (Y2 hhv' hplv)).mono ?_
   rintro e w' ⟨rfl,rfl⟩
   obtain⟨c1,aa,ab⟩:=Dc b t fr (vals.drop (i*2)) ((i+1)*2) w.drew cs hh' (by rw[hdl];omega)
   obtain⟨c2,ad,ae⟩:=Dc b t fr vs (i*2) _ c1 aa.at_ (by rw[aa.size];omega)
   refine hown ((Wrote.ofDrew aa).trans ad) hroom ?_
   intro k f hk hf
   rw[ae,ab,hdl,hvl2]
   by_cases h:k<i
   ·rw[if_pos h,if_neg (by omega),if_neg (by omega)]
    exact hvgn _ (by omega)
   ·rw[if_neg h]
    by_cases h':k=i
    ·rw[if_pos h',if_pos (by omega),show k*2+f - i*2=f by omega]
    ·rw[if_neg h',if_neg (by omega),if_pos (by omega),List.getElem?_drop,show i*2+(k*2+f - (i+1)*2)=(k - 1)*2+f by omega]
 ·have hge:=grownCap_ge w (n+1) cap 113
  by_cases hie:i=n
  ·subst hie
   refine(R5 (some ⟨b,0,none⟩) i cap vb vc vals vs w hnc (by omega) hm hvl hvl2 (fun h=>by cases h) (fun a ha j v h=>by
    obtain rfl:=Option.some.inj ha
    rw[Addr.add_lit,Nat.zero_add]
    exact hvals j v h) hvs hvone).mono ?_
   rintro e w' ⟨rfl,rfl⟩
   refine hnew (Grow.alloc w.drew _).ofDrew hge ?_ ?_
   ·rw[Array.size_append,Hn]
    simp[Value.cells,hvl2,hvl]
    omega
   ·intro k f hk hf
    rw[Array.getElem?_append_left (by simp;omega),List.getElem?_toArray]
    by_cases h:k<i
    ·rw[if_pos h,List.getElem?_append_left (by omega)]
    ·rw[if_neg h,if_pos (by omega),List.getElem?_append_right (by omega),hvl,show k*2+f - i*2=f by omega]
  ·have hdl:(vals.drop (i*2)).length=(n - i)*2:=by rw[List.length_drop,hvl];omega
   have htl:(vals.take (i*2)).length=i*2:=by rw[List.length_take,hvl];omega
   refine(XjH b n cap i vb vc vals vs w (by omega) hnc (by omega) hm hvl hvl2 hvals hvs hone hvone).mono ?_
   rintro e w' ⟨rfl,rfl⟩
   generalize hROW:(vals.take (i*2)).toArray++Builtin.zeroCells zE.cells (n+1 - i)++Builtin.zeroCells zE.cells (grownCap w (n+1) cap 113 - (n+1))=ROW
   have hRs:ROW.size=grownCap w (n+1) cap 113*2:=by
    rw[←hROW,Array.size_append,Array.size_append,Hn,Hn]
    simp[Value.cells,htl]
    omega
   have hR:∀k,k<i*2→ROW[k]? =vals[k]? :=by
    intro k hk
    rw[←hROW,Array.append_assoc,Array.getElem?_append_left (by simp;omega),List.getElem?_toArray,List.getElem?_take,if_pos hk]
   have g0:=(Grow.alloc w (.cells ROW 113)).drew
   obtain⟨c1,aa,ab⟩:=Dc w.heap.size 113 (0,0) vs (i*2) _ ROW g0.new (by omega)
   obtain⟨c2,ad,ae⟩:=Dc w.heap.size 113 (0,0) (vals.drop (i*2)) ((i+1)*2) _ c1 (show((w.alloc (.cells ROW 113)).drew.setCells w.heap.size (i*2) vs).drew.heap[w.heap.size]? =_ from aa.at_) (by rw[aa.size,hdl];omega)
   refine hnew (((g0.wrote aa).drew).wrote ad) hge (by rw[ad.size,aa.size,hRs];exact Nat.le_refl _) ?_
   intro k f hk hf
   rw[ae,ab,hdl,hvl2]
   by_cases h:k<i
   ·rw[if_pos h,if_neg (by omega),if_neg (by omega)]
    exact hR _ (by omega)
   ·rw[if_neg h]
    by_cases h':k=i
    ·rw[if_pos h',if_neg (by omega),if_pos (by omega),show k*2+f - i*2=f by omega]
    ·rw[if_neg h',if_pos (by omega),List.getElem?_drop,show i*2+(k*2+f - (i+1)*2)=(k - 1)*2+f by omega]
end
section
open Go Go.Proofs
def Xc5:List (Nat×TyRow):=[ty3,ty5,ty9,XfK,Z2,XaC]
theorem XcU:B1 Tryz.prog Xc5:=B1.of (by kernel_rfl)
theorem Gn:Setup Tryz.prog Xc5:=⟨XcU,mixed⟩
open Go.RowKit
def Kf(x:Nat):Bool:=decide (97≤x∧x≤122∨48≤x∧x≤57∨x=46∨x=45)
def Bs(t:ByteArray):Bool:=t.data.toList.all (fun c=>Kf c.toNat)&&decide (1≤t.size∧t.size≤20)
theorem N5{t:ByteArray}{j:Nat}(hj:j<t.size):t.data.toList[j]? =some t[j]:=by
 rw[Array.getElem?_toList]
 exact Array.getElem?_eq_getElem hj
theorem Ox{t:ByteArray}{j:Nat}(hj:j<t.size)(h:Kf (t[j]).toNat=false):false=Bs t:=by
 symm
 unfold Bs
 rw[Bool.and_eq_false_iff]
 left
 rw[Bool.eq_false_iff]
 intro ha
 have:=List.all_eq_true.1 ha t[j] (List.mem_of_getElem? (N5 hj))
 rw[h]at this
 cases this
theorem Po{t:ByteArray}{b:Bool}(h:∀(j:Nat) (hj:j<t.size),Kf (t[j]).toNat=true)(hb:b=decide (1≤t.size∧t.size≤20)):b=Bs t:=by
 unfold Bs
 rw[List.all_eq_true.2,hb,Bool.true_and]
 intro c hc
 obtain⟨j,hj⟩:=List.getElem?_of_mem hc
 have hl:j<t.size:=by
  have:=(List.getElem?_eq_some_iff.1 hj).1
  rwa[Array.length_toList]at this
 rw[N5 hl]at hj
 rw[←Option.some.inj hj]
 exact h j hl
theorem Q8{t:ByteArray}(h:Bs t=true):1≤t.size∧t.size≤20:=by
 unfold Bs at h
 rw[Bool.and_eq_true,decide_eq_true_eq]at h
 exact h.2
theorem Xt:∀(l m:List UInt8) (acc:Nat),Lib.decFrom acc (l++m)=(Lib.decFrom acc l).bind fun a=>Lib.decFrom a m
 |[],_,_=>rfl
 |c::l,m,acc=>by
  simp only[List.cons_append,Lib.decFrom]
  cases Lib.digitVal c with
  |none=>rfl
  |some d=>exact Xt l m _
theorem Vu{n:Nat}(h:n<10):Lib.digitVal (UInt8.ofNat (48+n))=some n:=by
 have e:(UInt8.ofNat (48+n)).toNat=48+n:=by rw[UInt8.toNat_ofNat',Nat.mod_eq_of_lt (by omega)]
 unfold Lib.digitVal
 rw[e,if_pos (by omega)]
 congr 1
 omega
theorem Tf(u:Nat):Lib.decFrom 0 (Lib.decDigits u)=some u:=by
 induction u using Nat.strongRecOn with
 |_ u ih=>
  by_cases h:u<10
  ·rw[Lib.decDigits,dif_pos h]
   simp only[Lib.decFrom,Vu h]
   congr 1
   omega
  ·rw[Lib.decDigits,dif_neg h,Xt,ih (u/10) (by omega)]
   simp only[Option.bind_some,Lib.decFrom,Vu (show u% 10<10 by omega)]
   congr 1
   omega
def Bh(t:ByteArray):Int×Bool:=match Lib.decFrom 0 t.data.toList with
 |some n=>if n≤1000000000∧Ch (n:Int)=t then((n:Int),true)else(0,false)
 |none=>(0,false)
theorem Wn{t:ByteArray}{m:Nat}(h:Lib.decFrom 0 t.data.toList=some m):Bh t=if m≤1000000000∧Ch (m:Int)=t then((m:Int),true)else(0,false):=by
 unfold Bh
 rw[h]
theorem Xlz{t:ByteArray}{j:Nat}(hj:j<t.size)(h:¬(48≤(t[j]).toNat∧(t[j]).toNat≤57)):(0,false)=Bh t:=by
 unfold Bh
 split
 ·rename_i n hn
  obtain⟨d,hd⟩:=Lib.digit_of_decFrom _ _ _ hn j _ (N5 hj)
  unfold Lib.digitVal at hd
  rw[if_neg h]at hd
  cases hd
 ·rfl
theorem Xfw{n:Int}{t:ByteArray}(e:Ch n=t)(h0:0≤n)(h:n≤1000000000):1≤t.size∧t.size≤10:=by
 rw[←e]
 unfold Ch Lib.itoa
 rw[Bz,if_neg (by omega)]
 exact Ir 9 n.toNat (by omega)
theorem XkV{t:ByteArray}(h:10<t.size):(0,false)=Bh t:=by
 unfold Bh
 split
 ·rename_i n hn
  rw[if_neg]
  rintro⟨h1,h2⟩
  have:=Xfw h2 (by omega) (by omega)
  omega
 ·rfl
theorem Xlc{n:Int}(h0:0≤n)(h:n≤1000000000):Bh (Ch n)=(n,true):=by
 have e:Lib.decFrom 0 (Ch n).data.toList=some n.toNat:=by
  unfold Ch Lib.itoa
  rw[Rq,if_neg (by omega)]
  exact Tf _
 rw[Wn e,if_pos ⟨by omega,by rw[Int.toNat_of_nonneg h0]⟩,Int.toNat_of_nonneg h0]
theorem Xah:∀(l:List UInt8) (acc n:Nat),Lib.decFrom acc l=some n→acc≤n
 |[],acc,n,h=>by simp only[Lib.decFrom,Option.some.injEq]at h;omega
 |c::l,acc,n,h=>by
  simp only[Lib.decFrom]at h
  split at h
  ·have:=Xah l _ n h
   omega
  ·cases h
theorem XdF:∀(l:List UInt8) (acc n:Nat),Lib.decFrom acc l=some n→n≤1000000000→Lib.parseUint10 acc l= .ok n
 |[],acc,n,h,_=>by simp only[Lib.decFrom,Option.some.injEq]at h;rw[h];rfl
 |c::l,acc,n,h,hn=>by
  simp only[Lib.decFrom,Lib.digitVal]at h
  unfold Lib.parseUint10
  by_cases hc:48≤c.toNat∧c.toNat≤57
  ·rw[if_pos hc]at h⊢
   have:=Xah l _ n h
   rw[if_neg (by omega),if_neg (by omega)]
   exact XdF l _ n h hn
  ·rw[if_neg hc]at h
   cases h
theorem XkQ{l:List UInt8}{n:Nat}(h:Lib.decFrom 0 l=some n)(hl:l≠[])(hn:n≤1000000000):Lib.atoiAll l= .ok n:=by
 cases l with
 |nil=>exact absurd rfl hl
 |cons c r=>
  obtain⟨d,hd⟩:=Lib.digit_of_decFrom _ _ _ h 0 c rfl
  unfold Lib.digitVal at hd
  have hc:48≤c.toNat∧c.toNat≤57:=by
   by_cases hc:48≤c.toNat∧c.toNat≤57
   ·exact hc
   ·rw[if_neg hc]at hd;cases hd
  have h45:¬c.toNat=45:=by omega
  unfold Lib.atoiAll
  simp only[if_neg (show¬(c.toNat=43∨c.toNat=45)by omega),Lib.parseMag,if_neg (show¬(c::r=[])by simp),XdF _ _ _ h hn]
  rw[if_neg (by omega),if_neg (by omega),if_neg h45]
theorem XiM(t:ByteArray):Bh t=match Lib.atoiAll t.data.toList with
  | .ok v=>if Br v=true∧Ch v=t then(v,true)else(0,false)
  |_=>(0,false):=by
 cases hd:Lib.decFrom 0 t.data.toList with
 |some n=>
  rw[Wn hd]
  by_cases hc:n≤1000000000∧Ch (n:Int)=t
  ·have hne:t.data.toList≠[]:=by
    intro e
    have:=(Xfw hc.2 (by omega) (by omega)).1
    have hs:t.data.toList.length=t.size:=Array.length_toList
    rw[e]at hs
    simp at hs
    omega
   rw[if_pos hc,XkQ hd hne hc.1]
   simp only[]
   rw[if_pos ⟨by unfold Br;exact decide_eq_true (by omega),hc.2⟩]
  ·rw[if_neg hc]
   split
   ·rename_i v hv
    rw[if_neg]
    rintro⟨h1,h2⟩
    unfold Br at h1
    rw[decide_eq_true_eq]at h1
    have e:Lib.decFrom 0 t.data.toList=some v.toNat:=by
     rw[←h2]
     unfold Ch Lib.itoa
     rw[Rq,if_neg (by omega)]
     exact Tf _
    rw[hd]at e
    have e2:=Option.some.inj e
    exact hc ⟨by omega,by rw[e2,Int.toNat_of_nonneg h1.1];exact h2⟩
   ·rfl
 |none=>
  have e0:Bh t=(0,false):=by unfold Bh;rw[hd]
  rw[e0]
  split
  ·rename_i v hv
   rw[if_neg]
   rintro⟨h1,h2⟩
   unfold Br at h1
   rw[decide_eq_true_eq]at h1
   have e:Lib.decFrom 0 t.data.toList=some v.toNat:=by
    rw[←h2]
    unfold Ch Lib.itoa
    rw[Rq,if_neg (by omega)]
    exact Tf _
   rw[hd]at e
   cases e
  ·rfl
variable {name text ob a:ByteArray} {o:List Ad} {oa:Int} {oc:Bool} {l:List A0} {xl xo:List (List D)} {no:Nat}
theorem Kt{o:Bool}(hs:name.size≤1000000000)(hr:Bs name=o):Fn Tryz.prog 302 [S name] [] ⟨B o,[],[]⟩:=by
 refine Fn.go Gn Tryz.func302 fun P hP Q hQ=>?_
 conv=>cbv
 refine .go fun v1 ah=>?_
 conv=>cbv
 refine LoopW.lp (κ:=Int) Gn hP [] [0,6] (fun i7=>[(7,I i7)]) (fun i7=>[])
  (fun i7=>0≤i7∧i7≤name.size∧∀(j:Nat) (hj:j<name.size),j<i7.toNat→Kf (name[j]).toNat=true)
  (fun i7=>(name.size - i7).toNat) (0) ⟨by omega,by omega,fun j _ h=>by simp at h⟩ ⟨rfl,trivial⟩ rfl ?_
 rintro i7 J ⟨h0,h1,hb⟩ hJ
 conv=>cbv
 refine .lss (fun h2=>?_) fun h2=>?_
 conv=>cbv
 refine .go i7.toNat fun hjv3 v3 ad bv3=>?_
 conv=>cbv
 refine .geq (fun h4=>?_) fun h4=>?_
 conv=>cbv
 refine .leq (fun h5=>?_) fun h5=>?_
 conv=>cbv
 refine .add fun v6 ai=>?_
 conv=>cbv
 exact .go [] (v6) (hJ _ ⟨by omega,by omega,fun j hj h=>if e:j=i7.toNat then by subst e;unfold Kf;rw[decide_eq_true_eq];omega else hb j hj (by omega)⟩ mlt)
 conv=>cbv
 refine .geq (fun h6=>?_) fun h6=>?_
 conv=>cbv
 refine .leq (fun h7=>?_) fun h7=>?_
 conv=>cbv
 refine .add fun v8 aa=>?_
 conv=>cbv
 exact .go [] (v8) (hJ _ ⟨by omega,by omega,fun j hj h=>if e:j=i7.toNat then by subst e;unfold Kf;rw[decide_eq_true_eq];omega else hb j hj (by omega)⟩ mlt)
 conv=>cbv
 refine .eql (fun h8=>?_) fun h8=>?_
 conv=>cbv
 refine .add fun v9 ac=>?_
 conv=>cbv
 exact .go [] (v9) (hJ _ ⟨by omega,by omega,fun j hj h=>if e:j=i7.toNat then by subst e;unfold Kf;rw[decide_eq_true_eq];omega else hb j hj (by omega)⟩ mlt)
 conv=>cbv
 refine .eql (fun h9=>?_) fun h9=>?_
 conv=>cbv
 refine .add fun ae ag=>?_
 conv=>cbv
 exact .go [] (ae) (hJ _ ⟨by omega,by omega,fun j hj h=>if e:j=i7.toNat then by subst e;unfold Kf;rw[decide_eq_true_eq];omega else hb j hj (by omega)⟩ mlt)
 conv=>cbv
 have e:false=Bs name:=(by exact Ox (show i7.toNat<name.size by omega) (by unfold Kf;rw[decide_eq_false_iff_not];omega))
 rw[hr]at e
 subst e
 exact hQ _ _ (.b rfl rfl)
 conv=>cbv
 refine .eql (fun h7=>?_) fun h7=>?_
 conv=>cbv
 refine .add fun v8 aa=>?_
 conv=>cbv
 exact .go [] (v8) (hJ _ ⟨by omega,by omega,fun j hj h=>if e:j=i7.toNat then by subst e;unfold Kf;rw[decide_eq_true_eq];omega else hb j hj (by omega)⟩ mlt)
 conv=>cbv
 refine .eql (fun h8=>?_) fun h8=>?_
 conv=>cbv
 refine .add fun v9 ac=>?_
 conv=>cbv
 exact .go [] (v9) (hJ _ ⟨by omega,by omega,fun j hj h=>if e:j=i7.toNat then by subst e;unfold Kf;rw[decide_eq_true_eq];omega else hb j hj (by omega)⟩ mlt)
 conv=>cbv
 have e:false=Bs name:=(by exact Ox (show i7.toNat<name.size by omega) (by unfold Kf;rw[decide_eq_false_iff_not];omega))
 rw[hr]at e
 subst e
 exact hQ _ _ (.b rfl rfl)
 conv=>cbv
 refine .geq (fun h5=>?_) fun h5=>?_
 conv=>cbv
 refine .leq (fun h6=>?_) fun h6=>?_
 conv=>cbv
 refine .add fun v7 af=>?_
 conv=>cbv
 exact .go [] (v7) (hJ _ ⟨by omega,by omega,fun j hj h=>if e:j=i7.toNat then by subst e;unfold Kf;rw[decide_eq_true_eq];omega else hb j hj (by omega)⟩ mlt)
 conv=>cbv
 refine .eql (fun h7=>?_) fun h7=>?_
 conv=>cbv
 refine .add fun v8 aa=>?_
 conv=>cbv
 exact .go [] (v8) (hJ _ ⟨by omega,by omega,fun j hj h=>if e:j=i7.toNat then by subst e;unfold Kf;rw[decide_eq_true_eq];omega else hb j hj (by omega)⟩ mlt)
 conv=>cbv
 refine .eql (fun h8=>?_) fun h8=>?_
 conv=>cbv
 refine .add fun v9 ac=>?_
 conv=>cbv
 exact .go [] (v9) (hJ _ ⟨by omega,by omega,fun j hj h=>if e:j=i7.toNat then by subst e;unfold Kf;rw[decide_eq_true_eq];omega else hb j hj (by omega)⟩ mlt)
 conv=>cbv
 have e:false=Bs name:=(by exact Ox (show i7.toNat<name.size by omega) (by unfold Kf;rw[decide_eq_false_iff_not];omega))
 rw[hr]at e
 subst e
 exact hQ _ _ (.b rfl rfl)
 conv=>cbv
 refine .eql (fun h6=>?_) fun h6=>?_
 conv=>cbv
 refine .add fun v7 af=>?_
 conv=>cbv
 exact .go [] (v7) (hJ _ ⟨by omega,by omega,fun j hj h=>if e:j=i7.toNat then by subst e;unfold Kf;rw[decide_eq_true_eq];omega else hb j hj (by omega)⟩ mlt)
 conv=>cbv
 refine .eql (fun h7=>?_) fun h7=>?_
 conv=>cbv
 refine .add fun v8 aa=>?_
 conv=>cbv
 exact .go [] (v8) (hJ _ ⟨by omega,by omega,fun j hj h=>if e:j=i7.toNat then by subst e;unfold Kf;rw[decide_eq_true_eq];omega else hb j hj (by omega)⟩ mlt)
 conv=>cbv
 have e:false=Bs name:=(by exact Ox (show i7.toNat<name.size by omega) (by unfold Kf;rw[decide_eq_false_iff_not];omega))
 rw[hr]at e
 subst e
 exact hQ _ _ (.b rfl rfl)
 conv=>cbv
 refine .go fun v3 ad=>?_
 conv=>cbv
 generalize ab:Ca v3 1 20=r4
 refine .dd hP (Gk ab) ?_
 cases r4
 simp only[Ca,decide_eq_true_eq,decide_eq_false_iff_not]at ab
 conv=>cbv
 have e:false=Bs name:=(by exact Po (fun j hj=>hb j hj (by omega)) (by symm;rw[decide_eq_false_iff_not];omega))
 rw[hr]at e
 subst e
 exact hQ _ _ (.b rfl rfl)
 simp only[Ca,decide_eq_true_eq,decide_eq_false_iff_not]at ab
 conv=>cbv
 have e:true=Bs name:=(by exact Po (fun j hj=>hb j hj (by omega)) (by symm;rw[decide_eq_true_eq];omega))
 rw[hr]at e
 subst e
 exact hQ _ _ (.b rfl rfl)
theorem Nh{o:Bool}(hs:name.size≤1000000000)(hr:Bs name=o):Fn Tryz.prog 265 [S name] [] ⟨B o,[],[]⟩:=by
 refine Fn.go Gn Tryz.func265 fun P hP Q hQ=>?_
 conv=>cbv
 refine LoopW.lp (κ:=Int) Gn hP [] [0] (fun i3=>[(3,I i3)]) (fun i3=>[])
  (fun i3=>0≤i3∧i3≤name.size∧∀(j:Nat) (hj:j<name.size),j<i3.toNat→Kf (name[j]).toNat=true)
  (fun i3=>(name.size - i3).toNat) (0) ⟨by omega,by omega,fun j _ h=>by simp at h⟩ ⟨rfl,trivial⟩ rfl ?_
 rintro i3 J ⟨h0,h1,hb⟩ hJ
 conv=>cbv
 refine .go fun v1 ae=>?_
 conv=>cbv
 refine .lss (fun h2=>?_) fun h2=>?_
 conv=>cbv
 refine .go i3.toNat fun hjv3 v3 ad bv3=>?_
 conv=>cbv
 refine .id fun v4 af=>?_
 conv=>cbv
 generalize aa:Bi v4 97 122=r5
 refine .dd hP (Dt aa) ?_
 cases r5
 simp only[Bi,decide_eq_true_eq,decide_eq_false_iff_not]at aa
 conv=>cbv
 generalize ab:Bi v4 48 57=r6
 refine .dd hP (Dt ab) ?_
 cases r6
 simp only[Bi,decide_eq_true_eq,decide_eq_false_iff_not]at ab
 conv=>cbv
 refine .neq (fun h7=>?_) fun h7=>?_
 conv=>cbv
 refine .neq (fun h8=>?_) fun h8=>?_
 conv=>cbv
 have e:false=Bs name:=(by exact Ox (show i3.toNat<name.size by omega) (by unfold Kf;rw[decide_eq_false_iff_not];omega))
 rw[hr]at e
 subst e
 exact hQ _ _ (.b rfl rfl)
 conv=>cbv
 refine .add fun v9 ag=>?_
 conv=>cbv
 exact .go [] (v9) (hJ _ ⟨by omega,by omega,fun j hj h=>if e:j=i3.toNat then by subst e;unfold Kf;rw[decide_eq_true_eq];omega else hb j hj (by omega)⟩ mlt)
 conv=>cbv
 refine .add fun v8 ah=>?_
 conv=>cbv
 exact .go [] (v8) (hJ _ ⟨by omega,by omega,fun j hj h=>if e:j=i3.toNat then by subst e;unfold Kf;rw[decide_eq_true_eq];omega else hb j hj (by omega)⟩ mlt)
 simp only[Bi,decide_eq_true_eq,decide_eq_false_iff_not]at ab
 conv=>cbv
 refine .add fun v7 ai=>?_
 conv=>cbv
 exact .go [] (v7) (hJ _ ⟨by omega,by omega,fun j hj h=>if e:j=i3.toNat then by subst e;unfold Kf;rw[decide_eq_true_eq];omega else hb j hj (by omega)⟩ mlt)
 simp only[Bi,decide_eq_true_eq,decide_eq_false_iff_not]at aa
 conv=>cbv
 refine .add fun v6 aj=>?_
 conv=>cbv
 exact .go [] (v6) (hJ _ ⟨by omega,by omega,fun j hj h=>if e:j=i3.toNat then by subst e;unfold Kf;rw[decide_eq_true_eq];omega else hb j hj (by omega)⟩ mlt)
 conv=>cbv
 refine .go fun v3 ad=>?_
 conv=>cbv
 generalize ac:Bi v3 1 20=r4
 refine .dd hP (Dt ac) ?_
 cases r4
 simp only[Bi,decide_eq_true_eq,decide_eq_false_iff_not]at ac
 conv=>cbv
 have e:false=Bs name:=(by exact Po (fun j hj=>hb j hj (by omega)) (by symm;rw[decide_eq_false_iff_not];omega))
 rw[hr]at e
 subst e
 exact hQ _ _ (.b rfl rfl)
 simp only[Bi,decide_eq_true_eq,decide_eq_false_iff_not]at ac
 conv=>cbv
 have e:true=Bs name:=(by exact Po (fun j hj=>hb j hj (by omega)) (by symm;rw[decide_eq_true_eq];omega))
 rw[hr]at e
 subst e
 exact hQ _ _ (.b rfl rfl)
theorem S4{ob:Bool}(hs:text.size≤1000000000)(hr:Bh text=(oa,ob)):Fn Tryz.prog 304 [S text] [] ⟨.tup [I oa,B ob],[],[]⟩:=by
 refine Fn.go Gn Tryz.func304 fun P hP Q hQ=>?_
 conv=>cbv
 refine .go fun v1 aj=>?_
 conv=>cbv
 refine .gtr (fun h2=>?_) fun h2=>?_
 conv=>cbv
 have e:(0,false)=Bh text:=(by exact XkV (by omega))
 rw[hr]at e
 simp only[Prod.mk.injEq]at e
 obtain⟨rfl,rfl⟩:=e
 refine hQ _ _ ?_
 exact .m rfl .d2
 conv=>cbv
 refine LoopW.lp (κ:=Int×Int) Gn hP [] [0] (fun(i4,i5)=>[(4,I i4),(5,I i5)]) (fun(i4,i5)=>[])
  (fun(i4,i5)=>0≤i5∧i5≤text.size∧∃m:Nat,i4=m∧Lib.decFrom 0 (text.data.toList.take i5.toNat)=some m∧m<10^i5.toNat)
  (fun(i4,i5)=>(text.size - i5).toNat) (0,0) ⟨by omega,by omega,0,rfl,rfl,by simp⟩ ⟨rfl,rfl,trivial⟩ rfl ?_
 rintro⟨i4,i5⟩ J ⟨h0,h1,m,hm,hd,hlt⟩ hJ
 have hp:=Nat.pow_le_pow_right (n:=10) (by decide) (show i5.toNat≤10 by omega)
 have ac:(10:Nat)^10=10000000000:=by decide
 rw[ac]at hp
 conv=>cbv
 refine .go fun v3 ak=>?_
 conv=>cbv
 refine .lss (fun h4=>?_) fun h4=>?_
 conv=>cbv
 refine .go i5.toNat fun hjv5 v5 al bv5=>?_
 conv=>cbv
 refine .lss (fun h6=>?_) fun h6=>?_
 conv=>cbv
 have e:(0,false)=Bh text:=(by exact Xlz (show i5.toNat<text.size by omega) (by omega))
 rw[hr]at e
 simp only[Prod.mk.injEq]at e
 obtain⟨rfl,rfl⟩:=e
 refine hQ _ _ ?_
 exact .m rfl .d2
 conv=>cbv
 refine .go i5.toNat fun hjv7 v7 am bv7=>?_
 conv=>cbv
 refine .gtr (fun h8=>?_) fun h8=>?_
 conv=>cbv
 have e:(0,false)=Bh text:=(by exact Xlz (show i5.toNat<text.size by omega) (by omega))
 rw[hr]at e
 simp only[Prod.mk.injEq]at e
 obtain⟨rfl,rfl⟩:=e
 refine hQ _ _ ?_
 exact .m rfl .d2
 conv=>cbv
 refine .mul fun v9 an=>?_
 conv=>cbv
 refine .go i5.toNat fun hjv10 ao ae bv10=>?_
 conv=>cbv
 refine .id fun ap af=>?_
 conv=>cbv
 refine .add fun aq ag=>?_
 conv=>cbv
 refine .sub fun ad ah=>?_
 conv=>cbv
 refine .add fun aa ai=>?_
 conv=>cbv
 have hdt:=Lib.decFrom_take _ _ _ _ _ ((text[i5.toNat]).toNat - 48) hd (N5 (show i5.toNat<text.size by omega)) (by unfold Lib.digitVal;rw[if_pos (by omega)])
 exact .go [] (ad,aa) (hJ _ ⟨by omega,by omega,m*10+((text[i5.toNat]).toNat - 48),by omega,by rw[show aa.toNat=i5.toNat+1 by omega];exact hdt,by rw[show aa.toNat=i5.toNat+1 by omega,Nat.pow_succ];omega⟩ mlt)
 conv=>cbv
 refine .gtr (fun h5=>?_) fun h5=>?_
 conv=>cbv
 have e:(0,false)=Bh text:=(by rw[List.take_of_length_le (by rw[Array.length_toList];show text.size≤_;omega)]at hd;rw[Wn hd,if_neg (by omega)])
 rw[hr]at e
 simp only[Prod.mk.injEq]at e
 obtain⟨rfl,rfl⟩:=e
 refine hQ _ _ ?_
 exact .m rfl .d2
 conv=>cbv
 generalize ab:Ch i4=r6
 refine .dd hP (XdJ (by unfold Xbj;omega) ab) ?_
 conv=>cbv
 refine .neq (fun h7=>?_) fun h7=>?_
 conv=>cbv
 have e:(0,false)=Bh text:=(by rw[List.take_of_length_le (by rw[Array.length_toList];show text.size≤_;omega)]at hd;rw[Wn hd,if_neg];rintro⟨_,h⟩;exact h7 (by rw[←ab,hm];exact h))
 rw[hr]at e
 simp only[Prod.mk.injEq]at e
 obtain⟨rfl,rfl⟩:=e
 refine hQ _ _ ?_
 exact .m rfl .d2
 conv=>cbv
 have e:(i4,true)=Bh text:=(by rw[List.take_of_length_le (by rw[Array.length_toList];show text.size≤_;omega)]at hd;rw[Wn hd,if_pos ⟨by omega,by rw[←hm,ab];exact h7⟩,hm])
 rw[hr]at e
 simp only[Prod.mk.injEq]at e
 obtain⟨rfl,rfl⟩:=e
 refine hQ _ _ ?_
 exact .m rfl .d2
theorem XdP{w:World}(hG:Globs.ok w fun b=>b<w.heap.size){n:Int}{o:ByteArray}(hn:Xbj n)(hr:Ch n=o):Calls Tryz.prog 178 #[.int .i64 n] w fun e w'=>e= .returned (.string o)∧Below w.heap.size w w':=by
 refine(Xc7 (n:=n) hn hr).ok.callsV hG ⟨rfl,?_⟩
 intro j y hy
 match j,hy with
 |0,hy=>cases hy;exact .d _ _ (.sc _ rfl)
theorem XmD{l:List UInt8}{v:Int}(h:Lib.atoiAll l= .ok v):Xbj v:=by
 cases l with
 |nil=>cases h
 |cons c r=>
  unfold Lib.atoiAll at h
  simp only at h
  unfold Xbj
  split at h
  ·cases h
  ·cases h
  ·split at h
   ·cases h
   ·split at h
    ·cases h
    ·simp only[Lib.NumEnd.ok.injEq]at h
     split at h<;>omega
set_option maxHeartbeats 1000000 in
set_option maxRecDepth 100000 in
theorem Xa6{text:ByteArray}(hs:text.size≤1000000000){w:World}(hG:Globs.ok w fun b=>b<w.heap.size):Calls Tryz.prog 306 #[.string text] w fun e w'=>
  e= .returned (.tuple #[.int .i64 (Bh text).1,.bool (Bh text).2])∧Below w.heap.size w w':=by
 have hG2:∀{w:World},(Globs.ok w fun b=>b<w.heap.size)→Ha w 0:=fun h=>Xih h
 have hG3:∀{w:World},(Globs.ok w fun b=>b<w.heap.size)→Ha w 1:=fun h=>Xl2 h
 rw[XiM]
 cases ha:Lib.atoiAll text.data.toList
 ·rename_i v
  dsimp only
  have hv:=XmD ha
  have hp:=fun w=>Tryz.strconv_Atoi_ok text (by omega) v ha w
  cases hn:Br v with
  |false=>
   simp only[Bool.false_eq_true,false_and,if_false]
   go_enter Tryz.func306,Tryz.ntmps306
   go_wp2_with (first
    |(go_at_call 330;refine(hp _).mono ?_;rintro e w1 ⟨rfl,hb⟩;have aa:Below w.heap.size w w1:=(by rcases hb with rfl|⟨t,rfl⟩;exact Below.refl _ _;exact Lib.bytesWorld_below _ _ _);clear hb;have hG1:=Dh hG aa)
    |(go_at_call 230;refine(K3 hG1 hn).mono ?_;rintro e w2 ⟨rfl,hb2⟩;have hG2_:=Dh hG1 hb2))
   go_ret2
   exact⟨rfl,aa.trans (hb2.mono aa.size)⟩
  |true=>
   obtain⟨o,ho⟩:∃o,Ch v=o:=⟨_,rfl⟩
   by_cases he:o=text
   ·simp only[ho,he,true_and,if_true]
    subst he
    go_enter Tryz.func306,Tryz.ntmps306
    go_wp2_with (first
     |(go_at_call 330;refine(hp _).mono ?_;rintro e w1 ⟨rfl,hb⟩;have aa:Below w.heap.size w w1:=(by rcases hb with rfl|⟨t,rfl⟩;exact Below.refl _ _;exact Lib.bytesWorld_below _ _ _);clear hb;have hG1:=Dh hG aa)
     |(go_at_call 230;refine(K3 hG1 hn).mono ?_;rintro e w2 ⟨rfl,hb2⟩;have hG2_:=Dh hG1 hb2)
     |(go_at_call 178;refine(XdP hG2_ hv ho).mono ?_;rintro e w3 ⟨rfl,ab⟩))
    go_ret2
    exact⟨rfl,(aa.trans (hb2.mono aa.size)).trans (ab.mono (aa.trans (hb2.mono aa.size)).size)⟩
   ·simp only[ho,he,and_false,if_false]
    have ac:=XfV he
    go_enter Tryz.func306,Tryz.ntmps306
    go_wp2_with (first
     |(go_at_call 330;refine(hp _).mono ?_;rintro e w1 ⟨rfl,hb⟩;have aa:Below w.heap.size w w1:=(by rcases hb with rfl|⟨t,rfl⟩;exact Below.refl _ _;exact Lib.bytesWorld_below _ _ _);clear hb;have hG1:=Dh hG aa)
     |(go_at_call 230;refine(K3 hG1 hn).mono ?_;rintro e w2 ⟨rfl,hb2⟩;have hG2_:=Dh hG1 hb2)
     |(go_at_call 178;refine(XdP hG2_ hv ho).mono ?_;rintro e w3 ⟨rfl,ab⟩))
    go_ret2
    exact⟨rfl,(aa.trans (hb2.mono aa.size)).trans (ab.mono (aa.trans (hb2.mono aa.size)).size)⟩
 ·dsimp only
  obtain⟨ev,h1,h2⟩:=hG2 hG
  have hp:=Tryz.strconv_Atoi_syntax text (by omega) ha ev w h1 h2
  go_enter Tryz.func306,Tryz.ntmps306
  go_wp2_with (go_at_call 330;refine hp.mono ?_;rintro e w1 ⟨N,rfl,-,-,aa⟩)
  go_ret2
  exact⟨rfl,aa⟩
 ·dsimp only
  obtain⟨ev,h1,h2⟩:=hG3 hG
  have hp:=Tryz.strconv_Atoi_range text (by omega) ha ev w h1 h2
  go_enter Tryz.func306,Tryz.ntmps306
  go_wp2_with (go_at_call 330;refine hp.mono ?_;rintro e w1 ⟨N,rfl,-,-,aa⟩)
  go_ret2
  exact⟨rfl,aa⟩
theorem Sa{ob:Bool}(hs:text.size≤1000000000)(hr:Bh text=(oa,ob)):Fn Tryz.prog 306 [S text] [] ⟨.tup [I oa,B ob],[],[]⟩:=by
 refine⟨E8 Tryz.func306 rfl rfl,CallOk.ofCallsT rfl rfl fun E vs hS hG hA=>?_⟩
 obtain⟨u,rfl,h1⟩:=Xlb hA
 rw[Qj h1]
 have h2:=Xa6 hs (Globs.step hS (fun _ _=>rfl) hG)
 rw[hr]at h2
 exact h2
def J9(s:ByteArray):Int:=Lib.indexByte s.data.toList 58
def Lb(s:ByteArray):ByteArray×ByteArray×Bool:=if 0≤J9 s then(s.extract 0 (J9 s).toNat,s.extract ((J9 s).toNat+1) s.size,true)else(s,tx [],false)
theorem Uv(c:UInt8):∀l:List UInt8,-1≤Lib.indexByte l c∧Lib.indexByte l c<l.length
 |[]=>by simp[Lib.indexByte]
 |b::l=>by
  have:=Uv c l
  unfold Lib.indexByte
  rw[List.length_cons]
  split
  ·omega
  ·split
   ·omega
   ·omega
theorem Za{s:ByteArray}{i:Int}(e:J9 s=i): -1≤i∧i<s.size:=by
 rw[←e]
 exact Uv 58 s.data.toList
theorem Kv{s:ByteArray}{o:Int}(hr:J9 s=o):Fn Tryz.prog 342 [S s,S (tx [58])] [] ⟨I o,[],[]⟩:=by
 refine⟨E8 Tryz.func342 rfl rfl,CallOk.ofCalls fun E vs hS hA=>?_⟩
 obtain⟨u,v,rfl,h1,h2⟩:=XmS hA
 rw[Qj h1,Qj h2]
 refine(Tryz.stringslite_Index_one s 58 E.w).mono ?_
 rintro e w' ⟨rfl,rfl⟩
 refine⟨_,rfl,Below.refl _ _,?_⟩
 show RelD _ _ (.sc (.int .i64 o)) (.int .i64 (J9 s))
 rw[hr]
 exact .sc _ rfl
theorem Lr{oa:ByteArray}(hs:a.size≤1000000000)(hr:Lb a=(oa,ob,oc)):Fn Tryz.prog 329 [S a,S (tx [58])] [] ⟨.tup [S oa,S ob,B oc],[],[]⟩:=by
 refine Fn.go Gn Tryz.func329 fun P hP Q hQ=>?_
 conv=>cbv
 generalize aa:J9 a=r1
 refine .dd hP (Kv aa) ?_
 conv=>cbv
 have hb:=Za aa
 refine .geq (fun h2=>?_) fun h2=>?_
 conv=>cbv
 refine .hi fun s3 ab=>?_
 conv=>cbv
 refine .go fun v4 ac=>?_
 conv=>cbv
 have ae:v4=1:=by rw[ac];rfl
 refine .add fun v5 af=>?_
 conv=>cbv
 refine .lo fun s6 ad=>?_
 conv=>cbv
 have e:(s3,s6,true)=Lb a:=(by unfold Lb;rw[aa,if_pos (by omega),ab,ad,show v5.toNat=r1.toNat+1 by omega])
 rw[hr]at e
 simp only[Prod.mk.injEq]at e
 obtain⟨rfl,rfl,rfl⟩:=e
 refine hQ _ _ ?_
 exact .m rfl .d3
 conv=>cbv
 have e:(a,(tx []),false)=Lb a:=(by unfold Lb;rw[aa,if_neg (by omega)])
 rw[hr]at e
 simp only[Prod.mk.injEq]at e
 obtain⟨rfl,rfl,rfl⟩:=e
 refine hQ _ _ ?_
 exact .m rfl .d3
theorem R9{oa:ByteArray}(hs:a.size≤1000000000)(hr:Lb a=(oa,ob,oc)):Fn Tryz.prog 305 [S a,S (tx [58])] [] ⟨.tup [S oa,S ob,B oc],[],[]⟩:=by
 refine Fn.go Gn Tryz.func305 fun P hP Q hQ=>?_
 conv=>cbv
 rcases aa:Lb a with⟨ab,ac,ad⟩
 refine .dd hP (Lr (by omega) aa) ?_
 conv=>cbv
 have e:(ab,ac,ad)=Lb a:=(by exact aa.symm)
 rw[hr]at e
 simp only[Prod.mk.injEq]at e
 obtain⟨rfl,rfl,rfl⟩:=e
 refine hQ _ _ ?_
 exact .m rfl .d3
def Ds{α:Type}(l:List α):List α:=l
theorem Tu{α:Type}{c:α→List D}{l:List α}{x:List (List D)}{v:Bool}(hl:l.map c=x)(hv:v=x.isEmpty)(h:v=true):[]=l:=by
 rw[h,←hl]at hv
 cases l with
 |nil=>rfl
 |cons=>cases hv
theorem C5{l:List Ad}(hl:l.map Ac=xl)(hn:l.length≤4000000000)(hr:Ds l=o)(ho:o.map Ac=xo):Fn Tryz.prog 199 [.d (.row 2 xl)] [] ⟨.d (.row 2 xo),[],[]⟩:=by
 refine Fn.go Gn Tryz.func199 fun P hP Q hQ=>?_
 conv=>cbv
 refine .go fun v1 ab=>?_
 conv=>cbv
 refine⟨fun h2=>?_,?_⟩
 have e:[]=Ds l:=(by unfold Ds;exact Tu hl ab h2)
 rw[hr]at e
 subst e
 exact hQ _ _ (.r rfl rfl rfl (by rw[←ho];rfl))
 refine .row0 hl fun ad z3 ac aa=>?_
 conv=>cbv
 have e:l=Ds l:=(by rfl)
 rw[hr]at e
 subst e
 exact hQ _ _ (.r rfl rfl (by rw[←aa,List.length_map];first|omega|(simp;omega)) (by rw[←aa,←ho]))
theorem Cz{l:List Ad}(hl:l.map Ac=xl)(hn:l.length≤4000000000)(hr:Ds l=o)(ho:o.map Ac=xo)(hno:no=o.length):Fn Tryz.prog 199 [.d (.row 2 xl)] [] ⟨.ref 0 0 no,[.row 2 false xo],[]⟩:=by
 refine Fn.goR Gn Tryz.func199 fun P hP Q hQ=>?_
 conv=>cbv
 refine .go fun v1 aa=>?_
 conv=>cbv
 refine⟨fun h2=>?_,?_⟩
 have e:[]=Ds l:=(by unfold Ds;exact Tu hl aa h2)
 rw[hr]at e
 subst e
 obtain rfl:[]=xo:=by first|(rw[←ho];done)|(rw[←ho];rfl)
 obtain rfl:0=no:=by first|omega|(rw[hno];simp;done)|(rw[hno];simp;omega)
 exact hQ _ _ (.o [1] rfl)
 refine .row0 hl fun ab z3 ad ac=>?_
 conv=>cbv
 have e:l=Ds l:=(by rfl)
 rw[hr]at e
 subst e
 obtain rfl:z3=xo:=by rw[←ac,←ho]
 obtain rfl:ab=no:=by first|omega|(rw[hno];simp;done)|(rw[hno];simp;omega)
 exact hQ _ _ (.o [2] rfl)
theorem Mz{o:List A0}(hl:l.map Bf=xl)(hn:l.length≤4000000000)(hr:Ds l=o)(ho:o.map Bf=xo):Fn Tryz.prog 198 [.d (.row 3 xl)] [] ⟨.d (.row 3 xo),[],[]⟩:=by
 refine Fn.go Gn Tryz.func198 fun P hP Q hQ=>?_
 conv=>cbv
 refine .go fun v1 ab=>?_
 conv=>cbv
 refine⟨fun h2=>?_,?_⟩
 have e:[]=Ds l:=(by unfold Ds;exact Tu hl ab h2)
 rw[hr]at e
 subst e
 exact hQ _ _ (.r rfl rfl rfl (by rw[←ho];rfl))
 refine .row0 hl fun ad z3 ac aa=>?_
 conv=>cbv
 have e:l=Ds l:=(by rfl)
 rw[hr]at e
 subst e
 exact hQ _ _ (.r rfl rfl (by rw[←aa,List.length_map];first|omega|(simp;omega)) (by rw[←aa,←ho]))
theorem Hp{o:List A0}(hl:l.map Bf=xl)(hn:l.length≤4000000000)(hr:Ds l=o)(ho:o.map Bf=xo)(hno:no=o.length):Fn Tryz.prog 198 [.d (.row 3 xl)] [] ⟨.ref 0 0 no,[.row 3 false xo],[]⟩:=by
 refine Fn.goR Gn Tryz.func198 fun P hP Q hQ=>?_
 conv=>cbv
 refine .go fun v1 aa=>?_
 conv=>cbv
 refine⟨fun h2=>?_,?_⟩
 have e:[]=Ds l:=(by unfold Ds;exact Tu hl aa h2)
 rw[hr]at e
 subst e
 obtain rfl:[]=xo:=by first|(rw[←ho];done)|(rw[←ho];rfl)
 obtain rfl:0=no:=by first|omega|(rw[hno];simp;done)|(rw[hno];simp;omega)
 exact hQ _ _ (.o [1] rfl)
 refine .row0 hl fun ab z3 ad ac=>?_
 conv=>cbv
 have e:l=Ds l:=(by rfl)
 rw[hr]at e
 subst e
 obtain rfl:z3=xo:=by rw[←ac,←ho]
 obtain rfl:ab=no:=by first|omega|(rw[hno];simp;done)|(rw[hno];simp;omega)
 exact hQ _ _ (.o [2] rfl)
theorem Kr{l:List ByteArray}{o:List ByteArray}(hl:l.map cS=xl)(hn:l.length≤4000000000)(hr:Ds l=o)(ho:o.map cS=xo):Fn Tryz.prog 200 [.d (.row 1 xl)] [] ⟨.d (.row 1 xo),[],[]⟩:=by
 refine Fn.go Gn Tryz.func200 fun P hP Q hQ=>?_
 conv=>cbv
 refine .go fun v1 ab=>?_
 conv=>cbv
 refine⟨fun h2=>?_,?_⟩
 have e:[]=Ds l:=(by unfold Ds;exact Tu hl ab h2)
 rw[hr]at e
 subst e
 exact hQ _ _ (.r rfl rfl rfl (by rw[←ho];rfl))
 refine .row0 hl fun ad z3 ac aa=>?_
 conv=>cbv
 have e:l=Ds l:=(by rfl)
 rw[hr]at e
 subst e
 exact hQ _ _ (.r rfl rfl (by rw[←aa,List.length_map];first|omega|(simp;omega)) (by rw[←aa,←ho]))
theorem Gf{l:List ByteArray}{o:List ByteArray}(hl:l.map cS=xl)(hn:l.length≤4000000000)(hr:Ds l=o)(ho:o.map cS=xo)(hno:no=o.length):Fn Tryz.prog 200 [.d (.row 1 xl)] [] ⟨.ref 0 0 no,[.row 1 false xo],[]⟩:=by
 refine Fn.goR Gn Tryz.func200 fun P hP Q hQ=>?_
 conv=>cbv
 refine .go fun v1 aa=>?_
 conv=>cbv
 refine⟨fun h2=>?_,?_⟩
 have e:[]=Ds l:=(by unfold Ds;exact Tu hl aa h2)
 rw[hr]at e
 subst e
 obtain rfl:[]=xo:=by first|(rw[←ho];done)|(rw[←ho];rfl)
 obtain rfl:0=no:=by first|omega|(rw[hno];simp;done)|(rw[hno];simp;omega)
 exact hQ _ _ (.o [1] rfl)
 refine .row0 hl fun ab z3 ad ac=>?_
 conv=>cbv
 have e:l=Ds l:=(by rfl)
 rw[hr]at e
 subst e
 obtain rfl:z3=xo:=by rw[←ac,←ho]
 obtain rfl:ab=no:=by first|omega|(rw[hno];simp;done)|(rw[hno];simp;omega)
 exact hQ _ _ (.o [2] rfl)
end
end Go.Proofs.YtjbmpmmffjgedaaGreatDoor.Ab
