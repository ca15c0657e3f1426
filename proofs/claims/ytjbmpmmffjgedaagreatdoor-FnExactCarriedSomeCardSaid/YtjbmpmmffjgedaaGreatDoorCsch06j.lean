/- What functions come to. -/
import Derived.Test.YtjbmpmmffjgedaaGreatDoorCsch06c
import Derived.Test.YtjbmpmmffjgedaaGreatDoorCsZ9
set_option linter.unusedVariables false
set_option linter.unusedSimpArgs false
set_option maxHeartbeats 4000000
set_option maxRecDepth 20000
namespace Go.Proofs.YtjbmpmmffjgedaaGreatDoor.Ab
section
open Go Go.Proofs
def XbV:List (Nat×TyRow):=[ty3,Xgt,W0,XlU]
theorem XbK:B8 Tryz.prog XbV:=B8.of (by kernel_rfl)
theorem Rc:Setup Tryz.prog XbV:=⟨XbK,mixed⟩
def Eu(x:Bg)(used:List Int):Bool:=!decide (x.id_∈used)
variable {used:List Int} {l:List Bg} {xl:List (List D)} {nl:Nat}
theorem Pk{xid:Int}{xtex:ByteArray}{xsur:Int}{o:Bool}(hr:Eu (⟨xid,xtex,xsur⟩:Bg) used=o):Fn Tryz.prog 328 [.agg [I xid,S xtex,I xsur],.ptr 0 0 0] [.box 266 [.ptr 1 0 0],.map used] ⟨B o,[],[]⟩:=by
 refine Fn.goR Rc Tryz.func328 fun P hP Q hQ=>?_
 conv=>cbv
 refine .go hP Tryz.underlying266 (by kernel_rfl) (by kernel_rfl) (by kernel_rfl) fun b1 aa=>?_
 conv=>cbv
 cases b1
 conv=>cbv
 have e:true=Eu (⟨xid,xtex,xsur⟩:Bg) used:=(by unfold Eu;simp[←aa])
 rw[hr]at e
 subst e
 exact hQ _ _ (.o [] rfl)
 conv=>cbv
 have e:false=Eu (⟨xid,xtex,xsur⟩:Bg) used:=(by unfold Eu;simp[←aa])
 rw[hr]at e
 subst e
 exact hQ _ _ (.o [] rfl)
def Gi(l:List Bg)(used:List Int):Int:=S1 (fun x=>Eu x used) l
theorem Qb{o:Int}(hl:l.map Bi=xl)(hnl:nl=l.length)(hn:l.length<2^40)(hr:Gi l used=o):Fn Tryz.prog 286 [.ref 0 0 nl,.clo 328 [.ptr 1 0 0]] [.row 3 false xl,.box 266 [.ptr 2 0 0],.map used] ⟨I o,[],[]⟩:=by
 refine Fn.goR Rc Tryz.func286 fun P hP Q hQ=>?_
 conv=>cbv
 refine .go fun v1 ai=>?_
 conv=>cbv
 refine LoopW.lp (κ:=Int) Rc hP [] [0,1,7] (fun i8=>[(8,I i8)]) (fun i8=>[])
  (fun i8=>0≤i8∧i8≤l.length∧∀(j:Nat) (hj:j<l.length),j<i8.toNat→Eu l[j] used=false)
  (fun i8=>(l.length - i8).toNat) (0) ⟨by omega,by omega,fun j _ h=>by simp at h⟩ ⟨rfl,trivial⟩ rfl ?_
 rintro i8 J ⟨h0,h1,hb⟩ hJ
 conv=>cbv
 refine .lss (fun h2=>?_) fun h2=>?_
 conv=>cbv
 refine .go i8.toNat fun p3 af ag=>?_
 conv=>cbv
 refine .go hl fun ah ⟨ad,aa,ab⟩ ae=>?_
 conv=>cbv
 subst af
 generalize ac:Eu (⟨ad,aa,ab⟩:Bg) used=r5
 refine .bx [1,2] [2] hP (Pk ac) rfl rfl rfl rfl ?_
 cases r5
 conv=>cbv
 refine .add fun v6 aj=>?_
 conv=>cbv
 exact .go [] (v6) (hJ _ ⟨by omega,by omega,fun j hj h=>if e:j=i8.toNat then by subst e;rw[←ae];exact ac else hb j hj (by omega)⟩ mlt)
 conv=>cbv
 have e:i8=Gi l used:=(by exact Ni (p:=fun x=>Eu x used) h0 (by omega) (by rw[←ae];exact ac) hb)
 rw[hr]at e
 subst e
 exact hQ _ _ (.o [] rfl)
 conv=>cbv
 have e:(-1)=Gi l used:=(by exact I4 (p:=fun x=>Eu x used) fun j hj=>hb j hj (by omega))
 rw[hr]at e
 subst e
 exact hQ _ _ (.o [] rfl)
def Eb(l:List Bg)(used:List Int):List Bg:=l.filter (fun x=>!Eu x used)
theorem Je{o:List Bg}{xf:List (List D)}{no:Nat}(hl:l.map Bi=xl)(hnl:nl=l.length)(hn:l.length<2^40)(hr:Eb l used=o)(hf:(o++List.replicate (l.length - o.length) (⟨0,tx [],0⟩:Bg)).map Bi=xf)(hno:no=o.length):Fn Tryz.prog 327 [.ref 0 0 nl,.clo 328 [.ptr 1 0 0]] [.row 3 false xl,.box 266 [.ptr 2 0 0],.map used] ⟨.ref 0 0 no,[],[(0,.row 3 false xf)]⟩:=by
 refine Fn.goR Rc Tryz.func327 fun P hP Q hQ=>?_
 conv=>cbv
 generalize af:Gi l used=r1
 refine .bx [0,1,2] [2] hP (Qb hl (by first|rfl|omega|(simp;omega)) hn af) rfl rfl rfl rfl ?_
 conv=>cbv
 refine .eql (fun h2=>?_) fun h2=>?_
 conv=>cbv
 have e:l=o:=by rw[←hr];unfold Eb;symm;rw[List.filter_eq_self];intro x hx;rw[XgT (p:=fun x=>Eu x used) af (by omega) x hx];rfl
 subst e
 obtain rfl:xl=xf:=by rw[←hl,←hf];simp
 obtain rfl:nl=no:=by omega
 exact hQ _ _ (.o [] rfl)
 conv=>cbv
 have hd:=Xiq (p:=fun x=>Eu x used) af h2
 refine .add fun v3 am=>?_
 conv=>cbv
 refine LoopW.lp (κ:=Int×Int×(List (List D))) Rc hP [] [0,1] (fun(i5,i6,aa)=>[(5,I i5),(6,I i6)]) (fun(i5,i6,aa)=>[(0,.row 3 false aa)])
  (fun(i5,i6,aa)=>∃(w0:List Bg),w0.map Bi=aa∧(0≤i5∧i5<i6∧i6≤l.length)∧w0.length=l.length∧w0.take i5.toNat=(l.take i6.toNat).filter (fun x=>!Eu x used)∧w0.drop i6.toNat=l.drop i6.toNat)
  (fun(i5,i6,aa)=>(l.length - i6).toNat) (r1,v3,xl) ⟨l,hl,by omega,rfl,by rw[hd.2.2,am],rfl⟩ ⟨rfl,rfl,trivial⟩ rfl ?_
 rintro⟨i5,i6,aa⟩ J ⟨w0,ae,hb,hwl,hwt,hwd⟩ hJ
 conv=>cbv
 refine .go fun v4 az=>?_
 conv=>cbv
 refine .lss (fun h5=>?_) fun h5=>?_
 conv=>cbv
 refine .go i6.toNat fun p6 an au=>?_
 conv=>cbv
 refine .go ae fun aj ⟨ad,ab,ac⟩ ao=>?_
 conv=>cbv
 subst an
 have ag:(⟨ad,ab,ac⟩:Bg)=l[i6.toNat]:=ao.trans (Xl5 aj (by omega) hwd)
 generalize ah:Eu (⟨ad,ab,ac⟩:Bg) used=r8
 refine .bx [1,2] [2] hP (Pk ah) rfl rfl rfl rfl ?_
 cases r8
 conv=>cbv
 refine .go i5.toNat fun p9 ap aw=>?_
 conv=>cbv
 refine .all ((⟨ad,ab,ac⟩:Bg)) ae rfl fun aq ak=>?_
 conv=>cbv
 refine .add fun al ax=>?_
 conv=>cbv
 refine .add fun ai ay=>?_
 conv=>cbv
 have hk:=XgG (i:=i5.toNat) (p:=fun x=>Eu x used) (show i6.toNat<l.length by omega) (by omega) hwl hwt hwd (by rw[←ag];exact ah)
 rw[←ag]at hk
 subst ap
 exact .go [] (al,ai,aq) (hJ _ ⟨_,ak,by omega,by rw[List.length_set];exact hwl,by rw[show al.toNat=i5.toNat+1 by omega,show ai.toNat=i6.toNat+1 by omega];exact hk.1,by rw[show ai.toNat=i6.toNat+1 by omega];exact hk.2⟩ mlt)
 conv=>cbv
 refine .add fun v9 a0=>?_
 conv=>cbv
 have hk:=XhB (p:=fun x=>Eu x used) (show i6.toNat<l.length by omega) hwt hwd (by rw[←ag];exact ah)
 exact .go [] (i5,v9,aa) (hJ _ ⟨_,ae,by omega,hwl,by rw[show v9.toNat=i6.toNat+1 by omega];exact hk.1,by rw[show v9.toNat=i6.toNat+1 by omega];exact hk.2⟩ mlt)
 conv=>cbv
 refine .lo fun on6 n6 hon6 a1=>?_
 conv=>cbv
 refine .goN (zz:=[(.int .i64 0,0),(.string ⟨#[]⟩,0),(.int .i64 0,0)]) (⟨0,tx [],0⟩:Bg) hP ae Tryz.underlying24 (by kernel_rfl) rfl rfl (by decide) fun z7 ar=>?_
 conv=>cbv
 refine .hi fun on8 n8 hon8 a2=>?_
 conv=>cbv
 have e:w0.take on6=o:=by rw[hon6,Nat.zero_add,hwt,List.take_of_length_le (by omega),←hr];rfl
 obtain⟨e1,e2⟩:=XlC (by omega) (by omega) e ar
 rw[hwl,hf]at e2
 subst e2
 obtain rfl:n8=no:=by omega
 subst hon8
 exact hQ _ _ (.o [] rfl)
end
section
open Go Go.Proofs
def K3:List Ad→List ByteArray→Int→Bool
 |now,[],id=>now.any fun e=>decide (e.id_=id)
 |now,s::ss,id=>(now.any fun e=>decide (e.id_=id))||K3 (Ah now s).1 ss id
def Ka(nodes:List Bg)(old:List Ad)(steps:List ByteArray):List Bg:=nodes.filter fun x=>K3 old steps x.id_
theorem Xak{l:List Ad}{k:Nat}{id:Int}(hk:k<l.length):(l.take (k+1)).any (fun e=>decide (e.id_=id))=((l.take k).any (fun e=>decide (e.id_=id))||decide (l[k].id_=id)):=by
 rw[List.take_succ_eq_append_getElem hk,List.any_append]
 simp
theorem X6{ks:List Int}{n id:Int}:id∈Pf ks n↔id∈ks∨n=id:=by
 unfold Pf
 split
 ·constructor
  ·exact .inl
  ·rintro(h|rfl)
   ·exact h
   ·assumption
 ·rw[List.mem_append,List.mem_singleton]
  constructor
  ·rintro(h|rfl)
   ·exact .inl h
   ·exact .inr rfl
  ·rintro(h|rfl)
   ·exact .inl h
   ·exact .inr rfl
end
section
open Go Go.Proofs
theorem Qv{l:List ByteArray}{s:ByteArray}(h:okS l)(hs:s.size≤1000000000):okS (l++[s]):=fun t ht=>by
 rcases List.mem_append.1 ht with ht|ht
 ·exact h t ht
 ·rw[List.mem_singleton.1 ht];exact hs
end
section
open Go Go.Proofs
end
section
open Go Go.Proofs
def Kj(d:Aa)(s:ByteArray):Aa:=⟨Ka d.nodes_ d.old_ (d.steps_++[s]),(Ah d.entries_ s).1,d.old_,d.steps_++[s],d.room_,d.next_⟩
def Db(d:Aa)(name:ByteArray):Aa×Int:=if Bk d=false∨Ao d.entries_ name<0 then(d,3)else(Kj d (tx [45]++name),0)
end
section
open Go Go.Proofs
def Bs(d:Aa)(from_ to_:ByteArray):Aa×Int:=if Bk d=false∨Ao d.entries_ from_<0 then(d,3)else if Bj to_=false∨from_=to_ then(d,1)else(Kj d (tx [62]++from_++tx [58]++to_),0)
end
section
open Go Go.Proofs
def Dk(d:Aa)(name:ByteArray):Aa×Int:=if Bk d=false∨Cu d name<0 then(d,3)else
 (⟨d.nodes_.set (Cu d name).toNat ⟨(d.nodes_.getD (Cu d name).toNat ⟨0,tx [],0⟩).id_,(d.nodes_.getD (Cu d name).toNat ⟨0,tx [],0⟩).text_,((d.nodes_.getD (Cu d name).toNat ⟨0,tx [],0⟩).text_.size:Int)⟩,d.entries_,d.old_,d.steps_,d.room_,d.next_⟩,0)
end
section
open Go Go.Proofs
theorem XcZ{α:Type}{f:α→Int}(h:∀x,0≤f x):∀{l:List α} {a:Int},a≤(l.map f).foldl (·+·) a
 |[],a=>by simp
 |x::l,a=>by
  rw[List.map_cons,List.foldl_cons]
  have:=XcZ h (l:=l) (a:=a+f x)
  have:=h x
  omega
theorem Xfl(d:Aa):0≤Fy d:=XcZ (f:=fun n:Bg=>(n.text_.size:Int)) (fun x=>by omega)
theorem Hu{d:Aa}(h:Bk d=true):0≤d.room_∧d.room_≤1000000000∧1≤d.next_∧d.next_≤1000000000∧0≤Fy d∧Fy d≤d.room_:=by
 have h1:=diskOk_iff.1 h
 exact⟨h1.1.1,h1.1.2,h1.2.1.1,h1.2.1.2,Xfl d,h1.2.2.2.1⟩
def gN(d:Aa)(i:Int):Bg:=d.nodes_.getD i.toNat ⟨0,tx [],0⟩
def Xkf(d:Aa)(i:Int)(x:Bg):Aa:=⟨d.nodes_.set i.toNat x,d.entries_,d.old_,d.steps_,d.room_,d.next_⟩
def B6(d:Aa)(name text:ByteArray):Aa×Int:=if Bk d=false∨Cu d name<0 then(d,3)else
 (Xkf d (Cu d name) ⟨(gN d (Cu d name)).id_,(gN d (Cu d name)).text_++text.extract 0 (min (text.size:Int) (d.room_ - Fy d)).toNat,(gN d (Cu d name)).sure_⟩,if d.room_ - Fy d<text.size then 5 else 0)
def Bf(d:Aa)(name:ByteArray):Aa×Int:=if Bk d=false then(d,3)else if Bj name=false then(d,1)else if 0≤Ao d.entries_ name then(d,2)else if 16≤d.entries_.length∨64≤d.nodes_.length∨1000000000≤d.next_ then(d,4)else
 (Kj ⟨d.nodes_++[⟨d.next_,tx [],0⟩],d.entries_,d.old_,d.steps_,d.room_,d.next_+1⟩ (tx [43]++name++tx [58]++Ci d.next_),0)
def Ds(d:Aa):Aa:=if Bk d=false then d else⟨Ka d.nodes_ d.entries_ [],d.entries_,d.entries_,[],d.room_,d.next_⟩
end
section
open Go Go.Proofs
def Tv:List Ad→List ByteArray→Prop
 |_,[]=>True
 |now,s::ss=>srt now∧(Ah now s).2=true∧Tv (Ah now s).1 ss
theorem Ft{now:List Ad}{s:ByteArray}{ss:List ByteArray}(h:(Ah now s).2=true):Kl now (s::ss)=Kl (Ah now s).1 ss:=if_neg (by rw[h];decide)
theorem XdR{d:Aa}:∀{l:List ByteArray} {now:List Ad},Fs d now l=true→Tv now l∧Kl now l=(d.entries_,true)∧Bl d d.entries_=true
 |[],now,h=>by
  unfold Fs at h
  rw[Bool.and_eq_true]at h
  have e:now=d.entries_:=by
   have:=h.2
   unfold I5 at this
   exact of_decide_eq_true this
  refine⟨trivial,by rw[←e];rfl,by rw[←e];exact h.1⟩
 |s::ss,now,h=>by
  unfold Fs at h
  rw[Bool.and_eq_true,Bool.and_eq_true]at h
  obtain⟨a,b,c⟩:=XdR (now:=(Ah now s).1) h.2
  exact⟨⟨Xgm h.1.1,h.1.2,a⟩,by rw[Ft h.1.2,b],c⟩
theorem R4:∀{l:List ByteArray} {now:List Ad} (k:Nat),Tv now l→Tv now (l.take k)
 |[],_,k,_=>by rw[List.take_nil];trivial
 |_::_,_,0,_=>trivial
 |_::_,_,k+1,h=>⟨h.1,h.2.1,R4 k h.2.2⟩
theorem Sx{s:ByteArray}{e:List Ad}:∀{l:List ByteArray} {now:List Ad},Tv now l→Kl now l=(e,true)→srt e→(Ah e s).2=true→Tv now (l++[s])
 |[],now,_,h,hs,h2=>by
  have e1:now=e:=congrArg Prod.fst h
  rw[e1]
  exact⟨hs,h2,trivial⟩
 |x::l,now,h,h1,hs,h2=>by
  rw[Ft h.2.1]at h1
  exact⟨h.1,h.2.1,Sx h.2.2 h1 hs h2⟩
theorem Yp:∀{l:List ByteArray} {now:List Ad},Tv now l→C8 now l=Kl now l∧(Kl now l).2=true
 |[],now,_=>⟨rfl,rfl⟩
 |s::ss,now,h=>by
  obtain⟨a,b⟩:=Yp (now:=(Ah now s).1) h.2.2
  have e2:C8 now (s::ss)=C8 (E3 now s).1 ss:=if_neg (by rw[Vo h.1,h.2.1];decide)
  rw[Ft h.2.1,e2,Vo h.1,a]
  exact⟨rfl,b⟩
def Tq(l:List Ad)(id:Int):Bool:=l.any fun e=>decide (e.id_=id)
def Xdn(old:List Ad)(steps:List ByteArray)(id:Int):Bool:=(List.range (steps.length+1)).any fun k=>Tq (C8 old (steps.take k)).1 id
theorem R9{id:Int}:∀{l:List ByteArray} {now:List Ad},Tv now l→(K3 now l id=true↔∃k,k≤l.length∧Tq (Kl now (l.take k)).1 id=true)
 |[],now,_=>by
  constructor
  ·intro h;exact⟨0,Nat.le_refl _,h⟩
  ·rintro⟨k,_,h⟩
   rw[List.take_nil]at h
   exact h
 |s::ss,now,h=>by
  have ih:=R9 (id:=id) (now:=(Ah now s).1) h.2.2
  show(Tq now id||K3 (Ah now s).1 ss id)=true↔_
  rw[Bool.or_eq_true,ih]
  constructor
  ·rintro(h1|⟨k,hk,h1⟩)
   ·exact⟨0,Nat.zero_le _,h1⟩
   ·refine⟨k+1,by rw[List.length_cons];omega,?_⟩
    rw[List.take_succ_cons,Ft h.2.1]
    exact h1
  ·rintro⟨k,hk,h1⟩
   cases k with
   |zero=>exact .inl h1
   |succ k=>
    rw[List.take_succ_cons,Ft h.2.1]at h1
    exact .inr ⟨k,by rw[List.length_cons]at hk;omega,h1⟩
theorem Xit{old:List Ad}{steps:List ByteArray}(h:Tv old steps)(id:Int):Xdn old steps id=K3 old steps id:=by
 rw[Bool.eq_iff_iff,R9 h]
 unfold Xdn
 rw[List.any_eq_true]
 constructor
 ·rintro⟨k,hk,h1⟩
  rw[(Yp (R4 k h)).1]at h1
  exact⟨k,by have:=List.mem_range.1 hk;omega,h1⟩
 ·rintro⟨k,hk,h1⟩
  refine⟨k,List.mem_range.2 (by omega),?_⟩
  rw[(Yp (R4 k h)).1]
  exact h1
def Fq(d:Aa):Aa:=⟨d.nodes_.filter (fun x=>Xdn d.old_ d.steps_ x.id_),d.entries_,d.old_,d.steps_,d.room_,d.next_⟩
theorem X2{d:Aa}(h:Tv d.old_ d.steps_):Fq d=⟨Ka d.nodes_ d.old_ d.steps_,d.entries_,d.old_,d.steps_,d.room_,d.next_⟩:=by
 unfold Fq Ka
 rw[List.filter_congr fun x _=>Xit h x.id_]
theorem Xjn{n:ByteArray}(h:Bj n=true):∀(j:Nat) x,n.data.toList[j]? =some x→x≠58:=by
 intro j x hx e
 unfold Bj at h
 rw[Bool.and_eq_true]at h
 have:=List.all_eq_true.1 h.1 x (List.mem_of_getElem? hx)
 rw[e]at this
 exact absurd this (by decide)
theorem XeU{a b:ByteArray}(h:Bj a=true):J9 (a++tx [58]++b)=(a,b,true):=by
 have hl:(a++tx [58]++b).data.toList=a.data.toList++58::b.data.toList:=by
  rw[ByteArray.data_append,ByteArray.data_append,Array.toList_append,Array.toList_append,P6,List.append_assoc]
  rfl
 have ha:a.data.toList.length=a.size:=Array.length_toList
 have e:I9 (a++tx [58]++b)=(a.size:Int):=by
  unfold I9
  rw[hl,N1 _ a.size]
  ·rw[List.getElem?_append_right (by omega),ha,Nat.sub_self]
   rfl
  ·intro j hj x hx
   rw[List.getElem?_append_left (by omega)]at hx
   exact Xjn h j x hx
 unfold J9
 rw[e,if_pos (by omega),Int.toNat_natCast]
 have hz:(a++tx [58]++b).size=a.size+1+b.size:=by rw[ByteArray.size_append,ByteArray.size_append,B3];rfl
 have hb:b.data.toList.length=b.size:=Array.length_toList
 have e1:(a++tx [58]++b).extract 0 a.size=a:=by
  apply Mk
  rw[Dy,hl,List.drop_zero,List.take_left' ha]
 have e2:(a++tx [58]++b).extract (a.size+1) (a++tx [58]++b).size=b:=by
  apply Mk
  rw[Dy,List.take_of_length_le (by rw[Array.length_toList];exact Nat.le_refl _),hl,List.drop_append,List.drop_of_length_le (by omega),ha,Nat.add_sub_cancel_left]
  rfl
 rw[e1,e2]
theorem P8{c:UInt8}{s:ByteArray}:(tx [c]++s).extract 1 (tx [c]++s).size=s:=by
 apply Mk
 rw[Dy,List.take_of_length_le (by rw[Array.length_toList];exact Nat.le_refl _),ByteArray.data_append,Array.toList_append,P6]
 rfl
theorem Xaf{c:UInt8}{s:ByteArray}:(tx [c]++s).data.toList.head?=some c:=by
 rw[ByteArray.data_append,Array.toList_append,P6]
 rfl
theorem XgI{c:UInt8}{s:ByteArray}:tx [c]++s≠tx []:=by
 intro e
 have:=congrArg ByteArray.size e
 rw[ByteArray.size_append,B3,B3]at this
 simp at this
theorem XbZ{l:List Ad}{n:ByteArray}{i:Int}(hn:Bj n=true)(h0:0≤i)(h1:i≤1000000000):Ah l (tx [43]++(n++tx [58]++Ci i))=(Qp l n i,true):=by
 have hc:J9 ((tx [43]++(n++tx [58]++Ci i)).extract 1 (tx [43]++(n++tx [58]++Ci i)).size)=(n,Ci i,true):=by rw[P8];exact XeU hn
 rw[G9 XgI Xaf hc,Xjw h0 h1,if_neg (by rw[hn];simp)]
theorem Xfr{l:List Ad}{n:ByteArray}(hn:Bj n=true)(h:0≤Ao l n):Ah l (tx [45]++n)=(Il l (Ao l n) (Ao l n+1),true):=by
 rw[Og XgI Xaf,P8]
 unfold Gm
 rw[if_neg (by rw[hn];rintro(k|k);omega;cases k)]
theorem Xcj{l:List Ad}{a b:ByteArray}(hn:Bj a=true)(hb:Bj b=true)(hne:a≠b)(h:0≤Ao l a):Ah l (tx [62]++(a++tx [58]++b))=(Qp (Il l (Ao l a) (Ao l a+1)) b (Cs l a),true):=by
 have hd:Gm l a=(Il l (Ao l a) (Ao l a+1),true):=by
  unfold Gm
  rw[if_neg (by rw[hn];rintro(k|k);omega;cases k)]
 have hc:J9 ((tx [62]++(a++tx [58]++b)).extract 1 (tx [62]++(a++tx [58]++b)).size)=(a,b,true):=by rw[P8];exact XeU hn
 rw[F8 XgI Xaf hc,hd,if_neg (by rw[hb];simp;exact hne)]
theorem app3(a b c d:ByteArray):a++b++c++d=a++(b++c++d):=by
 rw[ByteArray.append_assoc,ByteArray.append_assoc,ByteArray.append_assoc]
theorem It{d:Aa}(h:Bk d=true):Tv d.old_ d.steps_∧Kl d.old_ d.steps_=(d.entries_,true)∧Bl d d.entries_=true:=XdR (diskOk_iff.1 h).2.2.2.2
theorem Lv{d:Aa}(h:Bk d=true):srt d.entries_:=Xgm (It h).2.2
theorem XaB{d:Aa}{n:ByteArray}(h:Bk d=true)(hp:0≤Ao d.entries_ n):Bj n=true∧0≤Cu d n:=by
 obtain⟨hi,hq⟩:=Mn (p:=fun e=>B7 e n) (rfl:Ao d.entries_ n=_) hp
 have h1:=Xdz (It h).2.2 hi
 unfold B7 at hq
 rw[decide_eq_true_eq]at hq
 unfold Fj at h1
 rw[Xca hi rfl,Bool.and_eq_true,Bool.and_eq_true,decide_eq_true_eq]at h1
 refine⟨by rw[←hq];exact h1.1.2,?_⟩
 unfold Cu
 rw[if_neg (by omega)]
 unfold Cs
 rw[if_neg (by omega),←gD hi]
 exact h1.2
theorem Rp{d:Aa}{n:ByteArray}(h:Ao d.entries_ n<0):Cu d n<0:=by
 unfold Cu
 rw[if_pos h]
 decide
theorem Sh{d:Aa}{s:ByteArray}{e:List Ad}{nodes:List Bg}{r x:Int}(h:Bk d=true)(hs:Ah d.entries_ s=(e,true)):Fq ⟨nodes,e,d.old_,d.steps_++[s],r,x⟩=Kj ⟨nodes,d.entries_,d.old_,d.steps_,r,x⟩ s:=by
 rw[X2 (Sx (It h).1 (It h).2.1 (Lv h) (by rw[hs]))]
 unfold Kj
 rw[hs]
theorem XdB{d:Aa}{name:ByteArray}{nodes:List Bg}{r x:Int}(h:Bk d=true)(hn:Bj name=true):Fq ⟨nodes,Eo d.entries_ ⟨name,d.next_⟩,d.old_,d.steps_++[tx [43]++name++tx [58]++Ci d.next_],r,x⟩=Kj ⟨nodes,d.entries_,d.old_,d.steps_,r,x⟩ (tx [43]++name++tx [58]++Ci d.next_):=by
 have hr:=Hu h
 rw[Xcc (Lv h),app3]
 exact Sh h (XbZ hn (by omega) (by omega))
theorem XdF{d:Aa}{name:ByteArray}(h:Bk d=true)(hp:0≤Ao d.entries_ name):Fq ⟨d.nodes_,D2 d.entries_ name,d.old_,d.steps_++[tx [45]++name],d.room_,d.next_⟩=Kj d (tx [45]++name):=by
 rw[Up (Lv h) hp]
 exact Sh h (Xfr (XaB h hp).1 hp)
theorem XdE{d:Aa}{a b:ByteArray}(h:Bk d=true)(hp:0≤Ao d.entries_ a)(hb:Bj b=true)(hne:a≠b):Fq ⟨d.nodes_,Eo (D2 d.entries_ a) ⟨b,Cs d.entries_ a⟩,d.old_,d.steps_++[tx [62]++a++tx [58]++b],d.room_,d.next_⟩=Kj d (tx [62]++a++tx [58]++b):=by
 rw[Xcc (Xeu (Lv h)),Up (Lv h) hp,app3]
 exact Sh h (Xcj (XaB h hp).1 hb hne hp)
theorem R5{d:Aa}{n:ByteArray}(h:0≤Ao d.entries_ n):E5 d (Cs d.entries_ n)=Cu d n:=by
 unfold Cu
 rw[if_neg (by omega)]
theorem Zk{l:List Ad}{n:ByteArray}(h:Em l n=true):0≤Ao l n:=by
 unfold Em at h
 exact of_decide_eq_true h
theorem Xb2{l:List Ad}{n:ByteArray}(h:Em l n=false):Ao l n<0:=by
 unfold Em at h
 have:=of_decide_eq_false h
 omega
theorem Wr{p:Nat→Bool}{k:Nat}:(List.range (k+1)).any p=((List.range k).any p||p k):=by
 rw[List.range_succ,List.any_append]
 simp
theorem Yi{old:List Ad}{steps:List ByteArray}{id:Int}{k:Nat}(hk:k≤steps.length+1)(h:true=(List.range k).any fun k=>Tq (C8 old (steps.take k)).1 id):Xdn old steps id=true:=by
 obtain⟨j,hj,h1⟩:=List.any_eq_true.1 h.symm
 exact List.any_eq_true.2 ⟨j,List.mem_range.2 (by have:=List.mem_range.1 hj;omega),h1⟩
theorem Se{l:List Ad}{k:Nat}{id:Int}(hk:k<l.length):Tq (l.take (k+1)) id=(Tq (l.take k) id||decide (l[k].id_=id)):=Xak hk
theorem Xgb(l:List Ad)(s:ByteArray):(E3 l s).1.length≤l.length+1:=by
 unfold E3
 split
 ·simp
 ·split
  ·exact Gc rfl
  ·have h1:=Ih (rfl:D2 l (B4 s).1=_)
   split
   ·have h2:=Gc (rfl:Eo (D2 l (B4 s).1) ⟨(B4 s).2.1,Cs l (B4 s).1⟩=_)
    show(Eo _ _).length≤_
    omega
   ·show(D2 _ _).length≤_
    omega
theorem Xia:∀(l:List ByteArray) (now:List Ad),(C8 now l).1.length≤now.length+l.length
 |[],_=>Nat.le_refl _
 |s::l,now=>by
  have h1:=Xgb now s
  have h2:=Xia l (E3 now s).1
  unfold C8
  split
  ·exact Nat.zero_le _
  ·rw[List.length_cons]
   omega
theorem Yt{t:ByteArray}{n:Nat}(h:t.size≤n):t.extract 0 n=t:=by
 apply Mk
 rw[Dy,List.drop_zero,List.take_of_length_le (by rw[Array.length_toList];exact h)]
end
section
open Go Go.Proofs
def Xa1:List (Nat×TyRow):=[ty3,ty9,Xgt,XdN,Xcu,Xal,W0,Zp]
theorem XaL:B8 Tryz.prog Xa1:=B8.of (by kernel_rfl)
theorem Hb:Setup Tryz.prog Xa1:=⟨XaL,mixed⟩
variable {Ae onod Fd:List Bg} {Bv Bq Bn Br Sg Sy R8 Rq Cc Cb Ca B9:List (List D)} {Al Ak oent oold Fb Fc:List Ad} {Ag oste Fa:List ByteArray} {At Ap oroo onex Gd Gf ob:Int} {name:ByteArray}
theorem Kh{nn ne no ns:Nat}(An:Ae.map Bi=Bv)(Am:Al.map Ac=Bq)(Aq:Ak.map Ac=Bn)(As:Ag.map cS=Br)(hn:Ae.length≤4000000000)(he:Al.length≤4000000000)(ho:Ak.length≤4000000000)(hs:Ag.length≤4000000000)(hnn:nn=Ae.length)(hne:ne=Al.length)(hno:no=Ak.length)(hns:ns=Ag.length):Fn Tryz.prog 112 [.agg [.d (.row 3 Bv),.d (.row 2 Bq),.d (.row 2 Bn),.d (.row 1 Br),I At,I Ap]] [] ⟨.agg [.ref 0 0 nn,.ref 1 0 ne,.ref 2 0 no,.ref 3 0 ns,I At,I Ap],[.row 3 false Bv,.row 2 false Bq,.row 2 false Bn,.row 1 false Br],[]⟩:=by
 refine Fn.goR Hb Tryz.func112 fun P hP Q hQ=>?_
 conv=>cbv
 refine .row0 An fun aa z1 ai ab=>?_
 conv=>cbv
 refine .row0 Am fun ac z2 aj ad=>?_
 conv=>cbv
 refine .row0 Aq fun ae z3 ak af=>?_
 conv=>cbv
 refine .row0 As fun ag z4 al ah=>?_
 conv=>cbv
 obtain rfl:z1=Bv:=by rw[←ab,An]
 obtain rfl:z2=Bq:=by rw[←ad,Am]
 obtain rfl:z3=Bn:=by rw[←af,Aq]
 obtain rfl:z4=Br:=by rw[←ah,As]
 obtain rfl:aa=nn:=by omega
 obtain rfl:ac=ne:=by omega
 obtain rfl:ae=no:=by omega
 obtain rfl:ag=ns:=by omega
 exact hQ _ _ (.o [7,9,11,13] rfl)
theorem Xj(An:Ae.map Bi=Bv)(Am:Al.map Ac=Bq)(Aq:Ak.map Ac=Bn)(As:Ag.map cS=Br)(hn:Ae.length≤4000000000)(he:Al.length≤4000000000)(ho:Ak.length≤4000000000)(hs:Ag.length≤4000000000):Fn Tryz.prog 112 [.agg [.d (.row 3 Bv),.d (.row 2 Bq),.d (.row 2 Bn),.d (.row 1 Br),I At,I Ap]] [] ⟨.agg [.d (.row 3 Bv),.d (.row 2 Bq),.d (.row 2 Bn),.d (.row 1 Br),I At,I Ap],[],[]⟩:=by
 refine Fn.go Hb Tryz.func112 fun P hP Q hQ=>?_
 conv=>cbv
 refine .row0 An fun ai z1 ae aa=>?_
 conv=>cbv
 refine .row0 Am fun aj z2 af ab=>?_
 conv=>cbv
 refine .row0 Aq fun ak z3 ag ac=>?_
 conv=>cbv
 refine .row0 As fun al z4 ah ad=>?_
 conv=>cbv
 obtain rfl:z1=Bv:=by rw[←aa,An]
 obtain rfl:z2=Bq:=by rw[←ab,Am]
 obtain rfl:z3=Bn:=by rw[←ac,Aq]
 obtain rfl:z4=Br:=by rw[←ad,As]
 exact hQ _ _ (.one (.inl rfl) rfl (.agg (.ref rfl (Af An) rfl (.ref rfl (Af Am) rfl (.ref rfl (Af Aq) rfl (.ref rfl (Af As) rfl .d2)))) .nil))
theorem O0(An:Ae.map Bi=Bv)(Am:Al.map Ac=Bq)(Aq:Ak.map Ac=Bn)(As:Ag.map cS=Br)(hn:Ae.length≤2000000000)(hol:Ak.length≤1000000000)(hsl:Ag.length≤1000000000)(hss:okS Ag)(hr:Fq (⟨Ae,Al,Ak,Ag,At,Ap⟩:Aa)=⟨onod,oent,oold,oste,oroo,onex⟩)(Xas:onod.map Bi=Sg)(Y4:oent.map Ac=Sy)(Y5:oold.map Ac=R8)(Wv:oste.map cS=Rq):Fn Tryz.prog 213 [.agg [.d (.row 3 Bv),.d (.row 2 Bq),.d (.row 2 Bn),.d (.row 1 Br),I At,I Ap]] [] ⟨.agg [.d (.row 3 Sg),.d (.row 2 Sy),.d (.row 2 R8),.d (.row 1 Rq),I oroo,I onex],[],[]⟩:=by
 refine Fn.go Hb Tryz.func213 fun P hP Q hQ=>?_
 conv=>cbv
 refine LoopW.lp (κ:=Int×(List (List D))×Nat) Hb hP [6] [1,2] (fun(i4,ad,ae)=>[(3,.ref 7 0 ae),(4,I i4)]) (fun(i4,ad,ae)=>[(7,.row 3 false ad)])
  (fun(i4,ad,ae)=>∃(w7:List Bg),w7.map Bi=ad∧ae=w7.length∧0≤i4∧i4≤Ae.length∧w7=(Ae.take i4.toNat).filter (fun x=>Xdn Ak Ag x.id_)∧w7.length≤i4)
  (fun(i4,ad,ae)=>(Ae.length - i4).toNat) (0,[],0) ⟨[],rfl,rfl,by omega,by omega,by simp,by simp⟩ ⟨rfl,rfl,trivial⟩ rfl ?_
 rintro⟨i4,ad,ae⟩ J ⟨w7,ah,a6,h0,h1,hx,hxl⟩ hJ
 conv=>cbv
 refine .go An fun v1 a9=>?_
 conv=>cbv
 refine .lss (fun h2=>?_) fun h2=>?_
 conv=>cbv
 refine LoopW.lp (κ:=Bool×Int) Hb hP [] [1,2,3,4] (fun(b5,i6)=>[(5,B b5),(6,I i6)]) (fun(b5,i6)=>[])
  (fun(b5,i6)=>0≤i6∧i6≤Ag.length+1∧b5=(List.range i6.toNat).any (fun k=>Tq (C8 Ak (Ag.take k)).1 (Ae.getD i4.toNat ⟨0,tx [],0⟩).id_))
  (fun(b5,i6)=>(Ag.length+1 - i6).toNat) (false,0) ⟨by omega,by omega,rfl⟩ ⟨rfl,rfl,trivial⟩ rfl ?_
 rintro⟨b5,i6⟩ J1 ⟨k0,k1,hu⟩ ay
 conv=>cbv
 refine .go As fun v3 ba=>?_
 conv=>cbv
 refine .leq (fun h4=>?_) fun h4=>?_
 conv=>cbv
 cases b5
 conv=>cbv
 rcases ap:E6 Ak Ag i6 with⟨aa,az⟩
 generalize ai:aa.map Ac=a7
 have hS:C8 Ak (Ag.take i6.toNat)=(aa,az):=by rw[←XaA (by omega) (by omega)];exact ap
 have bb:aa.length≤2000000000:=by
  have:=Xia (Ag.take i6.toNat) Ak
  rw[hS,List.length_take]at this
  simp only[]at this
  omega
 refine .dd hP (Uf Aq As hol hsl hss ap ai) ?_
 conv=>cbv
 refine LoopW.lp (κ:=Bool×Int) Hb hP [] [1,2,3,4,6,7,24,25] (fun(b5,i9)=>[(5,B b5),(9,I i9)]) (fun(b5,i9)=>[])
  (fun(b5,i9)=>0≤i9∧i9≤aa.length∧b5=Tq (aa.take i9.toNat) (Ae.getD i4.toNat ⟨0,tx [],0⟩).id_)
  (fun(b5,i9)=>(aa.length - i9).toNat) (false,0) ⟨by omega,by omega,rfl⟩ ⟨rfl,rfl,trivial⟩ rfl ?_
 rintro⟨b5,i9⟩ J2 ⟨m0,m1,hb⟩ am
 conv=>cbv
 refine .go ai fun v6 bc=>?_
 conv=>cbv
 refine .lss (fun h7=>?_) fun h7=>?_
 conv=>cbv
 cases b5
 conv=>cbv
 refine .go i9.toNat ai fun al ⟨a0,a8⟩ aq=>?_
 conv=>cbv
 refine .go i4.toNat An fun ar ⟨au,a1,a2⟩ a3=>?_
 conv=>cbv
 have hide:(Ae.getD i4.toNat ⟨0,tx [],0⟩).id_=au:=by rw[←gD ar,←a3]
 refine .eql (fun h10=>?_) fun h10=>?_
 conv=>cbv
 refine .add fun aj aw=>?_
 conv=>cbv
 exact .go [] (true,aj) (am _ ⟨by omega,by omega,by rw[show aj.toNat=i9.toNat+1 by omega,Se al,←aq,hide];simp only[];rw[decide_eq_true h10,Bool.or_true]⟩ mlt)
 conv=>cbv
 refine .add fun aj aw=>?_
 conv=>cbv
 exact .go [] (false,aj) (am _ ⟨by omega,by omega,by rw[show aj.toNat=i9.toNat+1 by omega,Se al,←aq,←hb,hide];simp only[];rw[decide_eq_false h10];rfl⟩ mlt)
 conv=>cbv
 refine .add fun v8 a4=>?_
 conv=>cbv
 exact .go [] (true,v8) (am _ ⟨by omega,by omega,by rw[show v8.toNat=i9.toNat+1 by omega,Se (show i9.toNat<aa.length by omega),←hb];rfl⟩ mlt)
 conv=>cbv
 refine .add fun v8 a4=>?_
 conv=>cbv
 exact .go [] (b5,v8) (ay _ ⟨by omega,by omega,by rw[show v8.toNat=i6.toNat+1 by omega,Wr,←hu,Bool.false_or,hS];show _=Tq aa _;rw[hb,List.take_of_length_le (by omega)]⟩ mlt)
 conv=>cbv
 refine .go i4.toNat An fun ab ⟨ac,af,ag⟩ ak=>?_
 conv=>cbv
 refine .one (⟨ac,af,ag⟩:Bg) ah rfl fun an z6 ax ao=>?_
 conv=>cbv
 refine .add fun v7 a5=>?_
 conv=>cbv
 have hid:(Ae.getD i4.toNat ⟨0,tx [],0⟩).id_=ac:=by rw[←gD ab,←ak]
 have hus:=Yi (show i6.toNat≤Ag.length+1 by omega) hu
 rw[hid]at hus
 exact .go [9] (v7,z6,an) (hJ _ ⟨_,ao,Lx,by omega,by omega,by rw[show v7.toNat=i4.toNat+1 by omega,Km ab,←hx,←ak];simp only[];rw[hus];rfl,by rw[List.length_append,List.length_singleton];omega⟩ mlt)
 conv=>cbv
 cases b5
 conv=>cbv
 refine .add fun v5 bd=>?_
 conv=>cbv
 have hj:i4.toNat<Ae.length:=by omega
 have hus:Xdn Ak Ag Ae[i4.toNat].id_=false:=by rw[gD hj (d:=⟨0,tx [],0⟩)];unfold Xdn;rw[show Ag.length+1=i6.toNat by omega];exact hu.symm
 exact .go [7] (v5,ad,ae) (hJ _ ⟨_,ah,Lx,by omega,by omega,by rw[show v5.toNat=i4.toNat+1 by omega,Km hj,←hx,hus];simp,by omega⟩ mlt)
 conv=>cbv
 refine .go i4.toNat An fun ab ⟨ac,af,ag⟩ ak=>?_
 conv=>cbv
 refine .one (⟨ac,af,ag⟩:Bg) ah rfl fun an z6 ax ao=>?_
 conv=>cbv
 refine .add fun v7 a5=>?_
 conv=>cbv
 have hid:(Ae.getD i4.toNat ⟨0,tx [],0⟩).id_=ac:=by rw[←gD ab,←ak]
 have hus:=Yi (show i6.toNat≤Ag.length+1 by omega) hu
 rw[hid]at hus
 exact .go [9] (v7,z6,an) (hJ _ ⟨_,ao,Lx,by omega,by omega,by rw[show v7.toNat=i4.toNat+1 by omega,Km ab,←hx,←ak];simp only[];rw[hus];rfl,by rw[List.length_append,List.length_singleton];omega⟩ mlt)
 conv=>cbv
 have e:(⟨w7,Al,Ak,Ag,At,Ap⟩:Aa)=Fq (⟨Ae,Al,Ak,Ag,At,Ap⟩:Aa):=(by unfold Fq;dsimp only;rw[hx,List.take_of_length_le (by omega)])
 rw[hr]at e
 simp only[Aa.mk.injEq]at e
 obtain⟨rfl,rfl,rfl,rfl,rfl,rfl⟩:=e
 exact hQ _ _ (.one (.inl rfl) rfl (.agg (.ref rfl (Af ah) (C3 ah Xas) (.d rfl (Dx Am Y4) (.d rfl (Dx Aq Y5) (.d rfl (Dx As Wv) .d2)))) .nil))
theorem XaY(An:Ae.map Bi=Bv)(Am:Al.map Ac=Bq)(Aq:Ak.map Ac=Bn)(As:Ag.map cS=Br)(hn:Ae.length≤1000000000)(he:Al.length≤1000000000)(ho:Ak.length≤1000000000)(hs:Ag.length<1000000000)(hss:okS Ag)(a6:Jw (⟨Ae,Al,Ak,Ag,At,Ap⟩:Aa))(hm:name.size≤1000000000)(hr:Bf (⟨Ae,Al,Ak,Ag,At,Ap⟩:Aa) name=(⟨Fd,Fb,Fc,Fa,Gd,Gf⟩,ob))(By:Fd.map Bi=Cc)(Bx:Fb.map Ac=Cb)(Bz:Fc.map Ac=Ca)(B0:Fa.map cS=B9):Fn Tryz.prog 223 [.agg [.d (.row 3 Bv),.d (.row 2 Bq),.d (.row 2 Bn),.d (.row 1 Br),I At,I Ap],S name] [] ⟨.tup [.agg [.d (.row 3 Cc),.d (.row 2 Cb),.d (.row 2 Ca),.d (.row 1 B9),I Gd,I Gf],I ob],[],[]⟩:=by
 refine Fn.go Hb Tryz.func223 fun P hP Q hQ=>?_
 conv=>cbv
 obtain⟨n2,a7⟩:∃m,m=Ae.length:=⟨_,rfl⟩
 obtain⟨n3,a8⟩:∃m,m=Al.length:=⟨_,rfl⟩
 obtain⟨n4,a9⟩:∃m,m=Ak.length:=⟨_,rfl⟩
 obtain⟨n5,ba⟩:∃m,m=Ag.length:=⟨_,rfl⟩
 refine .ddN hP (Kh An Am Aq As (by omega) (by omega) (by omega) (by omega) a7 a8 a9 ba) rfl ?_
 conv=>cbv
 generalize aa:Bk (⟨Ae,Al,Ak,Ag,At,Ap⟩:Aa)=r6
 refine .lnt hP (Ol An Am Aq As a6 aa) (.agg (.ref rfl (Af An) (.ref rfl (Af Am) (.ref rfl (Af Aq) (.ref rfl (Af As) (.d rfl (.d rfl .nil)))))) .nil) ?_
 cases r6
 conv=>cbv
 have e:((⟨Ae,Al,Ak,Ag,At,Ap⟩:Aa),3)=Bf (⟨Ae,Al,Ak,Ag,At,Ap⟩:Aa) name:=(by unfold Bf;rw[if_pos aa])
 rw[hr]at e
 simp only[Prod.mk.injEq,Aa.mk.injEq]at e
 obtain⟨⟨rfl,rfl,rfl,rfl,rfl,rfl⟩,rfl⟩:=e
 refine hQ _ _ ?_
 exact .m rfl (.agg (.ref rfl (Af An) (C3 An By) (.ref rfl (Af Am) (C3 Am Bx) (.ref rfl (Af Aq) (C3 Aq Bz) (.ref rfl (Af As) (C3 As B0) .d2)))) .d1)
 conv=>cbv
 generalize ab:Bj name=r7
 refine .dd hP (L8 (by omega) ab) ?_
 cases r7
 conv=>cbv
 have e:((⟨Ae,Al,Ak,Ag,At,Ap⟩:Aa),1)=Bf (⟨Ae,Al,Ak,Ag,At,Ap⟩:Aa) name:=(by unfold Bf;rw[if_neg (by rw[aa];decide),if_pos ab])
 rw[hr]at e
 simp only[Prod.mk.injEq,Aa.mk.injEq]at e
 obtain⟨⟨rfl,rfl,rfl,rfl,rfl,rfl⟩,rfl⟩:=e
 refine hQ _ _ ?_
 exact .m rfl (.agg (.ref rfl (Af An) (C3 An By) (.ref rfl (Af Am) (C3 Am Bx) (.ref rfl (Af Aq) (C3 Aq Bz) (.ref rfl (Af As) (C3 As B0) .d2)))) .d1)
 conv=>cbv
 generalize ak:Em Al name=r8
 refine .lnt hP (Mr Am (by omega) ak) (.ref rfl (Af Am) (.d rfl .nil)) ?_
 cases r8
 conv=>cbv
 refine .go fun v9 bl=>?_
 conv=>cbv
 refine .geq (fun h10=>?_) fun h10=>?_
 conv=>cbv
 have e:((⟨Ae,Al,Ak,Ag,At,Ap⟩:Aa),4)=Bf (⟨Ae,Al,Ak,Ag,At,Ap⟩:Aa) name:=(by unfold Bf;rw[if_neg (by rw[aa];decide),if_neg (by rw[ab];decide),if_neg (by have:=Xb2 ak;dsimp only;omega),if_pos (by dsimp only;omega)])
 rw[hr]at e
 simp only[Prod.mk.injEq,Aa.mk.injEq]at e
 obtain⟨⟨rfl,rfl,rfl,rfl,rfl,rfl⟩,rfl⟩:=e
 refine hQ _ _ ?_
 exact .m rfl (.agg (.ref rfl (Af An) (C3 An By) (.ref rfl (Af Am) (C3 Am Bx) (.ref rfl (Af Aq) (C3 Aq Bz) (.ref rfl (Af As) (C3 As B0) .d2)))) .d1)
 conv=>cbv
 refine .go fun bm be=>?_
 conv=>cbv
 refine .geq (fun h12=>?_) fun h12=>?_
 conv=>cbv
 have e:((⟨Ae,Al,Ak,Ag,At,Ap⟩:Aa),4)=Bf (⟨Ae,Al,Ak,Ag,At,Ap⟩:Aa) name:=(by unfold Bf;rw[if_neg (by rw[aa];decide),if_neg (by rw[ab];decide),if_neg (by have:=Xb2 ak;dsimp only;omega),if_pos (by dsimp only;omega)])
 rw[hr]at e
 simp only[Prod.mk.injEq,Aa.mk.injEq]at e
 obtain⟨⟨rfl,rfl,rfl,rfl,rfl,rfl⟩,rfl⟩:=e
 refine hQ _ _ ?_
 exact .m rfl (.agg (.ref rfl (Af An) (C3 An By) (.ref rfl (Af Am) (C3 Am Bx) (.ref rfl (Af Aq) (C3 Aq Bz) (.ref rfl (Af As) (C3 As B0) .d2)))) .d1)
 conv=>cbv
 refine .geq (fun h13=>?_) fun h13=>?_
 conv=>cbv
 have e:((⟨Ae,Al,Ak,Ag,At,Ap⟩:Aa),4)=Bf (⟨Ae,Al,Ak,Ag,At,Ap⟩:Aa) name:=(by unfold Bf;rw[if_neg (by rw[aa];decide),if_neg (by rw[ab];decide),if_neg (by have:=Xb2 ak;dsimp only;omega),if_pos (by dsimp only;omega)])
 rw[hr]at e
 simp only[Prod.mk.injEq,Aa.mk.injEq]at e
 obtain⟨⟨rfl,rfl,rfl,rfl,rfl,rfl⟩,rfl⟩:=e
 refine hQ _ _ ?_
 exact .m rfl (.agg (.ref rfl (Af An) (C3 An By) (.ref rfl (Af Am) (C3 Am Bx) (.ref rfl (Af Aq) (C3 Aq Bz) (.ref rfl (Af As) (C3 As B0) .d2)))) .d1)
 conv=>cbv
 have hri:=Hu aa
 simp only[]at hri
 refine .one (⟨Ap,tx [],0⟩:Bg) An rfl fun bf bn bb ao=>?_
 conv=>cbv
 generalize ap:Eo Al (⟨name,Ap⟩:Ad)=ax
 generalize aq:ax.map Ac=bg
 refine .lntD hP (Iu Am (by omega) ap aq) (.ref rfl (Af Am) (.agg (.d rfl (.d rfl .nil)) .nil)) ?_
 conv=>cbv
 have hnz:=V4 ab
 refine .litL 1 fun bo ay bh=>?_
 conv=>cbv
 refine .litR 1 fun bp az bi=>?_
 conv=>cbv
 generalize al:Ci Ap=bq
 refine .dd hP (Xcr (by unfold Xae;omega) al) ?_
 conv=>cbv
 have zr18:=Ss al (by unfold Xae;omega)
 refine .go fun aw a0 bj=>?_
 conv=>cbv
 refine .one aw As rfl fun bk bt bc ar=>?_
 conv=>cbv
 refine .add fun bd a1=>?_
 conv=>cbv
 rcases au:Fq (⟨Ae++[(⟨Ap,tx [],0⟩:Bg)],ax,Ak,Ag++[aw],At,bd⟩:Aa)with⟨ag,ah,ai,aj,am,an⟩
 generalize ac:ag.map Bi=a2
 generalize ad:ah.map Ac=a3
 generalize ae:ai.map Ac=a4
 generalize af:aj.map cS=a5
 refine .lntD hP (O0 ao aq Aq ar (by rw[List.length_append,List.length_singleton];omega) (by omega) (by rw[List.length_append,List.length_singleton];omega) (Qv hss (by omega)) au ac ad ae af) (.agg (.ref rfl (Af ao) (.d rfl (.ref rfl (Af Aq) (.ref rfl (Af ar) (.d rfl (.d rfl .nil)))))) .nil) ?_
 conv=>cbv
 have e:((⟨ag,ah,ai,aj,am,an⟩:Aa),0)=Bf (⟨Ae,Al,Ak,Ag,At,Ap⟩:Aa) name:=(by unfold Bf;rw[if_neg (by rw[aa];decide),if_neg (by rw[ab];decide),if_neg (by have:=Xb2 ak;dsimp only;omega),if_neg (by dsimp only;omega)];exact congrArg (fun x:Aa=>(x,(0:Int))) (au.symm.trans (by rw[←ap,a1,show aw=tx [43]++name++tx [58]++Ci Ap from(by rw[a0,az,ay,al];rfl)];exact XdB aa ab)))
 rw[hr]at e
 simp only[Prod.mk.injEq,Aa.mk.injEq]at e
 obtain⟨⟨rfl,rfl,rfl,rfl,rfl,rfl⟩,rfl⟩:=e
 refine hQ _ _ ?_
 exact .m rfl (.agg (.d rfl (Dx ac By) (.d rfl (Dx ad Bx) (.d rfl (Dx ae Bz) (.d rfl (Dx af B0) .d2)))) .d1)
 conv=>cbv
 have e:((⟨Ae,Al,Ak,Ag,At,Ap⟩:Aa),2)=Bf (⟨Ae,Al,Ak,Ag,At,Ap⟩:Aa) name:=(by unfold Bf;rw[if_neg (by rw[aa];decide),if_neg (by rw[ab];decide),if_pos (Zk ak)])
 rw[hr]at e
 simp only[Prod.mk.injEq,Aa.mk.injEq]at e
 obtain⟨⟨rfl,rfl,rfl,rfl,rfl,rfl⟩,rfl⟩:=e
 refine hQ _ _ ?_
 exact .m rfl (.agg (.ref rfl (Af An) (C3 An By) (.ref rfl (Af Am) (C3 Am Bx) (.ref rfl (Af Aq) (C3 Aq Bz) (.ref rfl (Af As) (C3 As B0) .d2)))) .d1)
theorem XaM{text:ByteArray}(An:Ae.map Bi=Bv)(Am:Al.map Ac=Bq)(Aq:Ak.map Ac=Bn)(As:Ag.map cS=Br)(hn:Ae.length≤1000000000)(he:Al.length≤1000000000)(ho:Ak.length≤1000000000)(hs:Ag.length<1000000000)(hss:okS Ag)(aj:Jw (⟨Ae,Al,Ak,Ag,At,Ap⟩:Aa))(ht:text.size≤1000000000)(hr:B6 (⟨Ae,Al,Ak,Ag,At,Ap⟩:Aa) name text=(⟨Fd,Fb,Fc,Fa,Gd,Gf⟩,ob))(By:Fd.map Bi=Cc)(Bx:Fb.map Ac=Cb)(Bz:Fc.map Ac=Ca)(B0:Fa.map cS=B9):Fn Tryz.prog 145 [.agg [.d (.row 3 Bv),.d (.row 2 Bq),.d (.row 2 Bn),.d (.row 1 Br),I At,I Ap],S name,S text] [] ⟨.tup [.agg [.d (.row 3 Cc),.d (.row 2 Cb),.d (.row 2 Ca),.d (.row 1 B9),I Gd,I Gf],I ob],[],[]⟩:=by
 refine Fn.go Hb Tryz.func145 fun P hP Q hQ=>?_
 conv=>cbv
 obtain⟨n2,a4⟩:∃m,m=Ae.length:=⟨_,rfl⟩
 obtain⟨n3,a5⟩:∃m,m=Al.length:=⟨_,rfl⟩
 obtain⟨n4,a6⟩:∃m,m=Ak.length:=⟨_,rfl⟩
 obtain⟨n5,a7⟩:∃m,m=Ag.length:=⟨_,rfl⟩
 refine .ddN hP (Kh An Am Aq As (by omega) (by omega) (by omega) (by omega) a4 a5 a6 a7) rfl ?_
 conv=>cbv
 generalize ah:Bk (⟨Ae,Al,Ak,Ag,At,Ap⟩:Aa)=r6
 refine .lnt hP (Ol An Am Aq As aj ah) (.agg (.ref rfl (Af An) (.ref rfl (Af Am) (.ref rfl (Af Aq) (.ref rfl (Af As) (.d rfl (.d rfl .nil)))))) .nil) ?_
 cases r6
 conv=>cbv
 have e:((⟨Ae,Al,Ak,Ag,At,Ap⟩:Aa),3)=B6 (⟨Ae,Al,Ak,Ag,At,Ap⟩:Aa) name text:=(by unfold B6;rw[if_pos (.inl ah)])
 rw[hr]at e
 simp only[Prod.mk.injEq,Aa.mk.injEq]at e
 obtain⟨⟨rfl,rfl,rfl,rfl,rfl,rfl⟩,rfl⟩:=e
 refine hQ _ _ ?_
 exact .m rfl (.agg (.ref rfl (Af An) (C3 An By) (.ref rfl (Af Am) (C3 Am Bx) (.ref rfl (Af Aq) (C3 Aq Bz) (.ref rfl (Af As) (C3 As B0) .d2)))) .d1)
 conv=>cbv
 generalize ao:Em Al name=r7
 refine .lnt hP (Mr Am (by omega) ao) (.ref rfl (Af Am) (.d rfl .nil)) ?_
 cases r7
 conv=>cbv
 have e:((⟨Ae,Al,Ak,Ag,At,Ap⟩:Aa),3)=B6 (⟨Ae,Al,Ak,Ag,At,Ap⟩:Aa) name text:=(by unfold B6;rw[if_pos (.inr (Rp (Xb2 ao)))])
 rw[hr]at e
 simp only[Prod.mk.injEq,Aa.mk.injEq]at e
 obtain⟨⟨rfl,rfl,rfl,rfl,rfl,rfl⟩,rfl⟩:=e
 refine hQ _ _ ?_
 exact .m rfl (.agg (.ref rfl (Af An) (C3 An By) (.ref rfl (Af Am) (C3 Am Bx) (.ref rfl (Af Aq) (C3 Aq Bz) (.ref rfl (Af As) (C3 As B0) .d2)))) .d1)
 conv=>cbv
 generalize ar:Cs Al name=r8
 refine .lnt hP (L3 Am (by omega) ar) (.ref rfl (Af Am) (.d rfl .nil)) ?_
 conv=>cbv
 generalize au:Hd (⟨Ae,Al,Ak,Ag,At,Ap⟩:Aa) r8=r9
 refine .lnt hP (Q3 An Am Aq As (by omega) au) (.agg (.ref rfl (Af An) (.ref rfl (Af Am) (.ref rfl (Af Aq) (.ref rfl (Af As) (.d rfl (.d rfl .nil)))))) (.d rfl .nil)) ?_
 conv=>cbv
 have hpl:=Zk ao
 have hk:Cu (⟨Ae,Al,Ak,Ag,At,Ap⟩:Aa) name=r9:=by rw[←R5 (d:=(⟨Ae,Al,Ak,Ag,At,Ap⟩:Aa)) hpl];show Hd _ (Cs Al name)=r9;rw[ar,au]
 have hb:=Hr hk
 have a8:=(XaB ah hpl).2
 rw[hk]at a8
 simp only[]at hb
 generalize af:Fy (⟨Ae,Al,Ak,Ag,At,Ap⟩:Aa)=aw
 refine .lnt hP (Xes An Am Aq As aj.1 af) (.agg (.ref rfl (Af An) (.ref rfl (Af Am) (.ref rfl (Af Aq) (.ref rfl (Af As) (.d rfl (.d rfl .nil)))))) .nil) ?_
 conv=>cbv
 have hri:=Hu ah
 simp only[af]at hri
 refine .sub fun bf ax=>?_
 conv=>cbv
 refine .go fun bg bb=>?_
 conv=>cbv
 refine .gtr (fun h13=>?_) fun h13=>?_
 conv=>cbv
 refine .go r9.toNat fun ai ay ap=>?_
 conv=>cbv
 refine .go An fun ae ⟨aq,aa,ak⟩ ab=>?_
 conv=>cbv
 have az:aa.size≤1000000000:=by have h9:=aj.1.2.1 _ (List.getElem_mem ae);rw[←ab]at h9;exact h9
 refine .hi fun al ag=>?_
 conv=>cbv
 have bc:al.size≤text.size:=by rw[ag,ByteArray.size_extract];omega
 refine .go fun a0 a1 bd=>?_
 conv=>cbv
 refine .go r9.toNat fun ac a2 a9=>?_
 conv=>cbv
 refine .go (⟨(Ae.getD ac ⟨0,tx [],0⟩).id_,a0,(Ae.getD ac ⟨0,tx [],0⟩).sure_⟩:Bg) An (by omega) (by rw[←gD (show ac<Ae.length by omega)];rfl) (show 1+1≤3 by decide) fun bh am=>?_
 conv=>cbv
 have e:((⟨Ae.set ac (⟨(Ae.getD ac ⟨0,tx [],0⟩).id_,a0,(Ae.getD ac ⟨0,tx [],0⟩).sure_⟩:Bg),Al,Ak,Ag,At,Ap⟩:Aa),5)=B6 (⟨Ae,Al,Ak,Ag,At,Ap⟩:Aa) name text:=(by unfold B6;rw[if_neg (by rintro(h|h);rw[ah]at h;cases h;rw[hk]at h;omega),hk,af];dsimp only;rw[if_pos (by omega)];unfold Xkf gN;dsimp only;have e9:aa=(Ae.getD ac ⟨0,tx [],0⟩).text_:=(by have h9:ai=ac:=(by omega);subst h9;rw[←gD (show ai<Ae.length by omega),←ab]);rw[←a2,a1,e9,ag,ax,show min (text.size:Int) (At - aw)=At - aw by omega])
 rw[hr]at e
 simp only[Prod.mk.injEq,Aa.mk.injEq]at e
 obtain⟨⟨rfl,rfl,rfl,rfl,rfl,rfl⟩,rfl⟩:=e
 refine hQ _ _ ?_
 exact .m rfl (.agg (.ref rfl (Af am) (C3 am By) (.ref rfl (Af Am) (C3 Am Bx) (.ref rfl (Af Aq) (C3 Aq Bz) (.ref rfl (Af As) (C3 As B0) .d2)))) .d1)
 conv=>cbv
 refine .go r9.toNat fun ai ay ap=>?_
 conv=>cbv
 refine .go An fun ae ⟨aq,aa,ak⟩ ab=>?_
 conv=>cbv
 have az:aa.size≤1000000000:=by have h9:=aj.1.2.1 _ (List.getElem_mem ae);rw[←ab]at h9;exact h9
 refine .go fun al ag be=>?_
 conv=>cbv
 refine .go r9.toNat fun ad a3 ba=>?_
 conv=>cbv
 refine .go (⟨(Ae.getD ad ⟨0,tx [],0⟩).id_,al,(Ae.getD ad ⟨0,tx [],0⟩).sure_⟩:Bg) An (by omega) (by rw[←gD (show ad<Ae.length by omega)];rfl) (show 1+1≤3 by decide) fun bi an=>?_
 conv=>cbv
 have e:((⟨Ae.set ad (⟨(Ae.getD ad ⟨0,tx [],0⟩).id_,al,(Ae.getD ad ⟨0,tx [],0⟩).sure_⟩:Bg),Al,Ak,Ag,At,Ap⟩:Aa),0)=B6 (⟨Ae,Al,Ak,Ag,At,Ap⟩:Aa) name text:=(by unfold B6;rw[if_neg (by rintro(h|h);rw[ah]at h;cases h;rw[hk]at h;omega),hk,af];dsimp only;rw[if_neg (by omega)];unfold Xkf gN;dsimp only;have e9:aa=(Ae.getD ad ⟨0,tx [],0⟩).text_:=(by have h9:ai=ad:=(by omega);subst h9;rw[←gD (show ai<Ae.length by omega),←ab]);rw[←a3,ag,e9,Yt (t:=text) (by omega)])
 rw[hr]at e
 simp only[Prod.mk.injEq,Aa.mk.injEq]at e
 obtain⟨⟨rfl,rfl,rfl,rfl,rfl,rfl⟩,rfl⟩:=e
 refine hQ _ _ ?_
 exact .m rfl (.agg (.ref rfl (Af an) (C3 an By) (.ref rfl (Af Am) (C3 Am Bx) (.ref rfl (Af Aq) (C3 Aq Bz) (.ref rfl (Af As) (C3 As B0) .d2)))) .d1)
theorem Xfx(An:Ae.map Bi=Bv)(Am:Al.map Ac=Bq)(Aq:Ak.map Ac=Bn)(As:Ag.map cS=Br)(hn:Ae.length≤1000000000)(he:Al.length≤1000000000)(ho:Ak.length≤1000000000)(hs:Ag.length<1000000000)(hss:okS Ag)(an:Jw (⟨Ae,Al,Ak,Ag,At,Ap⟩:Aa))(hr:Dk (⟨Ae,Al,Ak,Ag,At,Ap⟩:Aa) name=(⟨Fd,Fb,Fc,Fa,Gd,Gf⟩,ob))(By:Fd.map Bi=Cc)(Bx:Fb.map Ac=Cb)(Bz:Fc.map Ac=Ca)(B0:Fa.map cS=B9):Fn Tryz.prog 222 [.agg [.d (.row 3 Bv),.d (.row 2 Bq),.d (.row 2 Bn),.d (.row 1 Br),I At,I Ap],S name] [] ⟨.tup [.agg [.d (.row 3 Cc),.d (.row 2 Cb),.d (.row 2 Ca),.d (.row 1 B9),I Gd,I Gf],I ob],[],[]⟩:=by
 refine Fn.go Hb Tryz.func222 fun P hP Q hQ=>?_
 conv=>cbv
 obtain⟨n2,ao⟩:∃m,m=Ae.length:=⟨_,rfl⟩
 obtain⟨n3,ap⟩:∃m,m=Al.length:=⟨_,rfl⟩
 obtain⟨n4,aq⟩:∃m,m=Ak.length:=⟨_,rfl⟩
 obtain⟨n5,ar⟩:∃m,m=Ag.length:=⟨_,rfl⟩
 refine .ddN hP (Kh An Am Aq As (by omega) (by omega) (by omega) (by omega) ao ap aq ar) rfl ?_
 conv=>cbv
 generalize ab:Bk (⟨Ae,Al,Ak,Ag,At,Ap⟩:Aa)=r6
 refine .lnt hP (Ol An Am Aq As an ab) (.agg (.ref rfl (Af An) (.ref rfl (Af Am) (.ref rfl (Af Aq) (.ref rfl (Af As) (.d rfl (.d rfl .nil)))))) .nil) ?_
 cases r6
 conv=>cbv
 have e:((⟨Ae,Al,Ak,Ag,At,Ap⟩:Aa),3)=Dk (⟨Ae,Al,Ak,Ag,At,Ap⟩:Aa) name:=(by unfold Dk;rw[if_pos (.inl ab)])
 rw[hr]at e
 simp only[Prod.mk.injEq,Aa.mk.injEq]at e
 obtain⟨⟨rfl,rfl,rfl,rfl,rfl,rfl⟩,rfl⟩:=e
 refine hQ _ _ ?_
 exact .m rfl (.agg (.ref rfl (Af An) (C3 An By) (.ref rfl (Af Am) (C3 Am Bx) (.ref rfl (Af Aq) (C3 Aq Bz) (.ref rfl (Af As) (C3 As B0) .d2)))) .d1)
 conv=>cbv
 generalize ae:Em Al name=r7
 refine .lnt hP (Mr Am (by omega) ae) (.ref rfl (Af Am) (.d rfl .nil)) ?_
 cases r7
 conv=>cbv
 have e:((⟨Ae,Al,Ak,Ag,At,Ap⟩:Aa),3)=Dk (⟨Ae,Al,Ak,Ag,At,Ap⟩:Aa) name:=(by unfold Dk;rw[if_pos (.inr (Rp (Xb2 ae)))])
 rw[hr]at e
 simp only[Prod.mk.injEq,Aa.mk.injEq]at e
 obtain⟨⟨rfl,rfl,rfl,rfl,rfl,rfl⟩,rfl⟩:=e
 refine hQ _ _ ?_
 exact .m rfl (.agg (.ref rfl (Af An) (C3 An By) (.ref rfl (Af Am) (C3 Am Bx) (.ref rfl (Af Aq) (C3 Aq Bz) (.ref rfl (Af As) (C3 As B0) .d2)))) .d1)
 conv=>cbv
 generalize af:Cs Al name=r8
 refine .lnt hP (L3 Am (by omega) af) (.ref rfl (Af Am) (.d rfl .nil)) ?_
 conv=>cbv
 generalize ag:Hd (⟨Ae,Al,Ak,Ag,At,Ap⟩:Aa) r8=r9
 refine .lnt hP (Q3 An Am Aq As (by omega) ag) (.agg (.ref rfl (Af An) (.ref rfl (Af Am) (.ref rfl (Af Aq) (.ref rfl (Af As) (.d rfl (.d rfl .nil)))))) (.d rfl .nil)) ?_
 conv=>cbv
 have hpl:=Zk ae
 have hk:Cu (⟨Ae,Al,Ak,Ag,At,Ap⟩:Aa) name=r9:=by rw[←R5 (d:=(⟨Ae,Al,Ak,Ag,At,Ap⟩:Aa)) hpl];show Hd _ (Cs Al name)=r9;rw[af,ag]
 have hb:=Hr hk
 have au:=(XaB ab hpl).2
 rw[hk]at au
 simp only[]at hb
 refine .go r9.toNat fun ah a0 aw=>?_
 conv=>cbv
 refine .go An fun ax ⟨ay,ac,am⟩ ai=>?_
 conv=>cbv
 refine .go fun aj ak=>?_
 conv=>cbv
 refine .go r9.toNat fun aa al az=>?_
 conv=>cbv
 refine .go (⟨(Ae.getD aa ⟨0,tx [],0⟩).id_,(Ae.getD aa ⟨0,tx [],0⟩).text_,aj⟩:Bg) An (by omega) (by rw[←gD (show aa<Ae.length by omega)];rfl) (show 2+1≤3 by decide) fun a1 ad=>?_
 conv=>cbv
 have e:((⟨Ae.set aa (⟨(Ae.getD aa ⟨0,tx [],0⟩).id_,(Ae.getD aa ⟨0,tx [],0⟩).text_,aj⟩:Bg),Al,Ak,Ag,At,Ap⟩:Aa),0)=Dk (⟨Ae,Al,Ak,Ag,At,Ap⟩:Aa) name:=(by unfold Dk;rw[if_neg (by rintro(h|h);rw[ab]at h;cases h;rw[hk]at h;omega),hk];dsimp only;have e9:ac=(Ae.getD aa ⟨0,tx [],0⟩).text_:=(by have h9:ah=aa:=(by omega);subst h9;rw[←gD (show ah<Ae.length by omega),←ai]);rw[ak,e9,←al])
 rw[hr]at e
 simp only[Prod.mk.injEq,Aa.mk.injEq]at e
 obtain⟨⟨rfl,rfl,rfl,rfl,rfl,rfl⟩,rfl⟩:=e
 refine hQ _ _ ?_
 exact .m rfl (.agg (.ref rfl (Af ad) (C3 ad By) (.ref rfl (Af Am) (C3 Am Bx) (.ref rfl (Af Aq) (C3 Aq Bz) (.ref rfl (Af As) (C3 As B0) .d2)))) .d1)
theorem XaX{from_:ByteArray}{to_:ByteArray}(An:Ae.map Bi=Bv)(Am:Al.map Ac=Bq)(Aq:Ak.map Ac=Bn)(As:Ag.map cS=Br)(hn:Ae.length≤1000000000)(he:Al.length≤1000000000)(ho:Ak.length≤1000000000)(hs:Ag.length<1000000000)(hss:okS Ag)(a7:Jw (⟨Ae,Al,Ak,Ag,At,Ap⟩:Aa))(hm:from_.size+to_.size<999999999)(hr:Bs (⟨Ae,Al,Ak,Ag,At,Ap⟩:Aa) from_ to_=(⟨Fd,Fb,Fc,Fa,Gd,Gf⟩,ob))(By:Fd.map Bi=Cc)(Bx:Fb.map Ac=Cb)(Bz:Fc.map Ac=Ca)(B0:Fa.map cS=B9):Fn Tryz.prog 238 [.agg [.d (.row 3 Bv),.d (.row 2 Bq),.d (.row 2 Bn),.d (.row 1 Br),I At,I Ap],S from_,S to_] [] ⟨.tup [.agg [.d (.row 3 Cc),.d (.row 2 Cb),.d (.row 2 Ca),.d (.row 1 B9),I Gd,I Gf],I ob],[],[]⟩:=by
 refine Fn.go Hb Tryz.func238 fun P hP Q hQ=>?_
 conv=>cbv
 obtain⟨n2,a8⟩:∃m,m=Ae.length:=⟨_,rfl⟩
 obtain⟨n3,a9⟩:∃m,m=Al.length:=⟨_,rfl⟩
 obtain⟨n4,ba⟩:∃m,m=Ak.length:=⟨_,rfl⟩
 obtain⟨n5,bb⟩:∃m,m=Ag.length:=⟨_,rfl⟩
 refine .ddN hP (Kh An Am Aq As (by omega) (by omega) (by omega) (by omega) a8 a9 ba bb) rfl ?_
 conv=>cbv
 generalize ai:Bk (⟨Ae,Al,Ak,Ag,At,Ap⟩:Aa)=r6
 refine .lnt hP (Ol An Am Aq As a7 ai) (.agg (.ref rfl (Af An) (.ref rfl (Af Am) (.ref rfl (Af Aq) (.ref rfl (Af As) (.d rfl (.d rfl .nil)))))) .nil) ?_
 cases r6
 conv=>cbv
 have e:((⟨Ae,Al,Ak,Ag,At,Ap⟩:Aa),3)=Bs (⟨Ae,Al,Ak,Ag,At,Ap⟩:Aa) from_ to_:=(by unfold Bs;rw[if_pos (.inl ai)])
 rw[hr]at e
 simp only[Prod.mk.injEq,Aa.mk.injEq]at e
 obtain⟨⟨rfl,rfl,rfl,rfl,rfl,rfl⟩,rfl⟩:=e
 refine hQ _ _ ?_
 exact .m rfl (.agg (.ref rfl (Af An) (C3 An By) (.ref rfl (Af Am) (C3 Am Bx) (.ref rfl (Af Aq) (C3 Aq Bz) (.ref rfl (Af As) (C3 As B0) .d2)))) .d1)
 conv=>cbv
 generalize aj:Em Al from_=r7
 refine .lnt hP (Mr Am (by omega) aj) (.ref rfl (Af Am) (.d rfl .nil)) ?_
 cases r7
 conv=>cbv
 have e:((⟨Ae,Al,Ak,Ag,At,Ap⟩:Aa),3)=Bs (⟨Ae,Al,Ak,Ag,At,Ap⟩:Aa) from_ to_:=(by unfold Bs;rw[if_pos (.inr (Xb2 aj))])
 rw[hr]at e
 simp only[Prod.mk.injEq,Aa.mk.injEq]at e
 obtain⟨⟨rfl,rfl,rfl,rfl,rfl,rfl⟩,rfl⟩:=e
 refine hQ _ _ ?_
 exact .m rfl (.agg (.ref rfl (Af An) (C3 An By) (.ref rfl (Af Am) (C3 Am Bx) (.ref rfl (Af Aq) (C3 Aq Bz) (.ref rfl (Af As) (C3 As B0) .d2)))) .d1)
 conv=>cbv
 generalize al:Bj to_=r8
 refine .dd hP (L8 (by omega) al) ?_
 cases r8
 conv=>cbv
 have e:((⟨Ae,Al,Ak,Ag,At,Ap⟩:Aa),1)=Bs (⟨Ae,Al,Ak,Ag,At,Ap⟩:Aa) from_ to_:=(by unfold Bs;rw[if_neg (by rintro(h|h);rw[ai]at h;cases h;have:=Zk aj;dsimp only at h;omega),if_pos (.inl al)])
 rw[hr]at e
 simp only[Prod.mk.injEq,Aa.mk.injEq]at e
 obtain⟨⟨rfl,rfl,rfl,rfl,rfl,rfl⟩,rfl⟩:=e
 refine hQ _ _ ?_
 exact .m rfl (.agg (.ref rfl (Af An) (C3 An By) (.ref rfl (Af Am) (C3 Am Bx) (.ref rfl (Af Aq) (C3 Aq Bz) (.ref rfl (Af As) (C3 As B0) .d2)))) .d1)
 conv=>cbv
 refine .eql (fun h9=>?_) fun h9=>?_
 conv=>cbv
 have e:((⟨Ae,Al,Ak,Ag,At,Ap⟩:Aa),1)=Bs (⟨Ae,Al,Ak,Ag,At,Ap⟩:Aa) from_ to_:=(by unfold Bs;rw[if_neg (by rintro(h|h);rw[ai]at h;cases h;have:=Zk aj;dsimp only at h;omega),if_pos (.inr h9)])
 rw[hr]at e
 simp only[Prod.mk.injEq,Aa.mk.injEq]at e
 obtain⟨⟨rfl,rfl,rfl,rfl,rfl,rfl⟩,rfl⟩:=e
 refine hQ _ _ ?_
 exact .m rfl (.agg (.ref rfl (Af An) (C3 An By) (.ref rfl (Af Am) (C3 Am Bx) (.ref rfl (Af Aq) (C3 Aq Bz) (.ref rfl (Af As) (C3 As B0) .d2)))) .d1)
 conv=>cbv
 generalize ao:Cs Al from_=bc
 refine .lnt hP (L3 Am (by omega) ao) (.ref rfl (Af Am) (.d rfl .nil)) ?_
 conv=>cbv
 generalize ak:D2 Al from_=ay
 have bd:=Ih ak
 generalize ap:ay.map Ac=bf
 refine .lntD hP (Lr Am (by omega) ak ap) (.ref rfl (Af Am) (.d rfl .nil)) ?_
 conv=>cbv
 generalize aq:Eo ay (⟨to_,bc⟩:Ad)=az
 generalize ar:az.map Ac=bg
 refine .dd hP (Iu ap (by omega) aq ar) ?_
 conv=>cbv
 refine .litL 1 fun bl a0 bh=>?_
 conv=>cbv
 refine .litR 1 fun bm a1 bi=>?_
 conv=>cbv
 refine .go fun ax a2 bj=>?_
 conv=>cbv
 refine .one ax As rfl fun bk bn be au=>?_
 conv=>cbv
 rcases aw:Fq (⟨Ae,az,Ak,Ag++[ax],At,Ap⟩:Aa)with⟨ae,af,ag,ah,am,an⟩
 generalize aa:ae.map Bi=a3
 generalize ab:af.map Ac=a4
 generalize ac:ag.map Ac=a5
 generalize ad:ah.map cS=a6
 refine .lntD hP (O0 An ar Aq au (by omega) (by omega) (by rw[List.length_append,List.length_singleton];omega) (Qv hss (by omega)) aw aa ab ac ad) (.agg (.ref rfl (Af An) (.d rfl (.ref rfl (Af Aq) (.ref rfl (Af au) (.d rfl (.d rfl .nil)))))) .nil) ?_
 conv=>cbv
 have e:((⟨ae,af,ag,ah,am,an⟩:Aa),0)=Bs (⟨Ae,Al,Ak,Ag,At,Ap⟩:Aa) from_ to_:=(by unfold Bs;rw[if_neg (by rintro(h|h);rw[ai]at h;cases h;have:=Zk aj;dsimp only at h;omega),if_neg (by rintro(h|h);rw[al]at h;cases h;exact h9 h)];exact congrArg (fun x:Aa=>(x,(0:Int))) (aw.symm.trans (by rw[←aq,←ak,←ao,show ax=tx [62]++from_++tx [58]++to_ from(by rw[a2,a1,a0];rfl)];exact XdE ai (Zk aj) al h9)))
 rw[hr]at e
 simp only[Prod.mk.injEq,Aa.mk.injEq]at e
 obtain⟨⟨rfl,rfl,rfl,rfl,rfl,rfl⟩,rfl⟩:=e
 refine hQ _ _ ?_
 exact .m rfl (.agg (.d rfl (Dx aa By) (.d rfl (Dx ab Bx) (.d rfl (Dx ac Bz) (.d rfl (Dx ad B0) .d2)))) .d1)
theorem XbM(An:Ae.map Bi=Bv)(Am:Al.map Ac=Bq)(Aq:Ak.map Ac=Bn)(As:Ag.map cS=Br)(hn:Ae.length≤1000000000)(he:Al.length≤1000000000)(ho:Ak.length≤1000000000)(hs:Ag.length<1000000000)(hss:okS Ag)(ax:Jw (⟨Ae,Al,Ak,Ag,At,Ap⟩:Aa))(hm:name.size<1000000000)(hr:Db (⟨Ae,Al,Ak,Ag,At,Ap⟩:Aa) name=(⟨Fd,Fb,Fc,Fa,Gd,Gf⟩,ob))(By:Fd.map Bi=Cc)(Bx:Fb.map Ac=Cb)(Bz:Fc.map Ac=Ca)(B0:Fa.map cS=B9):Fn Tryz.prog 237 [.agg [.d (.row 3 Bv),.d (.row 2 Bq),.d (.row 2 Bn),.d (.row 1 Br),I At,I Ap],S name] [] ⟨.tup [.agg [.d (.row 3 Cc),.d (.row 2 Cb),.d (.row 2 Ca),.d (.row 1 B9),I Gd,I Gf],I ob],[],[]⟩:=by
 refine Fn.go Hb Tryz.func237 fun P hP Q hQ=>?_
 conv=>cbv
 obtain⟨n2,ay⟩:∃m,m=Ae.length:=⟨_,rfl⟩
 obtain⟨n3,az⟩:∃m,m=Al.length:=⟨_,rfl⟩
 obtain⟨n4,a0⟩:∃m,m=Ak.length:=⟨_,rfl⟩
 obtain⟨n5,a1⟩:∃m,m=Ag.length:=⟨_,rfl⟩
 refine .ddN hP (Kh An Am Aq As (by omega) (by omega) (by omega) (by omega) ay az a0 a1) rfl ?_
 conv=>cbv
 generalize ai:Bk (⟨Ae,Al,Ak,Ag,At,Ap⟩:Aa)=r6
 refine .lnt hP (Ol An Am Aq As ax ai) (.agg (.ref rfl (Af An) (.ref rfl (Af Am) (.ref rfl (Af Aq) (.ref rfl (Af As) (.d rfl (.d rfl .nil)))))) .nil) ?_
 cases r6
 conv=>cbv
 have e:((⟨Ae,Al,Ak,Ag,At,Ap⟩:Aa),3)=Db (⟨Ae,Al,Ak,Ag,At,Ap⟩:Aa) name:=(by unfold Db;rw[if_pos (.inl ai)])
 rw[hr]at e
 simp only[Prod.mk.injEq,Aa.mk.injEq]at e
 obtain⟨⟨rfl,rfl,rfl,rfl,rfl,rfl⟩,rfl⟩:=e
 refine hQ _ _ ?_
 exact .m rfl (.agg (.ref rfl (Af An) (C3 An By) (.ref rfl (Af Am) (C3 Am Bx) (.ref rfl (Af Aq) (C3 Aq Bz) (.ref rfl (Af As) (C3 As B0) .d2)))) .d1)
 conv=>cbv
 generalize aj:Em Al name=r7
 refine .lnt hP (Mr Am (by omega) aj) (.ref rfl (Af Am) (.d rfl .nil)) ?_
 cases r7
 conv=>cbv
 have e:((⟨Ae,Al,Ak,Ag,At,Ap⟩:Aa),3)=Db (⟨Ae,Al,Ak,Ag,At,Ap⟩:Aa) name:=(by unfold Db;rw[if_pos (.inr (Xb2 aj))])
 rw[hr]at e
 simp only[Prod.mk.injEq,Aa.mk.injEq]at e
 obtain⟨⟨rfl,rfl,rfl,rfl,rfl,rfl⟩,rfl⟩:=e
 refine hQ _ _ ?_
 exact .m rfl (.agg (.ref rfl (Af An) (C3 An By) (.ref rfl (Af Am) (C3 Am Bx) (.ref rfl (Af Aq) (C3 Aq Bz) (.ref rfl (Af As) (C3 As B0) .d2)))) .d1)
 conv=>cbv
 generalize ao:D2 Al name=l8
 generalize ap:l8.map Ac=a5
 refine .lntD hP (Lr Am (by omega) ao ap) (.ref rfl (Af Am) (.d rfl .nil)) ?_
 conv=>cbv
 refine .litL 1 fun s9 a2 a6=>?_
 conv=>cbv
 refine .one s9 As rfl fun a4 a7 a3 am=>?_
 conv=>cbv
 rcases an:Fq (⟨Ae,l8,Ak,Ag++[s9],At,Ap⟩:Aa)with⟨ae,af,ag,ah,ak,al⟩
 generalize aa:ae.map Bi=aq
 generalize ab:af.map Ac=ar
 generalize ac:ag.map Ac=au
 generalize ad:ah.map cS=aw
 refine .lntD hP (O0 An ap Aq am (by omega) (by omega) (by rw[List.length_append,List.length_singleton];omega) (Qv hss (by omega)) an aa ab ac ad) (.agg (.ref rfl (Af An) (.d rfl (.ref rfl (Af Aq) (.ref rfl (Af am) (.d rfl (.d rfl .nil)))))) .nil) ?_
 conv=>cbv
 have e:((⟨ae,af,ag,ah,ak,al⟩:Aa),0)=Db (⟨Ae,Al,Ak,Ag,At,Ap⟩:Aa) name:=(by unfold Db;rw[if_neg (by rintro(h|h);rw[ai]at h;cases h;have:=Zk aj;dsimp only at h;omega)];exact congrArg (fun x:Aa=>(x,(0:Int))) (an.symm.trans (by rw[←ao,a2];exact XdF ai (Zk aj))))
 rw[hr]at e
 simp only[Prod.mk.injEq,Aa.mk.injEq]at e
 obtain⟨⟨rfl,rfl,rfl,rfl,rfl,rfl⟩,rfl⟩:=e
 refine hQ _ _ ?_
 exact .m rfl (.agg (.d rfl (Dx aa By) (.d rfl (Dx ab Bx) (.d rfl (Dx ac Bz) (.d rfl (Dx ad B0) .d2)))) .d1)
theorem Xdh(An:Ae.map Bi=Bv)(Am:Al.map Ac=Bq)(Aq:Ak.map Ac=Bn)(As:Ag.map cS=Br)(hn:Ae.length≤1000000000)(he:Al.length≤1000000000)(ho:Ak.length≤1000000000)(hs:Ag.length<1000000000)(hss:okS Ag)(ar:Jw (⟨Ae,Al,Ak,Ag,At,Ap⟩:Aa))(hr:Ds (⟨Ae,Al,Ak,Ag,At,Ap⟩:Aa)=⟨onod,oent,oold,oste,oroo,onex⟩)(Xas:onod.map Bi=Sg)(Y4:oent.map Ac=Sy)(Y5:oold.map Ac=R8)(Wv:oste.map cS=Rq):Fn Tryz.prog 224 [.agg [.d (.row 3 Bv),.d (.row 2 Bq),.d (.row 2 Bn),.d (.row 1 Br),I At,I Ap]] [] ⟨.agg [.d (.row 3 Sg),.d (.row 2 Sy),.d (.row 2 R8),.d (.row 1 Rq),I oroo,I onex],[],[]⟩:=by
 refine Fn.go Hb Tryz.func224 fun P hP Q hQ=>?_
 conv=>cbv
 obtain⟨n2,au⟩:∃m,m=Ae.length:=⟨_,rfl⟩
 obtain⟨n3,aw⟩:∃m,m=Al.length:=⟨_,rfl⟩
 obtain⟨n4,ax⟩:∃m,m=Ak.length:=⟨_,rfl⟩
 obtain⟨n5,ay⟩:∃m,m=Ag.length:=⟨_,rfl⟩
 refine .ddN hP (Kh An Am Aq As (by omega) (by omega) (by omega) (by omega) au aw ax ay) rfl ?_
 conv=>cbv
 generalize ai:Bk (⟨Ae,Al,Ak,Ag,At,Ap⟩:Aa)=r6
 refine .lnt hP (Ol An Am Aq As ar ai) (.agg (.ref rfl (Af An) (.ref rfl (Af Am) (.ref rfl (Af Aq) (.ref rfl (Af As) (.d rfl (.d rfl .nil)))))) .nil) ?_
 cases r6
 conv=>cbv
 have e:(⟨Ae,Al,Ak,Ag,At,Ap⟩:Aa)=Ds (⟨Ae,Al,Ak,Ag,At,Ap⟩:Aa):=(by unfold Ds;rw[if_pos ai])
 rw[hr]at e
 simp only[Aa.mk.injEq]at e
 obtain⟨rfl,rfl,rfl,rfl,rfl,rfl⟩:=e
 exact hQ _ _ (.one (.inl rfl) rfl (.agg (.ref rfl (Af An) (C3 An Xas) (.ref rfl (Af Am) (C3 Am Y4) (.ref rfl (Af Aq) (C3 Aq Y5) (.ref rfl (Af As) (C3 As Wv) .d2)))) .nil))
 conv=>cbv
 refine .sub0 Am fun a0 z7 az al=>?_
 conv=>cbv
 rcases am:Fq (⟨Ae,Al,Al,[],At,Ap⟩:Aa)with⟨ae,af,ag,ah,aj,ak⟩
 generalize aa:ae.map Bi=an
 generalize ab:af.map Ac=ao
 generalize ac:ag.map Ac=ap
 generalize ad:ah.map cS=aq
 refine .lntD hP (O0 An Am al rfl (by omega) (by omega) (by simp) (fun _ h=>by cases h) am aa ab ac ad) (.agg (.ref rfl (Af An) (.ref rfl (Af Am) (.ref rfl (Af al) (.ref rfl rfl (.d rfl (.d rfl .nil)))))) .nil) ?_
 conv=>cbv
 have e:(⟨ae,af,ag,ah,aj,ak⟩:Aa)=Ds (⟨Ae,Al,Ak,Ag,At,Ap⟩:Aa):=(by unfold Ds;rw[if_neg (by rw[ai];decide)];dsimp only;rw[←am];exact X2 (d:=⟨Ae,Al,Al,[],At,Ap⟩) trivial)
 rw[hr]at e
 simp only[Aa.mk.injEq]at e
 obtain⟨rfl,rfl,rfl,rfl,rfl,rfl⟩:=e
 exact hQ _ _ (.one (.inl rfl) rfl (.agg (.d rfl (Dx aa Xas) (.d rfl (Dx ab Y4) (.d rfl (Dx ac Y5) (.d rfl (Dx ad Wv) .d2)))) .nil))
end
section
open Go Go.Proofs
def Xa7:List (Nat×TyRow):=[ty3,ty9,Xal,ty48,XgX]
theorem Xb9:B8 Tryz.prog Xa7:=B8.of (by kernel_rfl)
theorem Xav:Setup Tryz.prog Xa7:=⟨Xb9,mixed⟩
theorem Xe5{α:Type}{f:α→Int}(h0:∀x,0≤f x):∀{l:List α} {x:α},x∈l→∀a,a+f x≤(l.map f).foldl (·+·) a
 |[],_,h,_=>by cases h
 |y::l,x,h,a=>by
  rw[List.map_cons,List.foldl_cons]
  rcases List.mem_cons.1 h with rfl|h
  ·exact XcZ h0
  ·have h1:=Xe5 h0 h (a+f y)
   have:=h0 y
   omega
theorem XjQ{d:Aa}{n:Bg}(h:n∈d.nodes_):(n.text_.size:Int)≤Fy d:=by
 have:=Xe5 (f:=fun n:Bg=>(n.text_.size:Int)) (fun x=>by omega) h 0
 unfold Fy Xk9
 omega
theorem Xh8{d:Aa}{i:Int}{x:Bg}(h:Jw d)(hx:x.text_.size≤1000000000):Jw (Xkf d i x):=by
 obtain⟨⟨h1,h2,h3⟩,h4⟩:=h
 refine⟨⟨by show(d.nodes_.set _ _).length≤_;rw[List.length_set];exact h1,?_,h3⟩,h4⟩
 intro n hn
 rcases List.mem_or_eq_of_mem_set hn with hn|rfl
 ·exact h2 n hn
 ·exact hx
theorem XjT{d:Aa}{i:Int}(h0:0≤i)(h1:i<d.nodes_.length):gN d i∈d.nodes_:=by
 unfold gN
 have hk:i.toNat<d.nodes_.length:=by omega
 rw[←gD hk]
 exact List.getElem_mem hk
theorem Xam{d:Aa}{s:ByteArray}(h:Jw d)(he:d.entries_.length≤1000000)(hs:s.size≤1000000000)(hl:d.steps_.length<1000000000):Jw (Kj d s):=by
 obtain⟨⟨h1,h2,h3,h4,h5,h6⟩,h7,h8⟩:=h
 obtain⟨e,b,hy⟩:∃e b,Ah d.entries_ s=(e,b):=⟨_,_,rfl⟩
 have hlen:=Nm hy
 have hok:=Zz (l:=d.entries_) h4 hs hy
 unfold Kj
 rw[hy]
 refine⟨⟨?_,?_,by show e.length≤_;omega,hok,h5,by rw[List.length_append,List.length_singleton];omega⟩,h7,Qv h8 hs⟩
 ·exact Nat.le_trans (List.length_filter_le _ _) h1
 ·intro n hn
  exact h2 n (List.mem_filter.1 hn).1
def okG(d d':Aa):Prop:=Jw d'∧d'.steps_.length≤d.steps_.length+1
theorem H3{d:Aa}(h:Jw d):okG d d:=⟨h,Nat.le_succ _⟩
theorem Xs{d:Aa}(h:Bk d=true):d.entries_.length≤16:=Y6 (It h).2.2
section
variable {d:Aa} {name text a b:ByteArray}
theorem Xhr(h:Jw d)(hl:d.steps_.length<1000000000)(hm:name.size≤500000000):okG d (Bf d name).1:=by
 unfold Bf
 split
 ·exact H3 h
 ·rename_i hr
  have hr:=by simpa using hr
  split
  ·exact H3 h
  ·split
   ·exact H3 h
   ·split
    ·exact H3 h
    ·rename_i hc
     have hri:=Hu hr
     have hz:=Ss (rfl:Ci d.next_=_) (by unfold Xae;omega)
     refine⟨Xam ?_ (by show d.entries_.length≤_;omega) ?_ hl,by show(d.steps_++[_]).length≤_;rw[List.length_append];exact Nat.le_refl _⟩
     ·obtain⟨⟨h1,h2,h3⟩,h4⟩:=h
      refine⟨⟨by show(d.nodes_++[_]).length≤_;rw[List.length_append,List.length_singleton];omega,?_,h3⟩,h4⟩
      intro n hn
      rcases List.mem_append.1 hn with hn|hn
      ·exact h2 n hn
      ·rw[List.mem_singleton.1 hn]
       exact Nat.zero_le _
     ·simp only[ByteArray.size_append,B3,List.length_singleton]
      omega
theorem Xic(h:Jw d)(hl:d.steps_.length<1000000000)(hm:name.size≤500000000):okG d (Db d name).1:=by
 unfold Db
 split
 ·exact H3 h
 ·rename_i hr
  have hr:Bk d=true:=by
   cases hc:Bk d
   ·exact absurd (.inl hc) hr
   ·rfl
  refine⟨Xam h (by have:=Xs hr;omega) ?_ hl,by show(d.steps_++[_]).length≤_;rw[List.length_append];exact Nat.le_refl _⟩
  simp only[ByteArray.size_append,B3,List.length_singleton]
  omega
theorem XgQ(h:Jw d)(hl:d.steps_.length<1000000000)(ha:a.size≤400000000)(hb:b.size≤400000000):okG d (Bs d a b).1:=by
 unfold Bs
 split
 ·exact H3 h
 ·rename_i hr
  have hr:Bk d=true:=by
   cases hc:Bk d
   ·exact absurd (.inl hc) hr
   ·rfl
  split
  ·exact H3 h
  ·refine⟨Xam h (by have:=Xs hr;omega) ?_ hl,by show(d.steps_++[_]).length≤_;rw[List.length_append];exact Nat.le_refl _⟩
   simp only[ByteArray.size_append,B3,List.length_singleton]
   omega
theorem Xhk(h:Jw d):okG d (B6 d name text).1:=by
 unfold B6
 split
 ·exact H3 h
 ·rename_i hr
  have hk:0≤Cu d name:=Int.not_lt.1 fun k=>hr (.inr k)
  have hr:Bk d=true:=by
   cases hc:Bk d
   ·exact absurd (.inl hc) hr
   ·rfl
  have hri:=Hu hr
  have hu:=XjQ (XjT hk (Hr rfl).2)
  refine⟨Xh8 h ?_,Nat.le_succ _⟩
  show((gN d (Cu d name)).text_++text.extract 0 _).size≤_
  rw[ByteArray.size_append,ByteArray.size_extract]
  omega
theorem XkI(h:Jw d):okG d (Dk d name).1:=by
 unfold Dk
 split
 ·exact H3 h
 ·rename_i hr
  have hk:0≤Cu d name:=Int.not_lt.1 fun k=>hr (.inr k)
  refine⟨Xh8 (i:=Cu d name) h ?_,Nat.le_succ _⟩
  show(gN d (Cu d name)).text_.size≤_
  exact h.1.2.1 _ (XjT hk (Hr rfl).2)
theorem Xi0(h:Jw d):okG d (Ds d):=by
 unfold Ds
 split
 ·exact H3 h
 ·obtain⟨⟨h1,h2,h3,h4,h5,h6⟩,h7,h8⟩:=h
  refine⟨⟨⟨Nat.le_trans (List.length_filter_le _ _) h1,fun n hn=>h2 n (List.mem_filter.1 hn).1,h3,h4,h3,Nat.zero_le _⟩,h4,fun _ hs=>by cases hs⟩,Nat.zero_le _⟩
end
def C1(d:Aa)(x:TOp):Aa×Int:=if x.kind_=1 then Db d x.name_ else if x.kind_=2 then Bf d x.name_ else if x.kind_=3 then B6 d x.name_ x.text_ else if x.kind_=4 then Dk d x.name_ else if x.kind_=5 then Bs d x.name_ x.to_ else if x.kind_=6 then(Ds d,0)else(d,1)
def okO(x:TOp):Prop:=x.name_.size≤400000000∧x.to_.size≤400000000∧x.text_.size≤1000000000
theorem Z7{d:Aa}{x:TOp}(h:Jw d)(hl:d.steps_.length<1000000000)(hx:okO x):okG d (C1 d x).1:=by
 unfold okO at hx
 unfold C1
 split
 ·exact Xic h hl (by omega)
 ·split
  ·exact Xhr h hl (by omega)
  ·split
   ·exact Xhk h
   ·split
    ·exact XkI h
    ·split
     ·exact XgQ h hl (by omega) (by omega)
     ·split
      ·exact Xi0 h
      ·exact H3 h
def Nj:Aa→List TOp→Aa×Int
 |d,[]=>(d,0)
 |d,x::l=>if(C1 d x).2=0 then Nj (C1 d x).1 l else C1 d x
def Ep(d:Aa)(l:List TOp)(n:Int):Aa×Int:=Nj d (l.take (Dh n 0 l.length).toNat)
theorem XeD:∀{l:List TOp} {d:Aa},Jw d→d.steps_.length+l.length≤1000000000→(∀x∈l,okO x)→Jw (Nj d l).1∧(Nj d l).1.steps_.length≤d.steps_.length+l.length
 |[],d,h,_,_=>⟨h,Nat.le_refl _⟩
 |x::l,d,h,hl,hx=>by
  rw[List.length_cons]at hl
  have h1:=Z7 h (by omega) (hx x List.mem_cons_self)
  have h2:=h1.2
  unfold Nj
  split
  ·have h3:=XeD (l:=l) h1.1 (by omega) fun y hy=>hx y (List.mem_cons_of_mem _ hy)
   refine⟨h3.1,?_⟩
   rw[List.length_cons]
   omega
  ·refine⟨h1.1,?_⟩
   rw[List.length_cons]
   omega
theorem Yb{d:Aa}{l:List TOp}{k:Nat}{x:TOp}(hk:k<l.length)(hx:x=l[k]):Nj d (l.drop k)=if(C1 d x).2=0 then Nj (C1 d x).1 (l.drop (k+1))else C1 d x:=by
 rw[List.drop_eq_getElem_cons hk,←hx]
 rfl
variable {Ae Fd:List Bg} {Bv Bq Bn Br Cc Cb Ca B9:List (List D)} {Al Ak Fb Fc:List Ad} {Ag Fa:List ByteArray} {At Ap Gd Gf ob:Int}
theorem Xk5{xkin:Int}{xnam:ByteArray}{xto:ByteArray}{xtex:ByteArray}(An:Ae.map Bi=Bv)(Am:Al.map Ac=Bq)(Aq:Ak.map Ac=Bn)(As:Ag.map cS=Br)(aa:Jw (⟨Ae,Al,Ak,Ag,At,Ap⟩:Aa))(hs:Ag.length<1000000000)(hx:okO (⟨xkin,xnam,xto,xtex⟩:TOp))(hr:C1 (⟨Ae,Al,Ak,Ag,At,Ap⟩:Aa) (⟨xkin,xnam,xto,xtex⟩:TOp)=(⟨Fd,Fb,Fc,Fa,Gd,Gf⟩,ob))(By:Fd.map Bi=Cc)(Bx:Fb.map Ac=Cb)(Bz:Fc.map Ac=Ca)(B0:Fa.map cS=B9):Fn Tryz.prog 195 [.agg [.d (.row 3 Bv),.d (.row 2 Bq),.d (.row 2 Bn),.d (.row 1 Br),I At,I Ap],.agg [I xkin,S xnam,S xto,S xtex]] [] ⟨.tup [.agg [.d (.row 3 Cc),.d (.row 2 Cb),.d (.row 2 Ca),.d (.row 1 B9),I Gd,I Gf],I ob],[],[]⟩:=by
 refine Fn.go Xav Tryz.func195 fun P hP Q hQ=>?_
 conv=>cbv
 have dc:Ae.length≤1000000000:=aa.1.1
 have de:Al.length≤1000000000:=aa.1.2.2.1
 have df:Ak.length≤1000000000:=aa.1.2.2.2.2.1
 have hx3:xnam.size≤400000000∧xto.size≤400000000∧xtex.size≤1000000000:=hx
 refine .eql (fun h1=>?_) fun h1=>?_
 conv=>cbv
 rcases b7:Db (⟨Ae,Al,Ak,Ag,At,Ap⟩:Aa) xnam with⟨⟨ay,az,a0,a1,bq,bt⟩,c5⟩
 generalize ab:ay.map Bi=b8
 generalize ac:az.map Ac=b9
 generalize ad:a0.map Ac=ca
 generalize ae:a1.map cS=cb
 refine .dd hP (XbM An Am Aq As aa.1.1 aa.1.2.2.1 aa.1.2.2.2.2.1 hs aa.2.2 aa (by omega) b7 ab ac ad ae) ?_
 conv=>cbv
 have e:((⟨ay,az,a0,a1,bq,bt⟩:Aa),c5)=C1 (⟨Ae,Al,Ak,Ag,At,Ap⟩:Aa) (⟨xkin,xnam,xto,xtex⟩:TOp):=(by unfold C1;dsimp only;rw[if_pos h1];exact b7.symm)
 rw[hr]at e
 simp only[Prod.mk.injEq,Aa.mk.injEq]at e
 obtain⟨⟨rfl,rfl,rfl,rfl,rfl,rfl⟩,rfl⟩:=e
 refine hQ _ _ ?_
 exact .m rfl (.agg (.d rfl (Dx ab By) (.d rfl (Dx ac Bx) (.d rfl (Dx ad Bz) (.d rfl (Dx ae B0) .d2)))) .d1)
 conv=>cbv
 refine .eql (fun h2=>?_) fun h2=>?_
 conv=>cbv
 rcases cc:Bf (⟨Ae,Al,Ak,Ag,At,Ap⟩:Aa) xnam with⟨⟨a2,a3,a4,a5,bu,bv⟩,c6⟩
 generalize af:a2.map Bi=cd
 generalize ag:a3.map Ac=ce
 generalize ah:a4.map Ac=cf
 generalize ai:a5.map cS=cg
 refine .dd hP (XaY An Am Aq As aa.1.1 aa.1.2.2.1 aa.1.2.2.2.2.1 hs aa.2.2 aa (by omega) cc af ag ah ai) ?_
 conv=>cbv
 have e:((⟨a2,a3,a4,a5,bu,bv⟩:Aa),c6)=C1 (⟨Ae,Al,Ak,Ag,At,Ap⟩:Aa) (⟨xkin,xnam,xto,xtex⟩:TOp):=(by unfold C1;dsimp only;rw[if_neg h1,if_pos h2];exact cc.symm)
 rw[hr]at e
 simp only[Prod.mk.injEq,Aa.mk.injEq]at e
 obtain⟨⟨rfl,rfl,rfl,rfl,rfl,rfl⟩,rfl⟩:=e
 refine hQ _ _ ?_
 exact .m rfl (.agg (.d rfl (Dx af By) (.d rfl (Dx ag Bx) (.d rfl (Dx ah Bz) (.d rfl (Dx ai B0) .d2)))) .d1)
 conv=>cbv
 refine .eql (fun h3=>?_) fun h3=>?_
 conv=>cbv
 rcases ch:B6 (⟨Ae,Al,Ak,Ag,At,Ap⟩:Aa) xnam xtex with⟨⟨a6,a7,a8,a9,bw,bz⟩,c7⟩
 generalize aj:a6.map Bi=ci
 generalize ak:a7.map Ac=cj
 generalize al:a8.map Ac=ck
 generalize am:a9.map cS=cm
 refine .dd hP (XaM An Am Aq As aa.1.1 aa.1.2.2.1 aa.1.2.2.2.2.1 hs aa.2.2 aa (by omega) ch aj ak al am) ?_
 conv=>cbv
 have e:((⟨a6,a7,a8,a9,bw,bz⟩:Aa),c7)=C1 (⟨Ae,Al,Ak,Ag,At,Ap⟩:Aa) (⟨xkin,xnam,xto,xtex⟩:TOp):=(by unfold C1;dsimp only;rw[if_neg h1,if_neg h2,if_pos h3];exact ch.symm)
 rw[hr]at e
 simp only[Prod.mk.injEq,Aa.mk.injEq]at e
 obtain⟨⟨rfl,rfl,rfl,rfl,rfl,rfl⟩,rfl⟩:=e
 refine hQ _ _ ?_
 exact .m rfl (.agg (.d rfl (Dx aj By) (.d rfl (Dx ak Bx) (.d rfl (Dx al Bz) (.d rfl (Dx am B0) .d2)))) .d1)
 conv=>cbv
 refine .eql (fun h4=>?_) fun h4=>?_
 conv=>cbv
 rcases cn:Dk (⟨Ae,Al,Ak,Ag,At,Ap⟩:Aa) xnam with⟨⟨ba,bb,bc,bd,b0,b2⟩,c8⟩
 generalize an:ba.map Bi=co
 generalize ao:bb.map Ac=cp
 generalize ap:bc.map Ac=cq
 generalize aq:bd.map cS=cr
 refine .dd hP (Xfx An Am Aq As aa.1.1 aa.1.2.2.1 aa.1.2.2.2.2.1 hs aa.2.2 aa cn an ao ap aq) ?_
 conv=>cbv
 have e:((⟨ba,bb,bc,bd,b0,b2⟩:Aa),c8)=C1 (⟨Ae,Al,Ak,Ag,At,Ap⟩:Aa) (⟨xkin,xnam,xto,xtex⟩:TOp):=(by unfold C1;dsimp only;rw[if_neg h1,if_neg h2,if_neg h3,if_pos h4];exact cn.symm)
 rw[hr]at e
 simp only[Prod.mk.injEq,Aa.mk.injEq]at e
 obtain⟨⟨rfl,rfl,rfl,rfl,rfl,rfl⟩,rfl⟩:=e
 refine hQ _ _ ?_
 exact .m rfl (.agg (.d rfl (Dx an By) (.d rfl (Dx ao Bx) (.d rfl (Dx ap Bz) (.d rfl (Dx aq B0) .d2)))) .d1)
 conv=>cbv
 refine .eql (fun h5=>?_) fun h5=>?_
 conv=>cbv
 rcases ct:Bs (⟨Ae,Al,Ak,Ag,At,Ap⟩:Aa) xnam xto with⟨⟨be,bf,bg,bh,b3,b4⟩,c9⟩
 generalize ar:be.map Bi=cu
 generalize au:bf.map Ac=cv
 generalize aw:bg.map Ac=cw
 generalize ax:bh.map cS=cx
 refine .dd hP (XaX An Am Aq As aa.1.1 aa.1.2.2.1 aa.1.2.2.2.2.1 hs aa.2.2 aa (by omega) ct ar au aw ax) ?_
 conv=>cbv
 have e:((⟨be,bf,bg,bh,b3,b4⟩:Aa),c9)=C1 (⟨Ae,Al,Ak,Ag,At,Ap⟩:Aa) (⟨xkin,xnam,xto,xtex⟩:TOp):=(by unfold C1;dsimp only;rw[if_neg h1,if_neg h2,if_neg h3,if_neg h4,if_pos h5];exact ct.symm)
 rw[hr]at e
 simp only[Prod.mk.injEq,Aa.mk.injEq]at e
 obtain⟨⟨rfl,rfl,rfl,rfl,rfl,rfl⟩,rfl⟩:=e
 refine hQ _ _ ?_
 exact .m rfl (.agg (.d rfl (Dx ar By) (.d rfl (Dx au Bx) (.d rfl (Dx aw Bz) (.d rfl (Dx ax B0) .d2)))) .d1)
 conv=>cbv
 refine .eql (fun h6=>?_) fun h6=>?_
 conv=>cbv
 rcases cy:Ds (⟨Ae,Al,Ak,Ag,At,Ap⟩:Aa)with⟨bm,bn,bo,bp,b5,b6⟩
 generalize bi:bm.map Bi=c1
 generalize bj:bn.map Ac=c2
 generalize bk:bo.map Ac=c3
 generalize bl:bp.map cS=c4
 refine .dd hP (Xdh An Am Aq As aa.1.1 aa.1.2.2.1 aa.1.2.2.2.2.1 hs aa.2.2 aa cy bi bj bk bl) ?_
 conv=>cbv
 have e:((⟨bm,bn,bo,bp,b5,b6⟩:Aa),0)=C1 (⟨Ae,Al,Ak,Ag,At,Ap⟩:Aa) (⟨xkin,xnam,xto,xtex⟩:TOp):=(by unfold C1;dsimp only;rw[if_neg h1,if_neg h2,if_neg h3,if_neg h4,if_neg h5,if_pos h6];rw[cy])
 rw[hr]at e
 simp only[Prod.mk.injEq,Aa.mk.injEq]at e
 obtain⟨⟨rfl,rfl,rfl,rfl,rfl,rfl⟩,rfl⟩:=e
 refine hQ _ _ ?_
 exact .m rfl (.agg (.d rfl (Dx bi By) (.d rfl (Dx bj Bx) (.d rfl (Dx bk Bz) (.d rfl (Dx bl B0) .d2)))) .d1)
 conv=>cbv
 obtain⟨n8,da⟩:∃m,m=Ae.length:=⟨_,rfl⟩
 obtain⟨n9,db⟩:∃m,m=Al.length:=⟨_,rfl⟩
 obtain⟨dg,cz⟩:∃m,m=Ak.length:=⟨_,rfl⟩
 obtain⟨dh,c0⟩:∃m,m=Ag.length:=⟨_,rfl⟩
 refine .ddN hP (Kh An Am Aq As (by omega) (by omega) (by omega) (by omega) da db cz c0) rfl ?_
 conv=>cbv
 have e:((⟨Ae,Al,Ak,Ag,At,Ap⟩:Aa),1)=C1 (⟨Ae,Al,Ak,Ag,At,Ap⟩:Aa) (⟨xkin,xnam,xto,xtex⟩:TOp):=(by unfold C1;dsimp only;rw[if_neg h1,if_neg h2,if_neg h3,if_neg h4,if_neg h5,if_neg h6])
 rw[hr]at e
 simp only[Prod.mk.injEq,Aa.mk.injEq]at e
 obtain⟨⟨rfl,rfl,rfl,rfl,rfl,rfl⟩,rfl⟩:=e
 refine hQ _ _ ?_
 exact .m rfl (.agg (.ref rfl (Af An) (C3 An By) (.ref rfl (Af Am) (C3 Am Bx) (.ref rfl (Af Aq) (C3 Aq Bz) (.ref rfl (Af As) (C3 As B0) .d2)))) .d1)
theorem XiX{list:List TOp}{xlist:List (List D)}{n:Int}(An:Ae.map Bi=Bv)(Am:Al.map Ac=Bq)(Aq:Ak.map Ac=Bn)(As:Ag.map cS=Br)(hlist:list.map eOp=xlist)(a5:Jw (⟨Ae,Al,Ak,Ag,At,Ap⟩:Aa))(hs:Ag.length+list.length≤900000000)(hl:∀x∈list,okO x)(hr:Ep (⟨Ae,Al,Ak,Ag,At,Ap⟩:Aa) list n=(⟨Fd,Fb,Fc,Fa,Gd,Gf⟩,ob))(By:Fd.map Bi=Cc)(Bx:Fb.map Ac=Cb)(Bz:Fc.map Ac=Ca)(B0:Fa.map cS=B9):Fn Tryz.prog 115 [.agg [.d (.row 3 Bv),.d (.row 2 Bq),.d (.row 2 Bn),.d (.row 1 Br),I At,I Ap],.d (.row 4 xlist),I n] [] ⟨.tup [.agg [.d (.row 3 Cc),.d (.row 2 Cb),.d (.row 2 Ca),.d (.row 1 B9),I Gd,I Gf],I ob],[],[]⟩:=by
 refine Fn.go Xav Tryz.func115 fun P hP Q hQ=>?_
 conv=>cbv
 have bi:Ae.length≤1000000000:=a5.1.1
 have ba:Al.length≤1000000000:=a5.1.2.2.1
 have bj:Ak.length≤1000000000:=a5.1.2.2.2.2.1
 refine .dd hP (Xj An Am Aq As (by omega) (by omega) (by omega) (by omega)) ?_
 conv=>cbv
 refine .go hlist fun v2 bf=>?_
 conv=>cbv
 generalize bb:Dh n 0 v2=r3
 refine .dd hP (Xax bb) ?_
 conv=>cbv
 have hbr:0≤r3∧r3≤list.length:=by rw[←bb];unfold Dh;split<;>(try split)<;>(try split)<;>omega
 refine LoopW.lp (κ:=Int×(List (List D))×(List (List D))×(List (List D))×(List (List D))×Int×Int) Xav hP [] [1,2,3,6] (fun(i8,ah,ai,aj,ak,aa,ab)=>[(8,I i8)]) (fun(i8,ah,ai,aj,ak,aa,ab)=>[(0,.box 28 [.d (.row 3 ah),.d (.row 2 ai),.d (.row 2 aj),.d (.row 1 ak),I aa,I ab])])
  (fun(i8,ah,ai,aj,ak,aa,ab)=>∃(al:List Bg) (am:List Ad) (an:List Ad) (ag:List ByteArray),al.map Bi=ah∧am.map Ac=ai∧an.map Ac=aj∧ag.map cS=ak∧0≤i8∧i8≤r3∧Jw (⟨al,am,an,ag,aa,ab⟩:Aa)∧ag.length≤Ag.length+i8∧Ep (⟨Ae,Al,Ak,Ag,At,Ap⟩:Aa) list n=Nj (⟨al,am,an,ag,aa,ab⟩:Aa) ((list.take r3.toNat).drop i8.toNat))
  (fun(i8,ah,ai,aj,ak,aa,ab)=>(r3 - i8).toNat) (0,Bv,Bq,Bn,Br,At,Ap) ⟨Ae,Al,Ak,Ag,An,Am,Aq,As,by omega,by omega,a5,by omega,by unfold Ep;rw[←bf,bb];rfl⟩ ⟨rfl,trivial⟩ rfl ?_
 rintro⟨i8,ah,ai,aj,ak,aa,ab⟩ J ⟨al,am,an,ag,a6,a7,a8,a9,h0,h1,ba,hqs,hio⟩ hJ
 have htl:(list.take r3.toNat).length≤list.length:=by rw[List.length_take];omega
 conv=>cbv
 refine .lss (fun h4=>?_) fun h4=>?_
 conv=>cbv
 refine .go i8.toNat hlist fun bc ⟨ao,ap,a0,aq⟩ bd=>?_
 conv=>cbv
 have hox:okO (⟨ao,ap,a0,aq⟩:TOp):=by rw[bd];exact hl _ (List.getElem_mem bc)
 rcases be:C1 (⟨al,am,an,ag,aa,ab⟩:Aa) (⟨ao,ap,a0,aq⟩:TOp)with⟨⟨ar,au,aw,ax,ay,az⟩,bg⟩
 generalize ac:ar.map Bi=a1
 generalize ad:au.map Ac=a2
 generalize ae:aw.map Ac=a3
 generalize af:ax.map cS=a4
 refine .dd hP (Xk5 a6 a7 a8 a9 ba (by omega) hox be ac ad ae af) ?_
 conv=>cbv
 have hg:=Z7 (d:=(⟨al,am,an,ag,aa,ab⟩:Aa)) ba (by show ag.length<_;omega) hox
 have hstep:=Yb (d:=(⟨al,am,an,ag,aa,ab⟩:Aa)) (x:=(⟨ao,ap,a0,aq⟩:TOp)) (show i8.toNat<(list.take r3.toNat).length by rw[List.length_take];omega) (by rw[List.getElem_take];exact bd)
 rw[be]at hg hstep
 have bh:=hg.2
 simp only[]at bh
 refine .neq (fun h7=>?_) fun h7=>?_
 conv=>cbv
 have e:((⟨ar,au,aw,ax,ay,az⟩:Aa),bg)=Ep (⟨Ae,Al,Ak,Ag,At,Ap⟩:Aa) list n:=(by rw[hio,hstep];symm;exact if_neg (by omega))
 rw[hr]at e
 simp only[Prod.mk.injEq,Aa.mk.injEq]at e
 obtain⟨⟨rfl,rfl,rfl,rfl,rfl,rfl⟩,rfl⟩:=e
 refine hQ _ _ ?_
 exact .m rfl (.agg (.d rfl (Dx ac By) (.d rfl (Dx ad Bx) (.d rfl (Dx ae Bz) (.d rfl (Dx af B0) .d2)))) .d1)
 conv=>cbv
 refine .add fun v8 bk=>?_
 conv=>cbv
 exact .go [] (v8,a1,a2,a3,a4,ay,az) (hJ _ ⟨_,_,_,_,ac,ad,ae,af,by omega,by omega,hg.1,by omega,by rw[hio,hstep,show v8.toNat=i8.toNat+1 by omega];exact if_pos (by omega)⟩ mlt)
 conv=>cbv
 have e:((⟨al,am,an,ag,aa,ab⟩:Aa),0)=Ep (⟨Ae,Al,Ak,Ag,At,Ap⟩:Aa) list n:=(by rw[hio,List.drop_of_length_le (by rw[List.length_take];omega)];rfl)
 rw[hr]at e
 simp only[Prod.mk.injEq,Aa.mk.injEq]at e
 obtain⟨⟨rfl,rfl,rfl,rfl,rfl,rfl⟩,rfl⟩:=e
 refine hQ _ _ ?_
 exact .m rfl (.agg (.d rfl (Dx a6 By) (.d rfl (Dx a7 Bx) (.d rfl (Dx a8 Bz) (.d rfl (Dx a9 B0) .d2)))) .d1)
theorem tx00:(tx []).size=0:=by simp[B3]
theorem Xdv(b:Int){t:ByteArray}(h:t.size≤200000):∀x∈Cx b t,okO x:=by
 have h1:(A0 b).size≤13:=Iw rfl
 have h2:(Co b).size≤17:=Xc1 rfl
 intro x hx
 unfold Cx at hx
 simp only[List.mem_cons,List.not_mem_nil,or_false]at hx
 unfold okO
 rcases hx with rfl|rfl|rfl|rfl|rfl<;>(simp only[tx00];omega)
end
section
open Go Go.Proofs
end
section
open Go Go.Proofs
end
section
open Go Go.Proofs
def Xgn:List (Nat×TyRow):=[ty3,ty5,ty9,Xgt,XdN,Xcu,Xal,XiA,W0,Zp]
theorem Xft:B8 Tryz.prog Xgn:=B8.of (by kernel_rfl)
theorem XjU:Setup Tryz.prog Xgn:=⟨Xft,mixed⟩
theorem Pw{l:List Ad}{xl:List (List D)}{step:ByteArray}{oa:List Ad}{xoa:List (List D)}{ob:Bool}{noa:Nat}(hl:l.map Ac=xl)(hn:l.length≤4000000000)(hs:step.size≤1000000000)(hr:Ah l step=(oa,ob))(hoa:oa.map Ac=xoa)(hnoa:noa=oa.length):Fn Tryz.prog 272 [.d (.row 2 xl),S step] [] ⟨.tup [.ref 0 0 noa,B ob],[.row 2 false xoa],[]⟩:=by
 refine Fn.goR XjU Tryz.func272 fun P hP Q hQ=>?_
 conv=>cbv
 refine .eql (fun h1=>?_) fun h1=>?_
 conv=>cbv
 have e:([],false)=Ah l step:=(by exact(Zx h1).symm)
 rw[hr]at e
 simp only[Prod.mk.injEq]at e
 obtain⟨rfl,rfl⟩:=e
 obtain rfl:[]=xoa:=by first|(rw[←hoa];done)|(rw[←hoa];rfl)
 obtain rfl:0=noa:=by first|omega|(rw[hnoa];simp;done)|(rw[hnoa];simp;omega)
 exact hQ _ _ (.o [1] rfl)
 conv=>cbv
 have hps:=Z9 h1
 refine .lo fun s2 aw=>?_
 conv=>cbv
 have ba:s2.size≤step.size:=by rw[aw,ByteArray.size_extract];omega
 rcases aj:J9 s2 with⟨ae,ak,ao⟩
 have hcb:=Xfa aj
 have hcu:J9 (step.extract 1 step.size)=(ae,ak,ao):=by rw[aw]at aj;exact aj
 refine .dd hP (Q7 (by omega) aj) ?_
 conv=>cbv
 generalize ax:Gh l=l4
 have aa:l4=l:=ax.symm
 have a9:l4.length=l.length:=by rw[aa]
 generalize af:l4.map Ac=bb
 obtain⟨nl4,hnl4⟩:∃m,m=l4.length:=⟨_,rfl⟩
 refine .ddA hP (Dq hl (by omega) ax af hnl4) rfl rfl rfl (af▸Hc (fun _=>rfl) l4) ?_
 conv=>cbv
 refine .go 0 fun hjv5 v5 ad bv5=>?_
 conv=>cbv
 refine .eql (fun h6=>?_) fun h6=>?_
 conv=>cbv
 have hh:step.data.toList.head?=some 43:=(Ha hps).trans (congrArg some (XcS (n:=43) ad (by omega) (by decide)))
 rcases ap:Bh ak with⟨a3,a4⟩
 refine .dd hP (Q5 (by omega) ap) ?_
 conv=>cbv
 cases ao
 conv=>cbv
 have e:([],false)=Ah l step:=(by rw[G9 h1 hh hcu,if_pos (.inl rfl)])
 rw[hr]at e
 simp only[Prod.mk.injEq]at e
 obtain⟨rfl,rfl⟩:=e
 obtain rfl:[]=xoa:=by first|(rw[←hoa];done)|(rw[←hoa];rfl)
 obtain rfl:0=noa:=by first|omega|(rw[hnoa];simp;done)|(rw[hnoa];simp;omega)
 exact hQ _ _ (.o [2] rfl)
 conv=>cbv
 cases a4
 conv=>cbv
 have e:([],false)=Ah l step:=(by rw[G9 h1 hh hcu,ap,if_pos (.inr (.inl rfl))])
 rw[hr]at e
 simp only[Prod.mk.injEq]at e
 obtain⟨rfl,rfl⟩:=e
 obtain rfl:[]=xoa:=by first|(rw[←hoa];done)|(rw[←hoa];rfl)
 obtain rfl:0=noa:=by first|omega|(rw[hnoa];simp;done)|(rw[hnoa];simp;omega)
 exact hQ _ _ (.o [2] rfl)
 conv=>cbv
 generalize aq:Bj ae=r8
 refine .dd hP (Jr (by omega) aq) ?_
 cases r8
 conv=>cbv
 have e:([],false)=Ah l step:=(by rw[G9 h1 hh hcu,if_pos (.inr (.inr aq))])
 rw[hr]at e
 simp only[Prod.mk.injEq]at e
 obtain⟨rfl,rfl⟩:=e
 obtain rfl:[]=xoa:=by first|(rw[←hoa];done)|(rw[←hoa];rfl)
 obtain rfl:0=noa:=by first|omega|(rw[hnoa];simp;done)|(rw[hnoa];simp;omega)
 exact hQ _ _ (.o [2] rfl)
 conv=>cbv
 generalize ab:Qp l4 ae a3=l9
 generalize ay:l9.map Ac=a5
 obtain⟨nl9,hnl9⟩:∃m,m=l9.length:=⟨_,rfl⟩
 refine .bx [1] [] hP (XjD af (by first|rfl|omega|(simp;omega)) (by omega) ab ay hnl9) rfl rfl rfl rfl ?_
 conv=>cbv
 have e:(l9,true)=Ah l step:=(by rw[G9 h1 hh hcu,ap,if_neg (by rw[aq];simp),←ab,aa])
 rw[hr]at e
 simp only[Prod.mk.injEq]at e
 obtain⟨rfl,rfl⟩:=e
 obtain rfl:a5=xoa:=by rw[←ay,←hoa]
 obtain rfl:nl9=noa:=by first|omega|(rw[hnoa];simp;done)|(rw[hnoa];simp;omega)
 exact hQ _ _ (.o [2] rfl)
 conv=>cbv
 refine .eql (fun h7=>?_) fun h7=>?_
 conv=>cbv
 have hh:step.data.toList.head?=some 45:=(Ha hps).trans (congrArg some (XcS (n:=45) ad (by omega) (by decide)))
 refine .lo fun s8 az=>?_
 conv=>cbv
 have bc:s8.size≤step.size:=by rw[az,ByteArray.size_extract];omega
 rcases ab:Gm l4 s8 with⟨ar,a6⟩
 generalize al:ar.map Ac=a0
 obtain⟨nr9a,hnr9a⟩:∃m,m=ar.length:=⟨_,rfl⟩
 refine .bx [1] [] hP (Xe0 af (by first|rfl|omega|(simp;omega)) (by omega) (by omega) ab al hnr9a) rfl rfl rfl rfl ?_
 conv=>cbv
 have e:(ar,a6)=Ah l step:=(by rw[Og h1 hh];rw[az,aa]at ab;exact ab.symm)
 rw[hr]at e
 simp only[Prod.mk.injEq]at e
 obtain⟨rfl,rfl⟩:=e
 obtain rfl:a0=xoa:=by rw[←al,←hoa]
 obtain rfl:nr9a=noa:=by first|omega|(rw[hnoa];simp;done)|(rw[hnoa];simp;omega)
 exact hQ _ _ (.o [2] rfl)
 conv=>cbv
 refine .eql (fun h8=>?_) fun h8=>?_
 conv=>cbv
 have hh:step.data.toList.head?=some 62:=(Ha hps).trans (congrArg some (XcS (n:=62) ad (by omega) (by decide)))
 generalize ab:Cs l ae=r9
 refine .dd hP (Xa9 hl (by omega) ab) ?_
 conv=>cbv
 rcases ac:Gm l4 ae with⟨ag,a1⟩
 have hdl:=Rk ac
 generalize ah:ag.map Ac=a7
 obtain⟨nr10a,hnr10a⟩:∃m,m=ag.length:=⟨_,rfl⟩
 refine .bx [1] [] hP (Xe0 af (by first|rfl|omega|(simp;omega)) (by omega) (by omega) ac ah hnr10a) rfl rfl rfl rfl ?_
 conv=>cbv
 cases ao
 conv=>cbv
 have e:([],false)=Ah l step:=(by rw[F8 h1 hh hcu,if_pos (.inl rfl)])
 rw[hr]at e
 simp only[Prod.mk.injEq]at e
 obtain⟨rfl,rfl⟩:=e
 obtain rfl:[]=xoa:=by first|(rw[←hoa];done)|(rw[←hoa];rfl)
 obtain rfl:0=noa:=by first|omega|(rw[hnoa];simp;done)|(rw[hnoa];simp;omega)
 exact hQ _ _ (.o [3] rfl)
 conv=>cbv
 cases a1
 conv=>cbv
 have e:([],false)=Ah l step:=(by rw[F8 h1 hh hcu,←aa,ac,if_pos (.inr (.inl rfl))])
 rw[hr]at e
 simp only[Prod.mk.injEq]at e
 obtain⟨rfl,rfl⟩:=e
 obtain rfl:[]=xoa:=by first|(rw[←hoa];done)|(rw[←hoa];rfl)
 obtain rfl:0=noa:=by first|omega|(rw[hnoa];simp;done)|(rw[hnoa];simp;omega)
 exact hQ _ _ (.o [3] rfl)
 conv=>cbv
 generalize ai:Bj ak=a8
 refine .dd hP (Jr (by omega) ai) ?_
 cases a8
 conv=>cbv
 have e:([],false)=Ah l step:=(by rw[F8 h1 hh hcu,if_pos (.inr (.inr (.inl ai)))])
 rw[hr]at e
 simp only[Prod.mk.injEq]at e
 obtain⟨rfl,rfl⟩:=e
 obtain rfl:[]=xoa:=by first|(rw[←hoa];done)|(rw[←hoa];rfl)
 obtain rfl:0=noa:=by first|omega|(rw[hnoa];simp;done)|(rw[hnoa];simp;omega)
 exact hQ _ _ (.o [3] rfl)
 conv=>cbv
 refine .eql (fun h12=>?_) fun h12=>?_
 conv=>cbv
 have e:([],false)=Ah l step:=(by rw[F8 h1 hh hcu,if_pos (.inr (.inr (.inr h12)))])
 rw[hr]at e
 simp only[Prod.mk.injEq]at e
 obtain⟨rfl,rfl⟩:=e
 obtain rfl:[]=xoa:=by first|(rw[←hoa];done)|(rw[←hoa];rfl)
 obtain rfl:0=noa:=by first|omega|(rw[hnoa];simp;done)|(rw[hnoa];simp;omega)
 exact hQ _ _ (.o [3] rfl)
 conv=>cbv
 generalize am:Qp ag ak r9=au
 generalize an:au.map Ac=a2
 obtain⟨nl13,hnl13⟩:∃m,m=au.length:=⟨_,rfl⟩
 refine .bx [2] [] hP (XjD ah (by first|rfl|omega|(simp;omega)) (by omega) am an hnl13) rfl rfl rfl rfl ?_
 conv=>cbv
 have e:(au,true)=Ah l step:=(by rw[F8 h1 hh hcu,if_neg (by rw[←aa,ac,ai];simp;exact h12),ab,←am,←aa,ac])
 rw[hr]at e
 simp only[Prod.mk.injEq]at e
 obtain⟨rfl,rfl⟩:=e
 obtain rfl:a2=xoa:=by rw[←an,←hoa]
 obtain rfl:nl13=noa:=by first|omega|(rw[hnoa];simp;done)|(rw[hnoa];simp;omega)
 exact hQ _ _ (.o [3] rfl)
 conv=>cbv
 have e:([],false)=Ah l step:=(by rw[Vu h1 (Ha hps) (Xdw (n:=43) ad h6 (by decide)) (Xdw (n:=45) ad h7 (by decide)) (Xdw (n:=62) ad h8 (by decide))])
 rw[hr]at e
 simp only[Prod.mk.injEq]at e
 obtain⟨rfl,rfl⟩:=e
 obtain rfl:[]=xoa:=by first|(rw[←hoa];done)|(rw[←hoa];rfl)
 obtain rfl:0=noa:=by first|omega|(rw[hnoa];simp;done)|(rw[hnoa];simp;omega)
 exact hQ _ _ (.o [2] rfl)
def Ug(d:Aa):Aa:=d
theorem Fz{Ae:List Bg}{Bv:List (List D)}{Al:List Ad}{Bq:List (List D)}{Ak:List Ad}{Bn:List (List D)}{Ag:List ByteArray}{Br:List (List D)}{At:Int}{Ap:Int}{onod:List Bg}{Sg:List (List D)}{oent:List Ad}{Sy:List (List D)}{oold:List Ad}{R8:List (List D)}{oste:List ByteArray}{Rq:List (List D)}{oroo:Int}{onex:Int}{nonod:Nat}{noent:Nat}{noold:Nat}{noste:Nat}(An:Ae.map Bi=Bv)(Am:Al.map Ac=Bq)(Aq:Ak.map Ac=Bn)(As:Ag.map cS=Br)(hn:Ae.length≤4000000000)(he:Al.length≤4000000000)(ho:Ak.length≤4000000000)(hs:Ag.length≤4000000000)(hr:Ug (⟨Ae,Al,Ak,Ag,At,Ap⟩:Aa)=⟨onod,oent,oold,oste,oroo,onex⟩)(Xas:onod.map Bi=Sg)(Y4:oent.map Ac=Sy)(Y5:oold.map Ac=R8)(Wv:oste.map cS=Rq)(hnonod:nonod=onod.length)(hnoent:noent=oent.length)(hnoold:noold=oold.length)(hnoste:noste=oste.length):Fn Tryz.prog 119 [.agg [.d (.row 3 Bv),.d (.row 2 Bq),.d (.row 2 Bn),.d (.row 1 Br),I At,I Ap]] [] ⟨.agg [.ref 0 0 nonod,.ref 1 0 noent,.ref 2 0 noold,.ref 3 0 noste,I oroo,I onex],[.row 3 false Sg,.row 2 false Sy,.row 2 false R8,.row 1 false Rq],[]⟩:=by
 refine Fn.goR XjU Tryz.func119 fun P hP Q hQ=>?_
 conv=>cbv
 generalize ae:Gh Ae=l1
 generalize aa:l1.map Bi=ai
 obtain⟨nl1,hnl1⟩:∃m,m=l1.length:=⟨_,rfl⟩
 refine .ddA hP (Ll An (by omega) ae aa hnl1) rfl rfl rfl (aa▸Hc (fun _=>rfl) l1) ?_
 conv=>cbv
 generalize af:Gh Al=l2
 generalize ab:l2.map Ac=aj
 obtain⟨nl2,hnl2⟩:∃m,m=l2.length:=⟨_,rfl⟩
 refine .ddA hP (Dq Am (by omega) af ab hnl2) rfl rfl rfl (ab▸Hc (fun _=>rfl) l2) ?_
 conv=>cbv
 generalize ag:Gh Ak=l3
 generalize ac:l3.map Ac=ak
 obtain⟨nl3,hnl3⟩:∃m,m=l3.length:=⟨_,rfl⟩
 refine .ddA hP (Dq Aq (by omega) ag ac hnl3) rfl rfl rfl (ac▸Hc (fun _=>rfl) l3) ?_
 conv=>cbv
 generalize ah:Gh Ag=l4
 generalize ad:l4.map cS=al
 obtain⟨nl4,hnl4⟩:∃m,m=l4.length:=⟨_,rfl⟩
 refine .ddA hP (Jc As (by omega) ah ad hnl4) rfl rfl rfl (ad▸Hc (fun _=>rfl) l4) ?_
 conv=>cbv
 have e:(⟨l1,l2,l3,l4,At,Ap⟩:Aa)=Ug (⟨Ae,Al,Ak,Ag,At,Ap⟩:Aa):=(by unfold Ug;rw[←ae,←af,←ag,←ah];rfl)
 rw[hr]at e
 simp only[Aa.mk.injEq]at e
 obtain⟨rfl,rfl,rfl,rfl,rfl,rfl⟩:=e
 obtain rfl:ai=Sg:=by rw[←aa,←Xas]
 obtain rfl:nl1=nonod:=by first|omega|(rw[hnonod];simp;done)|(rw[hnonod];simp;omega)
 obtain rfl:aj=Sy:=by rw[←ab,←Y4]
 obtain rfl:nl2=noent:=by first|omega|(rw[hnoent];simp;done)|(rw[hnoent];simp;omega)
 obtain rfl:ak=R8:=by rw[←ac,←Y5]
 obtain rfl:nl3=noold:=by first|omega|(rw[hnoold];simp;done)|(rw[hnoold];simp;omega)
 obtain rfl:al=Rq:=by rw[←ad,←Wv]
 obtain rfl:nl4=noste:=by first|omega|(rw[hnoste];simp;done)|(rw[hnoste];simp;omega)
 exact hQ _ _ (.o [6,7,8,9] rfl)
end
section
open Go Go.Proofs
def Xhb:List (Nat×TyRow):=[ty3,ty9,Xgt,XdN,Xcu,Xal,Zp,XlU]
theorem XfN:B8 Tryz.prog Xhb:=B8.of (by kernel_rfl)
theorem Xd0:Setup Tryz.prog Xhb:=⟨XfN,mixed⟩
theorem Xii{l:List Ad}{ss:List ByteArray}{e:ByteArray}{id:Int}(h:0<ss.length)(he:e=ss[0]):K3 l ss id=((l.any fun e=>decide (e.id_=id))||K3 (Ah l e).1 (ss.drop 1) id):=by
 cases ss with
 |nil=>exact absurd h (Nat.lt_irrefl 0)
 |cons s ss=>subst he;rfl
theorem Qg{Ae:List Bg}{Bv:List (List D)}{Al:List Ad}{Bq:List (List D)}{Ak:List Ad}{Bn:List (List D)}{Ag:List ByteArray}{Br:List (List D)}{At:Int}{Ap:Int}{ndnod:Nat}{ndent:Nat}{ndold:Nat}{ndste:Nat}{o:List Bg}{no:Nat}{xf:List (List D)}(An:Ae.map Bi=Bv)(Am:Al.map Ac=Bq)(Aq:Ak.map Ac=Bn)(As:Ag.map cS=Br)(hndnod:ndnod=Ae.length)(hndent:ndent=Al.length)(hndold:ndold=Ak.length)(hndste:ndste=Ag.length)(hn:Ae.length<2^40)(hol:Ak.length≤1000000000)(hsl:Ag.length≤1000000000)(hss:okS Ag)(hr:Ka Ae Ak Ag=o)(hno:no=o.length)(hf:(o++List.replicate (Ae.length - o.length) (⟨0,tx [],0⟩:Bg)).map Bi=xf):Fn Tryz.prog 303 [.ptr 0 0 0] [.box 28 [.ref 1 0 ndnod,.ref 2 0 ndent,.ref 3 0 ndold,.ref 4 0 ndste,I At,I Ap],.row 3 false Bv,.row 2 false Bq,.row 2 false Bn,.row 1 false Br] ⟨.tup [],[],[(0,.box 28 [.ref 1 0 no,.ref 2 0 ndent,.ref 3 0 ndold,.ref 4 0 ndste,I At,I Ap]),(1,.row 3 false xf)]⟩:=by
 refine Fn.goR Xd0 Tryz.func303 fun P hP Q hQ=>?_
 conv=>cbv
 refine LoopW.lp1 (κ:=Int×(List (List D))×Nat×(List Int)) Xd0 hP [] [0,2] [0,2,3,4] [.dead] (fun(i4,ae,af,ks5pp)=>[(3,.ref 7 0 af),(4,I i4)]) (fun(i4,ae,af,ks5pp)=>[(7,.row 2 false ae),(5,.map ks5pp)])
  (fun(i4,ae,af,ks5pp)=>∃(w7:List Ad),w7.map Ac=ae∧af=w7.length∧0≤i4∧i4≤Ag.length∧w7.length≤Ak.length+i4∧∀id,(id∈ks5pp∨K3 w7 (Ag.drop i4.toNat) id=true)↔K3 Ak Ag id=true)
  (fun(i4,ae,af,ks5pp)=>(Ag.length - i4).toNat) (Ag.length) (fun J hJ=>?_) ?_
 conv=>cbv
 refine .go fun v1 az=>?_
 conv=>cbv
 refine LoopW.lp (κ:=Int×(List Int)) Xd0 hP [] [0,2,3,4,14,15] (fun(aa,ks5p)=>[(16,I aa)]) (fun(aa,ks5p)=>[(5,.map ks5p)])
  (fun(aa,ks5p)=>0≤aa∧aa≤Ak.length∧∀id,id∈ks5p↔id∈([]:List Int)∨((Ak.take aa.toNat).any fun e=>decide (e.id_=id))=true)
  (fun(aa,ks5p)=>(Ak.length - aa).toNat) (0,[]) ⟨by omega,by omega,fun id=>by simp⟩ ⟨rfl,trivial⟩ rfl ?_
 rintro⟨aa,ks5p⟩ J1 ⟨k0,k1,hi⟩ am
 conv=>cbv
 refine .lss (fun h2=>?_) fun h2=>?_
 conv=>cbv
 refine .go aa.toNat fun p3 an aw=>?_
 conv=>cbv
 subst an
 refine .go Aq fun ag ⟨ao,ax⟩ ap=>?_
 conv=>cbv
 refine .go hP Tryz.underlying266 (by kernel_rfl) fun ks5 hks5=>?_
 conv=>cbv
 refine .add fun v6 a0=>?_
 conv=>cbv
 exact .go [] (v6,ks5) (am _ ⟨by omega,by omega,fun id=>by rw[hks5,X6,hi id,show v6.toNat=aa.toNat+1 by omega,Xak ag,←ap,Bool.or_eq_true,or_assoc,decide_eq_true_eq]⟩ mlt)
 conv=>cbv
 refine .go fun v3 a1=>?_
 conv=>cbv
 refine .eql (fun h4=>?_) fun h4=>?_
 conv=>cbv
 have hks:∀id,id∈ks5p↔K3 Ak Ag id=true:=fun id=>by first|(rw[hi,←hio id,List.take_of_length_le (show w7.length≤aa.toNat by omega),List.drop_of_length_le (show Ag.length≤i4.toNat by omega)];show _↔_∨(w7.any fun e=>decide (e.id_=id))=true;exact Iff.rfl)|(rw[hi,List.take_of_length_le (show Ak.length≤aa.toNat by omega),List.eq_nil_of_length_eq_zero (show Ag.length=0 by omega)];show(_∨_)↔(Ak.any fun e=>decide (e.id_=id))=true;simp)
 generalize ah:Eb Ae ks5p=l5
 generalize ai:(l5++List.replicate (Ae.length - l5.length) (⟨0,tx [],0⟩:Bg)).map Bi=aq
 obtain⟨nl5,hnl5⟩:∃m,m=l5.length:=⟨_,rfl⟩
 refine .bx [1,6,5] [5] hP (Je An (by first|rfl|omega|(simp;omega)) hn ah ai hnl5) rfl rfl rfl rfl ?_
 conv=>cbv
 have e:l5=o:=by rw[←ah,←hr];unfold Eb Eu Ka;congr 1;funext x;simp only[Bool.not_not,hks x.id_,Bool.decide_eq_true]
 subst e
 obtain rfl:aq=xf:=by rw[←ai,←hf]
 obtain rfl:nl5=no:=by omega
 exact hQ _ _ (.of [] (.inr rfl) rfl rfl rfl rfl)
 conv=>cbv
 refine .go 0 fun p5 ar ay=>?_
 conv=>cbv
 refine .go As fun ac e6 aj=>?_
 conv=>cbv
 have a2:e6.size≤1000000000:=aj▸hss _ (List.getElem_mem ac)
 subst ar
 rcases ad:Ah Ak e6 with⟨ak,a3⟩
 have hsl7:=Nm ad
 generalize ab:ak.map Ac=al
 obtain⟨nr7a,hnr7a⟩:∃m,m=ak.length:=⟨_,rfl⟩
 refine .lntN hP (Pw Aq (by omega) (by omega) ad ab hnr7a) (.ref rfl (Af Aq) (.d rfl .nil)) rfl rfl rfl (by simp only[List.all_cons,List.all_nil,Bool.and_self,F4 (fun _=>rfl) ab]) ?_
 conv=>cbv
 refine .add fun v8 a4=>?_
 conv=>cbv
 exact .go [7] (v8,al,nr7a,ks5p) (hJ _ ⟨_,ab,Lx,by omega,by omega,by omega,fun id=>by rw[hi id,show v8.toNat=1 by omega,List.take_of_length_le (show Ak.length≤aa.toNat by omega),Xii ac aj,ad,Bool.or_eq_true];simp⟩ mlt)
 rintro⟨i4,ae,af,ks5pp⟩ J ⟨w7,au,a5,h0,h1,hun,hio⟩ hJ
 conv=>cbv
 refine .go fun v1 az=>?_
 conv=>cbv
 refine LoopW.lp (κ:=Int×(List Int)) Xd0 hP [] [0,2,3,4,14,15] (fun(aa,ks5p)=>[(16,I aa)]) (fun(aa,ks5p)=>[(5,.map ks5p)])
  (fun(aa,ks5p)=>0≤aa∧aa≤w7.length∧∀id,id∈ks5p↔id∈ks5pp∨((w7.take aa.toNat).any fun e=>decide (e.id_=id))=true)
  (fun(aa,ks5p)=>(w7.length - aa).toNat) (0,ks5pp) ⟨by omega,by omega,fun id=>by simp⟩ ⟨rfl,trivial⟩ rfl ?_
 rintro⟨aa,ks5p⟩ J1 ⟨k0,k1,hi⟩ am
 conv=>cbv
 refine .lss (fun h2=>?_) fun h2=>?_
 conv=>cbv
 refine .go aa.toNat fun p3 an aw=>?_
 conv=>cbv
 subst an
 refine .go au fun ag ⟨ao,ax⟩ ap=>?_
 conv=>cbv
 refine .go hP Tryz.underlying266 (by kernel_rfl) fun ks5 hks5=>?_
 conv=>cbv
 refine .add fun v6 a0=>?_
 conv=>cbv
 exact .go [] (v6,ks5) (am _ ⟨by omega,by omega,fun id=>by rw[hks5,X6,hi id,show v6.toNat=aa.toNat+1 by omega,Xak ag,←ap,Bool.or_eq_true,or_assoc,decide_eq_true_eq]⟩ mlt)
 conv=>cbv
 refine .go fun v3 a1=>?_
 conv=>cbv
 refine .eql (fun h4=>?_) fun h4=>?_
 conv=>cbv
 have hks:∀id,id∈ks5p↔K3 Ak Ag id=true:=fun id=>by first|(rw[hi,←hio id,List.take_of_length_le (show w7.length≤aa.toNat by omega),List.drop_of_length_le (show Ag.length≤i4.toNat by omega)];show _↔_∨(w7.any fun e=>decide (e.id_=id))=true;exact Iff.rfl)|(rw[hi,List.take_of_length_le (show Ak.length≤aa.toNat by omega),List.eq_nil_of_length_eq_zero (show Ag.length=0 by omega)];show(_∨_)↔(Ak.any fun e=>decide (e.id_=id))=true;simp)
 generalize ah:Eb Ae ks5p=l5
 generalize ai:(l5++List.replicate (Ae.length - l5.length) (⟨0,tx [],0⟩:Bg)).map Bi=aq
 obtain⟨nl5,hnl5⟩:∃m,m=l5.length:=⟨_,rfl⟩
 refine .bx [1,6,5] [5] hP (Je An (by first|rfl|omega|(simp;omega)) hn ah ai hnl5) rfl rfl rfl rfl ?_
 conv=>cbv
 have e:l5=o:=by rw[←ah,←hr];unfold Eb Eu Ka;congr 1;funext x;simp only[Bool.not_not,hks x.id_,Bool.decide_eq_true]
 subst e
 obtain rfl:aq=xf:=by rw[←ai,←hf]
 obtain rfl:nl5=no:=by omega
 exact hQ _ _ (.of [] (.inr rfl) rfl rfl rfl rfl)
 conv=>cbv
 refine .go i4.toNat fun p5 ar ay=>?_
 conv=>cbv
 refine .go As fun ac e6 aj=>?_
 conv=>cbv
 have a2:e6.size≤1000000000:=aj▸hss _ (List.getElem_mem ac)
 subst ar
 rcases ad:Ah w7 e6 with⟨ak,a3⟩
 have hsl7:=Nm ad
 generalize ab:ak.map Ac=al
 obtain⟨nr7a,hnr7a⟩:∃m,m=ak.length:=⟨_,rfl⟩
 refine .lntN hP (Pw au (by omega) (by omega) ad ab hnr7a) (.ref rfl (Af au) (.d rfl .nil)) rfl rfl rfl (by simp only[List.all_cons,List.all_nil,Bool.and_self,F4 (fun _=>rfl) ab]) ?_
 conv=>cbv
 refine .add fun v8 a4=>?_
 conv=>cbv
 exact .go [8] (v8,al,nr7a,ks5p) (hJ _ ⟨_,ab,Lx,by omega,by omega,by omega,fun id=>by rw[←hio id,hi id,show v8.toNat=i4.toNat+1 by omega,List.drop_eq_getElem_cons ac,←aj,List.take_of_length_le (show w7.length≤aa.toNat by omega)];show _↔_∨((w7.any fun e=>decide (e.id_=id))||K3 (Ah w7 e6).1 (Ag.drop (i4.toNat+1)) id)=true;rw[ad,Bool.or_eq_true,or_assoc]⟩ mlt)
end
section
open Go Go.Proofs
def XeH:List (Nat×TyRow):=[ty9,XdN,Xcu,Xal,ty265]
theorem XcE:B8 Tryz.prog XeH:=B8.of (by kernel_rfl)
theorem Xku:Setup Tryz.prog XeH:=⟨XcE,mixed⟩
theorem Xka{α:Type}{f:α→List D}{o z:List α}{x:List (List D)}(h:o.map f=x):(o++z).map f=x++z.map f:=by rw[List.map_append,h]
theorem Nh{Ae:List Bg}{Bv:List (List D)}{Al:List Ad}{Bq:List (List D)}{Ak:List Ad}{Bn:List (List D)}{Ag:List ByteArray}{Br:List (List D)}{At:Int}{Ap:Int}{ndnod:Nat}{ndent:Nat}{ndold:Nat}{ndste:Nat}{step:ByteArray}{xe:List (List D)}{ne:Nat}{o:List Bg}{no:Nat}{xf xs:List (List D)}{ns:Nat}(An:Ae.map Bi=Bv)(Am:Al.map Ac=Bq)(Aq:Ak.map Ac=Bn)(As:Ag.map cS=Br)(hndnod:ndnod=Ae.length)(hndent:ndent=Al.length)(hndold:ndold=Ak.length)(hndste:ndste=Ag.length)(hn:Ae.length<2^40)(hel:Al.length≤4000000000)(hss0:step.size≤1000000000)(hol:Ak.length≤1000000000)(hsl:Ag.length<1000000000)(hss:okS Ag)(he:(Ah Al step).1.map Ac=xe)(hne:ne=(Ah Al step).1.length)(hr:Ka Ae Ak (Ag++[step])=o)(hno:no=o.length)(hf:o.map Bi=xf)(hs:(Ag++[step]).map cS=xs)(hns:ns=(Ag++[step]).length):Fn Tryz.prog 301 [.ptr 0 0 0,S step] [.box 28 [.ref 1 0 ndnod,.ref 2 0 ndent,.ref 3 0 ndold,.ref 4 0 ndste,I At,I Ap],.row 3 false Bv,.row 2 false Bq,.row 2 false Bn,.row 1 false Br] ⟨.tup [],[.row 1 false xs,.row 2 false xe],[(0,.box 28 [.ref 1 0 no,.ref 6 0 ne,.ref 3 0 ndold,.ref 5 0 ns,I At,I Ap]),(1,.row 3 false xf),(4,.dead)]⟩:=by
 refine Fn.goR Xku Tryz.func301 fun P hP Q hQ=>?_
 conv=>cbv
 refine .one step As rfl fun aj z1 ae af=>?_
 conv=>cbv
 rcases ag:Ah Al step with⟨ad,am⟩
 generalize aa:ad.map Ac=ah
 obtain⟨nr2a,hnr2a⟩:∃m,m=ad.length:=⟨_,rfl⟩
 refine .lntN hP (Pw Am hel hss0 ag aa hnr2a) (.ref rfl (Af Am) (.d rfl .nil)) rfl rfl rfl (by simp only[List.all_cons,List.all_nil,Bool.and_self,F4 (fun _=>rfl) aa]) ?_
 conv=>cbv
 generalize ai:Ka Ae Ak (Ag++[step])=o4
 obtain⟨ak,ab⟩:∃m,m=o4.length:=⟨_,rfl⟩
 generalize ac:o4.map Bi=al
 refine .bx [0,1,7,3,6] [1,7,3,6] hP (Fn.shr (Qg An aa Aq af (by first|assumption|omega|rfl|(simp at*;omega)) (by first|assumption|omega|rfl|(simp at*;omega)) (by first|assumption|omega|rfl|(simp at*;omega)) (by first|assumption|omega|rfl|(simp at*;omega)) hn hol (by rw[List.length_append];simp;omega) (Qv hss hss0) ai ab (Xka ac))) rfl rfl rfl rfl ?_
 conv=>cbv
 have e2:(Ah Al step).1=ad:=by rw[ag]
 rw[e2]at he hne
 obtain rfl:ah=xe:=by rw[←aa,←he]
 obtain rfl:nr2a=ne:=by omega
 obtain rfl:z1=xs:=by rw[←af,←hs]
 obtain rfl:aj=ns:=by rw[hns,ae,List.length_append];rfl
 obtain rfl:o4=o:=by rw[←ai,←hr]
 obtain rfl:ak=no:=by rw[hno,ab]
 obtain rfl:al=xf:=by rw[←ac,←hf]
 exact hQ _ _ (.of [6,7] (.inr rfl) rfl rfl rfl rfl)
end
end Go.Proofs.YtjbmpmmffjgedaaGreatDoor.Ab
