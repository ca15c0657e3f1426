/- What functions of the program come to, for all arguments in the given bounds. -/
import Derived.Test.YtgdmjbcllgmepaaGreatDoorHach06e
import Derived.Test.YtgdmjbcllgmepaaGreatDoorHaZ9
set_option linter.unusedVariables false
set_option linter.unusedSimpArgs false
namespace Go.Proofs.YtgdmjbcllgmepaaGreatDoor.Ab
section
open Go Go.Proofs
set_option maxRecDepth 20000
set_option maxHeartbeats 4000000
def W3:List (Nat×TyRow):=[ty3,ty9,XcJ,Xf5,Xff,XdV,XcZ,XbO,Yh]
theorem Vs:Ca Tryz.prog W3:=Ca.of (by kernel_rfl)
theorem Gx:Setup Tryz.prog W3:=⟨Vs,mixed⟩
def Du(n:Bb)(keeps:List Int):Int:=if keeps.length=0 then n.sure_ else n.sure_+B8 (keeps.getD (n.id_%(keeps.length:Int)).toNat 0) 0 ((n.text_.size:Int) - n.sure_)
def Fs(e:Aa)(n:Bb):Bool:=decide (e.id_=n.id_)
def XaA(keeps:List Int)(n:Bb):Bb:=⟨n.id_,n.text_.extract 0 (Du n keeps).toNat,((n.text_.extract 0 (Du n keeps).toNat).size:Int)⟩
def Fk(d:Ad)(names:Int)(keeps:List Int):Ad:=if B5 d=false then d else
 ⟨(d.nodes_.filter fun n=>K9 (Cj d.old_ d.steps_ names).1 n.id_).map (XaA keeps),(Cj d.old_ d.steps_ names).1,(Cj d.old_ d.steps_ names).1,[],d.room_,d.next_⟩
theorem Pr{a b:Int}(h:0≤b):0≤B8 a 0 b∧B8 a 0 b≤b:=by
 unfold B8
 split<;>(try split)<;>(try split)<;>omega
theorem Xgs{n:Bb}{keeps:List Int}(h0:0≤n.sure_)(h1:n.sure_≤n.text_.size):0≤Du n keeps∧Du n keeps≤n.text_.size:=by
 have h2:=Pr (a:=keeps.getD (n.id_%(keeps.length:Int)).toNat 0) (b:=(n.text_.size:Int) - n.sure_) (by omega)
 unfold Du
 split<;>omega
theorem XfW{α:Type}{p:α→Bool}{l:List α}:l.any p=decide (0≤S2 p l):=by
 cases h:l.any p with
 |true=>
  obtain⟨x,hx,hp⟩:=List.any_eq_true.1 h
  symm
  rw[decide_eq_true_eq]
  unfold S2
  rw[if_pos (List.findIdx_lt_length_of_exists ⟨x,hx,hp⟩)]
  omega
 |false=>
  symm
  rw[decide_eq_false_iff_not]
  intro h0
  obtain⟨hi,hp⟩:=Zz (rfl:S2 p l=_) h0
  have:=List.any_eq_true.2 ⟨_,List.getElem_mem hi,hp⟩
  rw[h]at this
  cases this
theorem XcU{d:Ad}(h:B5 d=true)(h2:Xbf d){i:Nat}(hi:i<d.nodes_.length):1≤d.nodes_[i].id_∧0≤d.nodes_[i].sure_∧d.nodes_[i].sure_≤d.nodes_[i].text_.size∧d.nodes_[i].text_.size≤1000000000:=by
 have h1:=(diskOk_iff.1 h).2.2.1
 unfold Df at h1
 rw[Bool.and_eq_true]at h1
 have h3:=List.all_eq_true.1 h1.1 i (List.mem_range.2 hi)
 unfold Dm at h3
 rw[decide_eq_true_eq,XdU hi rfl]at h3
 exact⟨h3.2.1.1,h3.2.2.1,h3.2.2.2,h2.1.2.1 _ (List.getElem_mem hi)⟩
theorem Xfi:∀(l:List ByteArray) (now:List Aa),(Gn now l).1.length≤now.length+l.length
 |[],_=>Nat.le_refl _
 |s::l,now=>by
  obtain⟨e,b,hy⟩:∃e b,At now s=(e,b):=⟨_,_,rfl⟩
  have h1:=Mw hy
  have h2:=Xfi l e
  unfold Gn
  rw[hy]
  split
  ·exact Nat.zero_le _
  ·rw[List.length_cons]
   show(Gn e l).1.length≤_
   omega
theorem XeL(old:List Aa)(steps:List ByteArray)(n:Int):(Cj old steps n).1.length≤old.length+steps.length:=by
 have h1:=Xfi (steps.take (B8 n 0 steps.length).toNat) old
 have h2:(steps.take (B8 n 0 steps.length).toNat).length≤steps.length:=by rw[List.length_take];omega
 unfold Cj
 omega
theorem Xcr{d:Ad}{n:Int}(h:B5 d=true):C9 d.old_ d.steps_ n=Cj d.old_ d.steps_ n:=(Xap (Sa _ (Xeq h).1)).1
theorem Qk{α:Type}{f:α→α}{l:List α}{i:Nat}(h:i<l.length)(h2:i<((l.take i).map f++l.drop i).length):((l.take i).map f++l.drop i)[i]=l[i]:=by
 rw[List.getElem_append_right (by rw[List.length_map,List.length_take];omega)]
 simp only[List.length_map,List.length_take,List.getElem_drop]
 congr 1
 omega
theorem Xdc{α:Type}{f:α→α}{l:List α}{i:Nat}(h:i<l.length):((l.take i).map f++l.drop i).set i (f l[i])=(l.take (i+1)).map f++l.drop (i+1):=by
 rw[List.set_append_right _ _ (by rw[List.length_map,List.length_take];omega),List.length_map,List.length_take,show i - min i l.length=0 by omega,List.drop_eq_getElem_cons h,List.set_cons_zero,List.take_succ_eq_append_getElem h,List.map_append,List.append_assoc]
 rfl
theorem XfP{α:Type}{f:α→α}{l:List α}{i:Nat}:((l.take i).map f++l.drop i).length=l.length:=by
 rw[List.length_append,List.length_map,List.length_take,List.length_drop]
 omega
theorem Wr{nodes:List Bb}{l:List Aa}{keeps:List Int}{r x:Int}:Jd ⟨nodes.map (XaA keeps),l,l,[],r,x⟩=⟨(nodes.filter fun n=>K9 l n.id_).map (XaA keeps),l,l,[],r,x⟩:=by
 unfold Jd
 dsimp only
 rw[List.filter_map]
 have:nodes.filter ((fun x=>XbI l [] x.id_)∘XaA keeps)=nodes.filter fun n=>K9 l n.id_:=by
  refine List.filter_congr fun n _=>?_
  show(List.any [0] fun k=>K9 (B0 l (List.take k [])).1 n.id_)=_
  simp[B0]
 rw[this]
theorem So{d:Ad}:∀{l:List ByteArray} {now:List Aa} (k:Nat),Dn d now l=true→A2 d (Gn now (l.take k)).1=true
 |[],now,k,h=>by
  rw[List.take_nil]
  unfold Dn at h
  rw[Bool.and_eq_true]at h
  exact h.1
 |s::ss,now,0,h=>by
  unfold Dn at h
  rw[Bool.and_eq_true,Bool.and_eq_true]at h
  exact h.1.1
 |s::ss,now,k+1,h=>by
  unfold Dn at h
  rw[Bool.and_eq_true,Bool.and_eq_true]at h
  rw[List.take_succ_cons,Kq h.1.2]
  exact So k h.2
theorem Wg{d:Ad}(h:B5 d=true)(n:Int):A2 d (Cj d.old_ d.steps_ n).1=true:=So _ (diskOk_iff.1 h).2.2.2.2
theorem Td{d:Ad}(h:B5 d=true)(n:Int):(Cj d.old_ d.steps_ n).1.length≤16:=U8 (Wg h n)
theorem Xe4{d:Ad}{l:List Aa}(h:A2 d l=true):okL l:=by
 intro e he
 obtain⟨i,hi,rfl⟩:=List.getElem_of_mem he
 have h1:=Xcd h hi
 unfold Ef at h1
 rw[Yo hi rfl,Bool.and_eq_true,Bool.and_eq_true]at h1
 have:=Yz h1.1.2
 omega
theorem X4{d:Ad}{n:Int}{keeps:List Int}(h:Xbf d):Xbf (Fk d n keeps)∧(Fk d n keeps).steps_.length≤d.steps_.length:=by
 unfold Fk
 split
 ·exact⟨h,Nat.le_refl _⟩
 ·rename_i hr
  have hr:B5 d=true:=by simpa using hr
  have h1:=Td hr n
  have h2:=Xe4 (Wg hr n)
  refine⟨⟨⟨?_,?_,by show(Cj _ _ _).1.length≤_;omega,h2,by show(Cj _ _ _).1.length≤_;omega,Nat.zero_le _⟩,h2,fun _ hs=>by cases hs⟩,Nat.zero_le _⟩
  ·show(List.map _ _).length≤_
   rw[List.length_map]
   exact Nat.le_trans (List.length_filter_le _ _) h.1.1
  ·intro x hx
   obtain⟨y,hy,rfl⟩:=List.mem_map.1 hx
   have:=h.1.2.1 y (List.mem_filter.1 hy).1
   show(y.text_.extract 0 _).size≤_
   rw[ByteArray.size_extract]
   omega
theorem Xa9{t:ByteArray}{k:Int}(h0:0≤k)(h1:k≤t.size):((t.extract 0 k.toNat).size:Int)=k:=by
 rw[ByteArray.size_extract]
 omega
variable {nid nsur Bh Bg names oroo onex:Int} {ntex:ByteArray} {keeps:List Int} {xkeeps xl Cl Co Cr Cq Ya Yc Ye Yn:List (List D)} {o:Bool} {l Bd A9 oent oold:List Aa} {A4 onod:List Bb} {A7 oste:List ByteArray}
theorem XbY{o:Int}(hkeeps:keeps.map cI=xkeeps)(ai:1≤nid)(aj:0≤nsur)(ak:nsur≤ntex.size)(al:ntex.size≤1000000000)(am:keeps.length≤1000000000)(hr:Du (⟨nid,ntex,nsur⟩:Bb) keeps=o):Fn Tryz.prog 168 [.agg [I nid,S ntex,I nsur],.ptr 0 0 0] [.box 29 [.d (.row 1 xkeeps)]] ⟨I o,[],[]⟩:=by
 refine Fn.goR Gx Tryz.func168 fun P hP Q hQ=>?_
 conv=>cbv
 refine .go hkeeps fun v1 an=>?_
 conv=>cbv
 refine .eql (fun h2=>?_) fun h2=>?_
 conv=>cbv
 have e:nsur=Du (⟨nid,ntex,nsur⟩:Bb) keeps:=(by unfold Du;rw[if_pos (by omega)])
 rw[hr]at e
 subst e
 exact hQ _ _ (.of [] (.inl rfl) rfl rfl rfl rfl)
 conv=>cbv
 refine .go hkeeps fun v3 ac=>?_
 conv=>cbv
 refine .rem fun v4 ad=>?_
 conv=>cbv
 have ao:=Int.emod_nonneg nid (show v3≠0 by omega)
 have ap:=Int.emod_lt_of_pos nid (show 0<v3 by omega)
 refine .go v4.toNat hkeeps fun ab e5 ae=>?_
 conv=>cbv
 refine .go fun v6 af=>?_
 conv=>cbv
 refine .sub fun v7 ag=>?_
 conv=>cbv
 generalize aa:B8 e5 0 v7=r8
 refine .dd hP (We aa) ?_
 conv=>cbv
 have hbr:=Pr (a:=e5) (b:=v7) (by omega)
 rw[aa]at hbr
 refine .add fun v9 ah=>?_
 conv=>cbv
 have e:v9=Du (⟨nid,ntex,nsur⟩:Bb) keeps:=(by unfold Du;rw[if_neg (by omega)];dsimp only;rw[show keeps.getD (nid%(keeps.length:Int)).toNat 0=e5 by rw[←ac,←ad,ae,gD ab],←af,←ag,aa,ah])
 rw[hr]at e
 subst e
 exact hQ _ _ (.of [] (.inl rfl) rfl rfl rfl rfl)
theorem Qc{enam:ByteArray}{eid:Int}(hr:Fs (⟨enam,eid⟩:Aa) (⟨nid,ntex,nsur⟩:Bb)=o):Fn Tryz.prog 247 [.agg [S enam,I eid],.ptr 0 0 0] [.box 129 [I nid,S ntex,I nsur]] ⟨B o,[],[]⟩:=by
 refine Fn.goR Gx Tryz.func247 fun P hP Q hQ=>?_
 conv=>cbv
 refine .eql (fun h1=>?_) fun h1=>?_
 conv=>cbv
 have e:true=Fs (⟨enam,eid⟩:Aa) (⟨nid,ntex,nsur⟩:Bb):=(by unfold Fs;exact(decide_eq_true h1).symm)
 rw[hr]at e
 subst e
 exact hQ _ _ (.of [] (.inl rfl) rfl rfl rfl rfl)
 conv=>cbv
 have e:false=Fs (⟨enam,eid⟩:Aa) (⟨nid,ntex,nsur⟩:Bb):=(by unfold Fs;exact(decide_eq_false h1).symm)
 rw[hr]at e
 subst e
 exact hQ _ _ (.of [] (.inl rfl) rfl rfl rfl rfl)
def Dt(l:List Aa)(n:Bb):Int:=S2 (fun x=>Fs x n) l
theorem L3{o:Int}(hl:l.map Ac=xl)(hn:l.length<2^40)(hr:Dt l (⟨nid,ntex,nsur⟩:Bb)=o):Fn Tryz.prog 301 [.d (.row 2 xl),.clo 247 [.ptr 0 0 0]] [.box 129 [I nid,S ntex,I nsur]] ⟨I o,[],[]⟩:=by
 refine Fn.goR Gx Tryz.func301 fun P hP Q hQ=>?_
 conv=>cbv
 refine .go hl fun v1 af=>?_
 conv=>cbv
 refine LoopW.lp (κ:=Int) Gx hP [] [0,1,7] (fun i8=>[(8,I i8)]) (fun i8=>[])
  (fun i8=>0≤i8∧i8≤l.length∧∀(j:Nat) (hj:j<l.length),j<i8.toNat→Fs l[j] (⟨nid,ntex,nsur⟩:Bb)=false)
  (fun i8=>(l.length - i8).toNat) (0) ⟨by omega,by omega,fun j _ h=>by simp at h⟩ ⟨rfl,trivial⟩ rfl ?_
 rintro i8 J ⟨h0,h1,hb⟩ hJ
 conv=>cbv
 refine .lss (fun h2=>?_) fun h2=>?_
 conv=>cbv
 refine .go i8.toNat hl fun ae ⟨aa,ac⟩ ad=>?_
 conv=>cbv
 generalize ab:Fs (⟨aa,ac⟩:Aa) (⟨nid,ntex,nsur⟩:Bb)=r4
 refine .bx [0] [] hP (Qc ab) rfl rfl rfl rfl ?_
 cases r4
 conv=>cbv
 refine .add fun v5 ag=>?_
 conv=>cbv
 exact .go [] (v5) (hJ _ ⟨by omega,by omega,fun j hj h=>if e:j=i8.toNat then by subst e;rw[←ad];exact ab else hb j hj (by omega)⟩ mlt)
 conv=>cbv
 have e:i8=Dt l (⟨nid,ntex,nsur⟩:Bb):=(by exact Mi (p:=fun x=>Fs x (⟨nid,ntex,nsur⟩:Bb)) h0 (by omega) (by rw[←ad];exact ab) hb)
 rw[hr]at e
 subst e
 exact hQ _ _ (.of [] (.inl rfl) rfl rfl rfl rfl)
 conv=>cbv
 have e:(-1)=Dt l (⟨nid,ntex,nsur⟩:Bb):=(by exact Hz (p:=fun x=>Fs x (⟨nid,ntex,nsur⟩:Bb)) fun j hj=>hb j hj (by omega))
 rw[hr]at e
 subst e
 exact hQ _ _ (.of [] (.inl rfl) rfl rfl rfl rfl)
def C5(l:List Aa)(n:Bb):Bool:=K9 l n.id_
theorem Q5{l:List Aa}{n:Bb}:C5 l n=decide (0≤Dt l n):=XfW (p:=fun e:Aa=>decide (e.id_=n.id_))
theorem Jo(hl:l.map Ac=xl)(hn:l.length<2^40)(hr:C5 l (⟨nid,ntex,nsur⟩:Bb)=o):Fn Tryz.prog 246 [.d (.row 2 xl),.clo 247 [.ptr 0 0 0]] [.box 129 [I nid,S ntex,I nsur]] ⟨B o,[],[]⟩:=by
 refine Fn.goR Gx Tryz.func246 fun P hP Q hQ=>?_
 conv=>cbv
 generalize aa:Dt l (⟨nid,ntex,nsur⟩:Bb)=r1
 refine .bx [0] [] hP (L3 hl hn aa) rfl rfl rfl rfl ?_
 conv=>cbv
 refine .geq (fun h2=>?_) fun h2=>?_
 conv=>cbv
 have e:true=C5 l (⟨nid,ntex,nsur⟩:Bb):=(by rw[Q5,aa];exact(decide_eq_true h2).symm)
 rw[hr]at e
 subst e
 exact hQ _ _ (.of [] (.inl rfl) rfl rfl rfl rfl)
 conv=>cbv
 have e:false=C5 l (⟨nid,ntex,nsur⟩:Bb):=(by rw[Q5,aa];exact(decide_eq_false (by omega)).symm)
 rw[hr]at e
 subst e
 exact hQ _ _ (.of [] (.inl rfl) rfl rfl rfl rfl)
theorem Ny{o:List Bb}{xn:List (List D)}{nn:Nat}(B4:A4.map Ce=Cl)(Ck:Bd.map Ac=Co)(Cn:A9.map Ac=Cr)(Cd:A7.map cS=Cq)(hkeeps:keeps.map cI=xkeeps)(ai:Xbf (⟨A4,Bd,A9,A7,Bh,Bg⟩:Ad))(hri:B5 (⟨A4,Bd,A9,A7,Bh,Bg⟩:Ad)=true)(hkl:keeps.length≤1000000000)(hl:(Cj A9 A7 names).1=l)(hxl:l.map Ac=xl)(ho:(A4.filter fun n=>K9 l n.id_).map (XaA keeps)=o)(hxn:o.map Ce=xn)(hnn:nn=o.length):Fn Tryz.prog 167 [.agg [.d (.row 3 Cl),.d (.row 2 Co),.d (.row 2 Cr),.d (.row 1 Cq),I Bh,I Bg],I names,.clo 168 [.ptr 0 0 0]] [.box 29 [.d (.row 1 xkeeps)]] ⟨.agg [.ref 1 0 nn,.d (.row 2 xl),.d (.row 2 xl),.ref 2 0 0,I Bh,I Bg],[.row 3 false xn,.row 1 false []],[]⟩:=by
 refine Fn.goR Gx Tryz.func167 fun P hP Q hQ=>?_
 conv=>cbv
 rcases an:Cj A9 A7 names with⟨ag,a7⟩
 generalize ah:ag.map Ac=ak
 refine .dd hP (Zv Cn Cd ai.1.2.2.2.2.1 ai.1.2.2.2.2.2 ai.2.2 an ah) ?_
 conv=>cbv
 have ar:=XeL A9 A7 names
 rw[an]at ar
 simp only[]at ar
 have a8:A9.length≤1000000000:=ai.1.2.2.2.2.1
 have a9:A7.length≤1000000000:=ai.1.2.2.2.2.2
 have ba:A4.length≤1000000000:=ai.1.1
 generalize au:E4 ag=l2
 generalize aw:l2.map Ac=ax
 refine .dd hP (Cg ah (by omega) au aw) ?_
 conv=>cbv
 refine .go B4 fun v3 bb=>?_
 conv=>cbv
 refine LoopW.lp (κ:=Int×(List (List D))×Nat) Gx hP [7] [2,6,7,9,31,32] (fun(aa,ab,ac)=>[(33,I aa)]) (fun(aa,ab,ac)=>[(15,.box 40 [.ref 16 0 ac,.d (.row 2 ak),.d (.row 2 ax),.ref 10 0 0,I Bh,I Bg]),(16,.row 3 false ab)])
  (fun(aa,ab,ac)=>∃(aj:List Bb),aj.map Ce=ab∧ac=aj.length∧0≤aa∧aa≤A4.length∧aj=((A4.take aa.toNat).filter (fun n=>K9 ag n.id_)).map (XaA keeps)∧aj.length≤aa)
  (fun(aa,ab,ac)=>(A4.length - aa).toNat) (0,[],0) ⟨[],rfl,rfl,by omega,by omega,rfl,by simp⟩ ⟨rfl,trivial⟩ rfl ?_
 rintro⟨aa,ab,ac⟩ J ⟨aj,al,a1,h0,h1,hx,hxl_⟩ hJ
 conv=>cbv
 refine .lss (fun h4=>?_) fun h4=>?_
 conv=>cbv
 refine .go aa.toNat B4 fun am ⟨ad,ae,af⟩ ao=>?_
 conv=>cbv
 have hnf:=XcU hri ai am
 simp only[]at hnf
 rw[←ao]at hnf
 simp only[]at hnf
 generalize ap:C5 ag (⟨ad,ae,af⟩:Bb)=r6
 refine .bx [17] [] hP (Jo ah (by omega) ap) rfl rfl rfl rfl ?_
 cases r6
 conv=>cbv
 refine .add fun v7 bc=>?_
 conv=>cbv
 have hha:K9 ag ad=false:=ap
 exact .go [16] (v7,ab,ac) (hJ _ ⟨_,al,N8,by omega,by omega,by rw[show v7.toNat=aa.toNat+1 by omega,Fw am,←ao];simp only[];rw[hha,hx];simp,by omega⟩ mlt)
 conv=>cbv
 generalize aq:Du (⟨ad,ae,af⟩:Bb) keeps=r7
 refine .bx [0] [] hP (XbY hkeeps (by omega) (by omega) (by omega) (by omega) hkl aq) rfl rfl rfl rfl ?_
 conv=>cbv
 have hkb:=Xgs (n:=⟨ad,ae,af⟩) (keeps:=keeps) hnf.2.1 hnf.2.2.1
 rw[aq]at hkb
 simp only[]at hkb
 refine .hi fun s8 a2=>?_
 conv=>cbv
 refine .go fun v9 a3=>?_
 conv=>cbv
 refine .one (⟨ad,s8,v9⟩:Bb) al rfl fun ay a4 a5 az=>?_
 conv=>cbv
 refine .add fun a0 a6=>?_
 conv=>cbv
 have hha:K9 ag ad=true:=ap
 have hcu:XaA keeps ⟨ad,ae,af⟩=⟨ad,s8,v9⟩:=by unfold XaA;rw[aq,←a2,←a3]
 exact .go [19] (a0,a4,ay) (hJ _ ⟨_,az,N8,by omega,by omega,by rw[show a0.toNat=aa.toNat+1 by omega,Fw am,←ao];simp only[];rw[hha,if_pos rfl,List.map_append,←hx,←hcu];rfl,by rw[List.length_append,List.length_singleton];omega⟩ mlt)
 conv=>cbv
 obtain rfl:ag=l:=by rw[←hl,an]
 obtain rfl:ak=xl:=by rw[←ah,hxl]
 have e2:l2=ag:=au.symm
 subst e2
 obtain rfl:ax=ak:=by rw[←aw,ah]
 obtain rfl:aj=o:=by rw[hx,←ho,List.take_of_length_le (by omega)]
 obtain rfl:ab=xn:=by rw[←al,hxn]
 obtain rfl:ac=nn:=by omega
 exact hQ _ _ (.of [16,10] (.inl rfl) rfl rfl rfl rfl)
theorem Xe2(B4:A4.map Ce=Cl)(Ck:Bd.map Ac=Co)(Cn:A9.map Ac=Cr)(Cd:A7.map cS=Cq)(hkeeps:keeps.map cI=xkeeps)(aa:Xbf (⟨A4,Bd,A9,A7,Bh,Bg⟩:Ad))(hkl:keeps.length≤1000000000)(hr:Fk (⟨A4,Bd,A9,A7,Bh,Bg⟩:Ad) names keeps=⟨onod,oent,oold,oste,oroo,onex⟩)(Zp:onod.map Ce=Ya)(Yq:oent.map Ac=Yc)(Y3:oold.map Ac=Ye)(Zn:oste.map cS=Yn):Fn Tryz.prog 82 [.agg [.d (.row 3 Cl),.d (.row 2 Co),.d (.row 2 Cr),.d (.row 1 Cq),I Bh,I Bg],I names,.d (.row 1 xkeeps)] [] ⟨.agg [.d (.row 3 Ya),.d (.row 2 Yc),.d (.row 2 Ye),.d (.row 1 Yn),I oroo,I onex],[],[]⟩:=by
 refine Fn.go Gx Tryz.func82 fun P hP Q hQ=>?_
 conv=>cbv
 have ac:A4.length≤1000000000:=aa.1.1
 have ad:Bd.length≤1000000000:=aa.1.2.2.1
 have ae:A9.length≤1000000000:=aa.1.2.2.2.2.1
 have af:A7.length≤1000000000:=aa.1.2.2.2.2.2
 generalize ab:B5 (⟨A4,Bd,A9,A7,Bh,Bg⟩:Ad)=r1
 refine .dd hP (Xew B4 Ck Cn Cd aa ab) ?_
 cases r1
 conv=>cbv
 refine .dd hP (Y6 B4 Ck Cn Cd (by omega) (by omega) (by omega) (by omega)) ?_
 conv=>cbv
 have e:(⟨A4,Bd,A9,A7,Bh,Bg⟩:Ad)=Fk (⟨A4,Bd,A9,A7,Bh,Bg⟩:Ad) names keeps:=(by unfold Fk;rw[if_pos ab])
 rw[hr]at e
 simp only[Ad.mk.injEq]at e
 obtain⟨rfl,rfl,rfl,rfl,rfl,rfl⟩:=e
 exact hQ _ _ (.one (.inl rfl) rfl (.agg (.d rfl (Mh B4 Zp) (.d rfl (Mh Ck Yq) (.d rfl (Mh Cn Y3) (.d rfl (Mh Cd Zn) (.d rfl rfl (.d rfl rfl (.nil))))))) .nil))
 conv=>cbv
 generalize hfl:(Cj A9 A7 names).1=fl
 generalize hfx:fl.map Ac=xfl
 generalize hfo:(A4.filter fun n=>K9 fl n.id_).map (XaA keeps)=fo
 generalize hfy:fo.map Ce=xfo
 obtain⟨nfo,hfn⟩:∃m,m=fo.length:=⟨_,rfl⟩
 refine .bx [1] [] hP (Ny B4 Ck Cn Cd hkeeps aa ab hkl hfl hfx hfo hfy hfn) rfl rfl rfl rfl ?_
 conv=>cbv
 have e:(⟨fo,fl,fl,[],Bh,Bg⟩:Ad)=Fk (⟨A4,Bd,A9,A7,Bh,Bg⟩:Ad) names keeps:=(by unfold Fk;rw[if_neg (by rw[ab];decide)];dsimp only;rw[hfl,hfo])
 rw[hr]at e
 simp only[Ad.mk.injEq]at e
 obtain⟨rfl,rfl,rfl,rfl,rfl,rfl⟩:=e
 exact hQ _ _ (.one (.inl rfl) rfl (.agg (.ref rfl (In hfy) (XbJ hfy Zp) (.d rfl (Mh hfx Yq) (.d rfl (Mh hfx Y3) (.ref rfl rfl (by rw[←Zn];rfl) (.d rfl rfl (.d rfl rfl (.nil))))))) .nil))
theorem Xd4(B4:A4.map Ce=Cl)(Ck:Bd.map Ac=Co)(Cn:A9.map Ac=Cr)(Cd:A7.map cS=Cq)(hkeeps:keeps.map cI=xkeeps)(ai:Xbf (⟨A4,Bd,A9,A7,Bh,Bg⟩:Ad))(hkl:keeps.length≤1000000000)(hr:Fk (⟨A4,Bd,A9,A7,Bh,Bg⟩:Ad) names keeps=⟨onod,oent,oold,oste,oroo,onex⟩)(Zp:onod.map Ce=Ya)(Yq:oent.map Ac=Yc)(Y3:oold.map Ac=Ye)(Zn:oste.map cS=Yn):Fn Tryz.prog 80 [.agg [.d (.row 3 Cl),.d (.row 2 Co),.d (.row 2 Cr),.d (.row 1 Cq),I Bh,I Bg],I names,.d (.row 1 xkeeps)] [] ⟨.agg [.d (.row 3 Ya),.d (.row 2 Yc),.d (.row 2 Ye),.d (.row 1 Yn),I oroo,I onex],[],[]⟩:=by
 refine Fn.go Gx Tryz.func80 fun P hP Q hQ=>?_
 conv=>cbv
 have dc:A4.length≤1000000000:=ai.1.1
 have de:Bd.length≤1000000000:=ai.1.2.2.1
 have df:A9.length≤1000000000:=ai.1.2.2.2.2.1
 have dg:A7.length≤1000000000:=ai.1.2.2.2.2.2
 obtain⟨n2,cn⟩:∃m,m=A4.length:=⟨_,rfl⟩
 obtain⟨n3,co⟩:∃m,m=Bd.length:=⟨_,rfl⟩
 obtain⟨n4,cp⟩:∃m,m=A9.length:=⟨_,rfl⟩
 obtain⟨n5,cq⟩:∃m,m=A7.length:=⟨_,rfl⟩
 refine .ddN hP (Xcf B4 Ck Cn Cd (by omega) (by omega) (by omega) (by omega) cn co cp cq) rfl ?_
 conv=>cbv
 generalize bc:B5 (⟨A4,Bd,A9,A7,Bh,Bg⟩:Ad)=r6
 refine .lnt hP (Xeu B4 Ck Cn Cd ai bc) (.agg (.ref rfl (In B4) (.ref rfl (In Ck) (.ref rfl (In Cn) (.ref rfl (In Cd) (.d rfl (.d rfl .nil)))))) .nil) ?_
 cases r6
 conv=>cbv
 have e:(⟨A4,Bd,A9,A7,Bh,Bg⟩:Ad)=Fk (⟨A4,Bd,A9,A7,Bh,Bg⟩:Ad) names keeps:=(by unfold Fk;rw[if_pos bc])
 rw[hr]at e
 simp only[Ad.mk.injEq]at e
 obtain⟨rfl,rfl,rfl,rfl,rfl,rfl⟩:=e
 exact hQ _ _ (.one (.inl rfl) rfl (.agg (.ref rfl (In B4) (XbJ B4 Zp) (.ref rfl (In Ck) (XbJ Ck Yq) (.ref rfl (In Cn) (XbJ Cn Y3) (.ref rfl (In Cd) (XbJ Cd Zn) (.d rfl rfl (.d rfl rfl (.nil))))))) .nil))
 conv=>cbv
 rcases bd:C9 A9 A7 names with⟨bl,dh⟩
 generalize a6:bl.map Ac=c8
 refine .lntD hP (Mm Cn Cd ai.1.2.2.2.2.1 ai.1.2.2.2.2.2 ai.2.2 bd a6) (.ref rfl (In Cn) (.ref rfl (In Cd) (.d rfl .nil))) ?_
 conv=>cbv
 have hri:=bc
 rw[Xcr (d:=(⟨A4,Bd,A9,A7,Bh,Bg⟩:Ad)) (n:=names) hri]at bd
 have bm:=Td (d:=(⟨A4,Bd,A9,A7,Bh,Bg⟩:Ad)) hri names
 simp only[]at bm
 rw[bd]at bm
 simp only[]at bm
 refine .row0 a6 fun di z8 c9 bz=>?_
 conv=>cbv
 refine LoopW.lp (κ:=Int×(List (List D))) Gx hP [] [2,3,6] (fun(i9,a5)=>[(9,I i9)]) (fun(i9,a5)=>[(6,.row 3 false a5)])
  (fun(i9,a5)=>∃(w6:List Bb),w6.map Ce=a5∧0≤i9∧i9≤A4.length∧w6=(A4.take i9.toNat).map (XaA keeps)++A4.drop i9.toNat)
  (fun(i9,a5)=>(A4.length - i9).toNat) (0,Cl) ⟨A4,B4,by omega,by omega,rfl⟩ ⟨rfl,trivial⟩ rfl ?_
 rintro⟨i9,a5⟩ J ⟨w6,aj,h0,h1,hx⟩ hJ
 have hwl:w6.length=A4.length:=by rw[hx,XfP]
 conv=>cbv
 refine .go fun v9 dj=>?_
 conv=>cbv
 refine .lss (fun h10=>?_) fun h10=>?_
 conv=>cbv
 refine .go i9.toNat fun dk b0 cr=>?_
 conv=>cbv
 refine .go aj fun ct ⟨au,ak,al⟩ b1=>?_
 conv=>cbv
 have af:i9.toNat<A4.length:=by omega
 have aw:(⟨au,ak,al⟩:Bb)=A4[i9.toNat]'af:=by subst b0;rw[b1];simp only[hx];exact Qk af _
 have hnf:=XcU hri ai af
 simp only[]at hnf
 rw[←aw]at hnf
 simp only[]at hnf
 refine .go hkeeps fun dl da=>?_
 conv=>cbv
 refine .gtr (fun h14=>?_) fun h14=>?_
 conv=>cbv
 refine .go i9.toNat fun cu ay bn=>?_
 conv=>cbv
 refine .go aj fun bo ⟨ab,ac,aa⟩ az=>?_
 conv=>cbv
 refine .go hkeeps fun b2 b3=>?_
 conv=>cbv
 have ah:(⟨ab,ac,aa⟩:Bb)=A4[i9.toNat]'af:=by subst ay;rw[az];simp only[hx];exact Qk af _
 obtain⟨rfl,rfl,rfl⟩:ab=au∧ac=ak∧aa=al:=by have:=ah.trans aw.symm;simpa using this
 refine .rem fun cv b4=>?_
 conv=>cbv
 have dm:=Int.emod_nonneg ab (show b2≠0 by omega)
 have dn:=Int.emod_lt_of_pos ab (show 0<b2 by omega)
 refine .go cv.toNat hkeeps fun bp bq b5=>?_
 conv=>cbv
 refine .go i9.toNat fun b6 a0 bs=>?_
 conv=>cbv
 refine .go aj fun cw ⟨ax,am,an⟩ b7=>?_
 conv=>cbv
 have a7:(⟨ax,am,an⟩:Bb)=A4[i9.toNat]'af:=by subst a0;rw[b7];simp only[hx];exact Qk af _
 obtain⟨rfl,rfl,rfl⟩:ax=ab∧am=ac∧an=aa:=by have:=a7.trans ah.symm;simpa using this
 refine .go fun bt bg=>?_
 conv=>cbv
 refine .sub fun b8 b9=>?_
 conv=>cbv
 generalize a8:B8 bq 0 b8=dp
 refine .dd hP (V5 a8) ?_
 conv=>cbv
 have hbr:=Pr (a:=bq) (b:=b8) (by omega)
 rw[a8]at hbr
 refine .add fun bu ca=>?_
 conv=>cbv
 refine .go i9.toNat fun dq bh cx=>?_
 conv=>cbv
 refine .go aj fun cy ⟨ad,ag,ae⟩ bi=>?_
 conv=>cbv
 have a9:(⟨ad,ag,ae⟩:Bb)=A4[i9.toNat]'af:=by subst bh;rw[bi];simp only[hx];exact Qk af _
 obtain⟨rfl,rfl,rfl⟩:ad=ax∧ag=am∧ae=an:=by have:=a9.trans a7.symm;simpa using this
 refine .hi fun bv cb=>?_
 conv=>cbv
 refine .go i9.toNat fun cz ba c0=>?_
 conv=>cbv
 refine .go (⟨ad,bv,ae⟩:Bb) aj (by omega) (by subst bh ba;rw[←bi];rfl) (show 1+1≤3 by decide) fun dr cc=>?_
 conv=>cbv
 refine .go i9.toNat fun c1 bj c2=>?_
 conv=>cbv
 refine .go (⟨ad,bv,bu⟩:Bb) cc (by rw[List.length_set];omega) (by subst ba bj;rw[List.getElem_set_self];rfl) (show 2+1≤3 by decide) fun c3 cd=>?_
 conv=>cbv
 refine .add fun ce db=>?_
 conv=>cbv
 have hke:Du (⟨ad,ag,ae⟩:Bb) keeps=bu:=by unfold Du;rw[if_neg (by omega)];dsimp only;rw[show keeps.getD (ad%(keeps.length:Int)).toNat 0=bq by rw[←b3,←b4,b5,gD bp],←bg,←b9,a8,ca]
 have hcu:XaA keeps (⟨ad,ag,ae⟩:Bb)=⟨ad,bv,bu⟩:=by unfold XaA;dsimp only;rw[hke,cb,Xa9 (by omega) (by omega)]
 exact .go [] (ce,c3) (hJ _ ⟨_,cd,by omega,by omega,by rw[show ce.toNat=i9.toNat+1 by omega,←Xdc af,←a9,hcu,←hx,show cz=i9.toNat from ba,show c1=i9.toNat from bj,List.set_set]⟩ mlt)
 conv=>cbv
 refine .go i9.toNat fun cu ay bn=>?_
 conv=>cbv
 refine .go aj fun bo ⟨ab,ac,aa⟩ az=>?_
 conv=>cbv
 have ah:(⟨ab,ac,aa⟩:Bb)=A4[i9.toNat]'af:=by subst ay;rw[az];simp only[hx];exact Qk af _
 obtain⟨rfl,rfl,rfl⟩:ab=au∧ac=ak∧aa=al:=by have:=ah.trans aw.symm;simpa using this
 refine .hi fun bw cf=>?_
 conv=>cbv
 refine .go i9.toNat fun c4 bb c6=>?_
 conv=>cbv
 refine .go (⟨ab,bw,aa⟩:Bb) aj (by omega) (by subst ay bb;rw[←az];rfl) (show 1+1≤3 by decide) fun ds cg=>?_
 conv=>cbv
 refine .go i9.toNat fun b6 a0 bs=>?_
 conv=>cbv
 refine .go (⟨ab,bw,aa⟩:Bb) cg (by rw[List.length_set];omega) (by subst bb a0;rw[List.getElem_set_self];rfl) (show 2+1≤3 by decide) fun c7 ch=>?_
 conv=>cbv
 refine .add fun bt bg=>?_
 conv=>cbv
 have hke:Du (⟨ab,ac,aa⟩:Bb) keeps=aa:=by unfold Du;rw[if_pos (by omega)]
 have hcu:XaA keeps (⟨ab,ac,aa⟩:Bb)=⟨ab,bw,aa⟩:=by unfold XaA;dsimp only;rw[hke,cf,Xa9 (by omega) (by omega)]
 exact .go [] (bt,c7) (hJ _ ⟨_,ch,by omega,by omega,by rw[show bt.toNat=i9.toNat+1 by omega,←Xdc af,←ah,hcu,←hx,show c4=i9.toNat from bb,show b6=i9.toNat from a0,List.set_set]⟩ mlt)
 conv=>cbv
 rcases bk:Jd (⟨w6,bl,bl,[],Bh,Bg⟩:Ad)with⟨a1,a2,a3,a4,be,bf⟩
 generalize ao:a1.map Ce=ci
 generalize ap:a2.map Ac=cj
 generalize aq:a3.map Ac=ck
 generalize ar:a4.map cS=cm
 refine .lntD hP (Xbr aj bz a6 rfl (by omega) (by omega) (by simp) (fun _ h=>by cases h) bk ao ap aq ar) (.agg (.ref rfl (In aj) (.ref rfl (In bz) (.d rfl (.ref rfl rfl (.d rfl (.d rfl .nil)))))) .nil) ?_
 conv=>cbv
 have e:(⟨a1,a2,a3,a4,be,bf⟩:Ad)=Fk (⟨A4,Bd,A9,A7,Bh,Bg⟩:Ad) names keeps:=(by unfold Fk;rw[if_neg (by rw[bc];decide)];dsimp only;rw[bd,←bk,hx,List.take_of_length_le (by omega),List.drop_of_length_le (by omega),List.append_nil];exact Wr)
 rw[hr]at e
 simp only[Ad.mk.injEq]at e
 obtain⟨rfl,rfl,rfl,rfl,rfl,rfl⟩:=e
 exact hQ _ _ (.one (.inl rfl) rfl (.agg (.d rfl (Mh ao Zp) (.d rfl (Mh ap Yq) (.d rfl (Mh aq Y3) (.d rfl (Mh ar Zn) (.d rfl rfl (.d rfl rfl (.nil))))))) .nil))
end
section
open Go Go.Proofs
set_option maxRecDepth 20000
set_option maxHeartbeats 4000000
def V3:List (Nat×TyRow):=[ty3,XcJ,Xf5,XcZ,ty43,ty106]
theorem Xj:Ca Tryz.prog V3:=Ca.of (by kernel_rfl)
theorem XaZ:Setup Tryz.prog V3:=⟨Xj,mixed⟩
def Db(w:C6)(names:Int)(keeps:List Int):Bool:=Cs ⟨w.set_,Fk w.disk_ names keeps,w.writer_,w.told_,w.sure_,w.falls_⟩
variable {wsetroo wsetver wsetstr wsetrol wdisroo wdisnex wwriver wwristr wwrirol wwribas wwrilin wwriend wwricod wsur wfal names:Int} {wdisnod:List Bb} {xwdisnod xwdisent xwdisold xwdisste xwwrioff xwtol xkeeps:List (List D)} {wdisent wdisold:List Aa} {wdisste wtol:List ByteArray} {wwrioff keeps:List Int} {wwriope o:Bool}
theorem Xk(hwdisnod:wdisnod.map Ce=xwdisnod)(hwdisent:wdisent.map Ac=xwdisent)(hwdisold:wdisold.map Ac=xwdisold)(hwdisste:wdisste.map cS=xwdisste)(hwwrioff:wwrioff.map cI=xwwrioff)(hwtol:wtol.map cS=xwtol)(hkeeps:keeps.map cI=xkeeps)(am:Xbf (⟨wdisnod,wdisent,wdisold,wdisste,wdisroo,wdisnex⟩:Ad))(hkl:keeps.length≤1000000000)(hr:Db (⟨⟨wsetroo,wsetver,wsetstr,wsetrol⟩,⟨wdisnod,wdisent,wdisold,wdisste,wdisroo,wdisnex⟩,⟨wwriver,wwristr,wwrirol,wwribas,wwrilin,wwrioff,wwriend,wwriope,wwricod⟩,wtol,wsur,wfal⟩:C6) names keeps=o):Fn Tryz.prog 29 [.agg [I wsetroo,I wsetver,I wsetstr,I wsetrol,.d (.row 3 xwdisnod),.d (.row 2 xwdisent),.d (.row 2 xwdisold),.d (.row 1 xwdisste),I wdisroo,I wdisnex,I wwriver,I wwristr,I wwrirol,I wwribas,I wwrilin,.d (.row 1 xwwrioff),I wwriend,B wwriope,I wwricod,.d (.row 1 xwtol),I wsur,I wfal],I names,.d (.row 1 xkeeps)] [] ⟨B o,[],[]⟩:=by
 refine Fn.go XaZ Tryz.func29 fun P hP Q hQ=>?_
 conv=>cbv
 rcases ai:Fk (⟨wdisnod,wdisent,wdisold,wdisste,wdisroo,wdisnex⟩:Ad) names keeps with⟨ae,af,ag,ah,aj,ak⟩
 generalize aa:ae.map Ce=an
 generalize ab:af.map Ac=ao
 generalize ac:ag.map Ac=ap
 generalize ad:ah.map cS=aq
 refine .dd hP (Xe2 hwdisnod hwdisent hwdisold hwdisste hkeeps am hkl ai aa ab ac ad) ?_
 conv=>cbv
 have hm:=(X4 (d:=(⟨wdisnod,wdisent,wdisold,wdisste,wdisroo,wdisnex⟩:Ad)) (n:=names) (keeps:=keeps) am).1
 rw[ai]at hm
 generalize al:Cs (⟨⟨wsetroo,wsetver,wsetstr,wsetrol⟩,⟨ae,af,ag,ah,aj,ak⟩,⟨wwriver,wwristr,wwrirol,wwribas,wwrilin,wwrioff,wwriend,wwriope,wwricod⟩,wtol,wsur,wfal⟩:C6)=r2
 refine .dd hP (Zu aa ab ac ad hwwrioff hwtol hm.1 al) ?_
 cases r2
 conv=>cbv
 have e:false=Db (⟨⟨wsetroo,wsetver,wsetstr,wsetrol⟩,⟨wdisnod,wdisent,wdisold,wdisste,wdisroo,wdisnex⟩,⟨wwriver,wwristr,wwrirol,wwribas,wwrilin,wwrioff,wwriend,wwriope,wwricod⟩,wtol,wsur,wfal⟩:C6) names keeps:=(by unfold Db;simp only[];rw[ai];exact al.symm)
 rw[hr]at e
 subst e
 exact hQ _ _ (.b rfl rfl)
 conv=>cbv
 have e:true=Db (⟨⟨wsetroo,wsetver,wsetstr,wsetrol⟩,⟨wdisnod,wdisent,wdisold,wdisste,wdisroo,wdisnex⟩,⟨wwriver,wwristr,wwrirol,wwribas,wwrilin,wwrioff,wwriend,wwriope,wwricod⟩,wtol,wsur,wfal⟩:C6) names keeps:=(by unfold Db;simp only[];rw[ai];exact al.symm)
 rw[hr]at e
 subst e
 exact hQ _ _ (.b rfl rfl)
theorem Xy(hwdisnod:wdisnod.map Ce=xwdisnod)(hwdisent:wdisent.map Ac=xwdisent)(hwdisold:wdisold.map Ac=xwdisold)(hwdisste:wdisste.map cS=xwdisste)(hwwrioff:wwrioff.map cI=xwwrioff)(hwtol:wtol.map cS=xwtol)(hkeeps:keeps.map cI=xkeeps)(am:Xbf (⟨wdisnod,wdisent,wdisold,wdisste,wdisroo,wdisnex⟩:Ad))(hkl:keeps.length≤1000000000)(hr:Db (⟨⟨wsetroo,wsetver,wsetstr,wsetrol⟩,⟨wdisnod,wdisent,wdisold,wdisste,wdisroo,wdisnex⟩,⟨wwriver,wwristr,wwrirol,wwribas,wwrilin,wwrioff,wwriend,wwriope,wwricod⟩,wtol,wsur,wfal⟩:C6) names keeps=o):Fn Tryz.prog 27 [.agg [I wsetroo,I wsetver,I wsetstr,I wsetrol,.d (.row 3 xwdisnod),.d (.row 2 xwdisent),.d (.row 2 xwdisold),.d (.row 1 xwdisste),I wdisroo,I wdisnex,I wwriver,I wwristr,I wwrirol,I wwribas,I wwrilin,.d (.row 1 xwwrioff),I wwriend,B wwriope,I wwricod,.d (.row 1 xwtol),I wsur,I wfal],I names,.d (.row 1 xkeeps)] [] ⟨B o,[],[]⟩:=by
 refine Fn.go XaZ Tryz.func27 fun P hP Q hQ=>?_
 conv=>cbv
 rcases ai:Fk (⟨wdisnod,wdisent,wdisold,wdisste,wdisroo,wdisnex⟩:Ad) names keeps with⟨ae,af,ag,ah,aj,ak⟩
 generalize aa:ae.map Ce=an
 generalize ab:af.map Ac=ao
 generalize ac:ag.map Ac=ap
 generalize ad:ah.map cS=aq
 refine .dd hP (Xd4 hwdisnod hwdisent hwdisold hwdisste hkeeps am hkl ai aa ab ac ad) ?_
 conv=>cbv
 have hm:=(X4 (d:=(⟨wdisnod,wdisent,wdisold,wdisste,wdisroo,wdisnex⟩:Ad)) (n:=names) (keeps:=keeps) am).1
 rw[ai]at hm
 generalize al:Cs (⟨⟨wsetroo,wsetver,wsetstr,wsetrol⟩,⟨ae,af,ag,ah,aj,ak⟩,⟨wwriver,wwristr,wwrirol,wwribas,wwrilin,wwrioff,wwriend,wwriope,wwricod⟩,wtol,wsur,wfal⟩:C6)=r2
 refine .dd hP (Zh aa ab ac ad hwwrioff hwtol hm.1 al) ?_
 cases r2
 conv=>cbv
 have e:false=Db (⟨⟨wsetroo,wsetver,wsetstr,wsetrol⟩,⟨wdisnod,wdisent,wdisold,wdisste,wdisroo,wdisnex⟩,⟨wwriver,wwristr,wwrirol,wwribas,wwrilin,wwrioff,wwriend,wwriope,wwricod⟩,wtol,wsur,wfal⟩:C6) names keeps:=(by unfold Db;simp only[];rw[ai];exact al.symm)
 rw[hr]at e
 subst e
 exact hQ _ _ (.b rfl rfl)
 conv=>cbv
 have e:true=Db (⟨⟨wsetroo,wsetver,wsetstr,wsetrol⟩,⟨wdisnod,wdisent,wdisold,wdisste,wdisroo,wdisnex⟩,⟨wwriver,wwristr,wwrirol,wwribas,wwrilin,wwrioff,wwriend,wwriope,wwricod⟩,wtol,wsur,wfal⟩:C6) names keeps:=(by unfold Db;simp only[];rw[ai];exact al.symm)
 rw[hr]at e
 subst e
 exact hQ _ _ (.b rfl rfl)
end
section
open Go Go.Proofs
set_option maxRecDepth 20000
set_option maxHeartbeats 4000000
end
section
open Go Go.Proofs
set_option maxRecDepth 20000
set_option maxHeartbeats 4000000
end
section
open Go Go.Proofs
set_option maxRecDepth 20000
set_option maxHeartbeats 4000000
def Xd5(w:Do):Cx:=⟨w.version_,w.stride_,w.base_,w.link_⟩
def begC(d:Ad)(w:Do):Int:=if(F0 d (Bc w.base_)).2≠0 then 4 else if(J0 (F0 d (Bc w.base_)).1 (Bc w.base_) (Cm (Xd5 w))).2≠0 then 2 else 0
def begD(d:Ad)(w:Do):Ad:=if(F0 d (Bc w.base_)).2≠0 then(F0 d (Bc w.base_)).1 else if(J0 (F0 d (Bc w.base_)).1 (Bc w.base_) (Cm (Xd5 w))).2≠0 then(J0 (F0 d (Bc w.base_)).1 (Bc w.base_) (Cm (Xd5 w))).1
 else Xbj (XdL (J0 (F0 d (Bc w.base_)).1 (Bc w.base_) (Cm (Xd5 w))).1 (Bc w.base_)).1
def begW(d:Ad)(w:Do):Do:=if begC d w=0 then⟨w.version_,w.stride_,w.roll_,w.base_,w.link_,[],24,true,w.code_⟩else⟨w.version_,w.stride_,w.roll_,w.base_,w.link_,w.offsets_,w.end_,w.open_,begC d w⟩
def appB(s:Ad×Do):Ad×Do:=if s.2.code_=0∧s.2.open_=false then(begD s.1 s.2,begW s.1 s.2)else s
end
section
open Go Go.Proofs
set_option maxRecDepth 20000
set_option maxHeartbeats 4000000
end
end Go.Proofs.YtgdmjbcllgmepaaGreatDoor.Ab
