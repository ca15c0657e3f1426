/- What functions of the program come to, for all arguments in the given bounds. -/
import Derived.Test.YtgdmjbcllgmepaaGreatDoorSwch06d
import Derived.Test.YtgdmjbcllgmepaaGreatDoorSwZ9
set_option linter.unusedVariables false
set_option linter.unusedSimpArgs false
namespace Go.Proofs.YtgdmjbcllgmepaaGreatDoor.Ab
section
open Go Go.Proofs
set_option maxRecDepth 20000
set_option maxHeartbeats 4000000
def Wt:List (Nat×TyRow):=[ty3,ty9,Xcl,Xfy,XfP,Xdv,Xco,XbX,Z6]
theorem Wz:Ce Tryz.prog Wt:=Ce.of (by kernel_rfl)
theorem G0:Setup Tryz.prog Wt:=⟨Wz,mixed⟩
def Dk(n:Bb)(keeps:List Int):Int:=if keeps.length=0 then n.sure_ else n.sure_+Cc (keeps.getD (n.id_%(keeps.length:Int)).toNat 0) 0 ((n.text_.size:Int) - n.sure_)
def Fu(e:Aa)(n:Bb):Bool:=decide (e.id_=n.id_)
def Wo(keeps:List Int)(n:Bb):Bb:=⟨n.id_,n.text_.extract 0 (Dk n keeps).toNat,((n.text_.extract 0 (Dk n keeps).toNat).size:Int)⟩
def E3(d:Ad)(names:Int)(keeps:List Int):Ad:=if B0 d=false then d else
 ⟨(d.nodes_.filter fun n=>Jy (Ch d.old_ d.steps_ names).1 n.id_).map (Wo keeps),(Ch d.old_ d.steps_ names).1,(Ch d.old_ d.steps_ names).1,[],d.room_,d.next_⟩
theorem Rf{a b:Int}(h:0≤b):0≤Cc a 0 b∧Cc a 0 b≤b:=by
 unfold Cc
 split<;>(try split)<;>(try split)<;>omega
theorem Xg5{n:Bb}{keeps:List Int}(h0:0≤n.sure_)(h1:n.sure_≤n.text_.size):0≤Dk n keeps∧Dk n keeps≤n.text_.size:=by
 have h2:=Rf (a:=keeps.getD (n.id_%(keeps.length:Int)).toNat 0) (b:=(n.text_.size:Int) - n.sure_) (by omega)
 unfold Dk
 split<;>omega
theorem XgD{α:Type}{p:α→Bool}{l:List α}:l.any p=decide (0≤S8 p l):=by
 cases h:l.any p with
 |true=>
  obtain⟨x,hx,hp⟩:=List.any_eq_true.1 h
  symm
  rw[decide_eq_true_eq]
  unfold S8
  rw[if_pos (List.findIdx_lt_length_of_exists ⟨x,hx,hp⟩)]
  omega
 |false=>
  symm
  rw[decide_eq_false_iff_not]
  intro h0
  obtain⟨hi,hp⟩:=Xam (rfl:S8 p l=_) h0
  have:=List.any_eq_true.2 ⟨_,List.getElem_mem hi,hp⟩
  rw[h]at this
  cases this
theorem Zl{d:Ad}(h:B0 d=true)(h2:W4 d){i:Nat}(hi:i<d.nodes_.length):1≤d.nodes_[i].id_∧0≤d.nodes_[i].sure_∧d.nodes_[i].sure_≤d.nodes_[i].text_.size∧d.nodes_[i].text_.size≤1000000000:=by
 have h1:=(diskOk_iff.1 h).2.2.1
 unfold Dl at h1
 rw[Bool.and_eq_true]at h1
 have h3:=List.all_eq_true.1 h1.1 i (List.mem_range.2 hi)
 unfold Dq at h3
 rw[decide_eq_true_eq,XcL hi rfl]at h3
 exact⟨h3.2.1.1,h3.2.2.1,h3.2.2.2,h2.1.2.1 _ (List.getElem_mem hi)⟩
theorem Xfx:∀(l:List ByteArray) (now:List Aa),(Gz now l).1.length≤now.length+l.length
 |[],_=>Nat.le_refl _
 |s::l,now=>by
  obtain⟨e,b,hy⟩:∃e b,As now s=(e,b):=⟨_,_,rfl⟩
  have h1:=M4 hy
  have h2:=Xfx l e
  unfold Gz
  rw[hy]
  split
  ·exact Nat.zero_le _
  ·rw[List.length_cons]
   show(Gz e l).1.length≤_
   omega
theorem Xe7(old:List Aa)(steps:List ByteArray)(n:Int):(Ch old steps n).1.length≤old.length+steps.length:=by
 have h1:=Xfx (steps.take (Cc n 0 steps.length).toNat) old
 have h2:(steps.take (Cc n 0 steps.length).toNat).length≤steps.length:=by rw[List.length_take];omega
 unfold Ch
 omega
theorem Xdz{d:Ad}{n:Int}(h:B0 d=true):Di d.old_ d.steps_ n=Ch d.old_ d.steps_ n:=(Xbi (Sh _ (Xeq h).1)).1
theorem Qk{α:Type}{f:α→α}{l:List α}{i:Nat}(h:i<l.length)(h2:i<((l.take i).map f++l.drop i).length):((l.take i).map f++l.drop i)[i]=l[i]:=by
 rw[List.getElem_append_right (by rw[List.length_map,List.length_take];omega)]
 simp only[List.length_map,List.length_take,List.getElem_drop]
 congr 1
 omega
theorem Xdi{α:Type}{f:α→α}{l:List α}{i:Nat}(h:i<l.length):((l.take i).map f++l.drop i).set i (f l[i])=(l.take (i+1)).map f++l.drop (i+1):=by
 rw[List.set_append_right _ _ (by rw[List.length_map,List.length_take];omega),List.length_map,List.length_take,show i - min i l.length=0 by omega,List.drop_eq_getElem_cons h,List.set_cons_zero,List.take_succ_eq_append_getElem h,List.map_append,List.append_assoc]
 rfl
theorem Xgx{α:Type}{f:α→α}{l:List α}{i:Nat}:((l.take i).map f++l.drop i).length=l.length:=by
 rw[List.length_append,List.length_map,List.length_take,List.length_drop]
 omega
theorem Xu{nodes:List Bb}{l:List Aa}{keeps:List Int}{r x:Int}:Jg ⟨nodes.map (Wo keeps),l,l,[],r,x⟩=⟨(nodes.filter fun n=>Jy l n.id_).map (Wo keeps),l,l,[],r,x⟩:=by
 unfold Jg
 dsimp only
 rw[List.filter_map]
 have:nodes.filter ((fun x=>Xcg l [] x.id_)∘Wo keeps)=nodes.filter fun n=>Jy l n.id_:=by
  refine List.filter_congr fun n _=>?_
  show(List.any [0] fun k=>Jy (B5 l (List.take k [])).1 n.id_)=_
  simp[B5]
 rw[this]
theorem T0{d:Ad}:∀{l:List ByteArray} {now:List Aa} (k:Nat),Dr d now l=true→A4 d (Gz now (l.take k)).1=true
 |[],now,k,h=>by
  rw[List.take_nil]
  unfold Dr at h
  rw[Bool.and_eq_true]at h
  exact h.1
 |s::ss,now,0,h=>by
  unfold Dr at h
  rw[Bool.and_eq_true,Bool.and_eq_true]at h
  exact h.1.1
 |s::ss,now,k+1,h=>by
  unfold Dr at h
  rw[Bool.and_eq_true,Bool.and_eq_true]at h
  rw[List.take_succ_cons,Lh h.1.2]
  exact T0 k h.2
theorem V8{d:Ad}(h:B0 d=true)(n:Int):A4 d (Ch d.old_ d.steps_ n).1=true:=T0 _ (diskOk_iff.1 h).2.2.2.2
theorem Tt{d:Ad}(h:B0 d=true)(n:Int):(Ch d.old_ d.steps_ n).1.length≤16:=Vi (V8 h n)
theorem Xeo{d:Ad}{l:List Aa}(h:A4 d l=true):okL l:=by
 intro e he
 obtain⟨i,hi,rfl⟩:=List.getElem_of_mem he
 have h1:=Xcv h hi
 unfold Ek at h1
 rw[Yj hi rfl,Bool.and_eq_true,Bool.and_eq_true]at h1
 have:=Zh h1.1.2
 omega
theorem Yg{d:Ad}{n:Int}{keeps:List Int}(h:W4 d):W4 (E3 d n keeps)∧(E3 d n keeps).steps_.length≤d.steps_.length:=by
 unfold E3
 split
 ·exact⟨h,Nat.le_refl _⟩
 ·rename_i hr
  have hr:B0 d=true:=by simpa using hr
  have h1:=Tt hr n
  have h2:=Xeo (V8 hr n)
  refine⟨⟨⟨?_,?_,by show(Ch _ _ _).1.length≤_;omega,h2,by show(Ch _ _ _).1.length≤_;omega,Nat.zero_le _⟩,h2,fun _ hs=>by cases hs⟩,Nat.zero_le _⟩
  ·show(List.map _ _).length≤_
   rw[List.length_map]
   exact Nat.le_trans (List.length_filter_le _ _) h.1.1
  ·intro x hx
   obtain⟨y,hy,rfl⟩:=List.mem_map.1 hx
   have:=h.1.2.1 y (List.mem_filter.1 hy).1
   show(y.text_.extract 0 _).size≤_
   rw[ByteArray.size_extract]
   omega
theorem XaG{t:ByteArray}{k:Int}(h0:0≤k)(h1:k≤t.size):((t.extract 0 k.toNat).size:Int)=k:=by
 rw[ByteArray.size_extract]
 omega
variable {nid nsur Bj Bh names oroo onex:Int} {ntex:ByteArray} {keeps:List Int} {xkeeps xl Cs Cx Cw Cy Yq Zo Ym Z0:List (List D)} {o:Bool} {l Bf Bd oent oold:List Aa} {A6 onod:List Bb} {A8 oste:List ByteArray}
theorem XbB{o:Int}(hkeeps:keeps.map cI=xkeeps)(ai:1≤nid)(aj:0≤nsur)(ak:nsur≤ntex.size)(al:ntex.size≤1000000000)(am:keeps.length≤1000000000)(hr:Dk (⟨nid,ntex,nsur⟩:Bb) keeps=o):Fn Tryz.prog 168 [.agg [I nid,S ntex,I nsur],.ptr 0 0 0] [.box 29 [.d (.row 1 xkeeps)]] ⟨I o,[],[]⟩:=by
 refine Fn.goR G0 Tryz.func168 fun P hP Q hQ=>?_
 conv=>cbv
 refine .go hkeeps fun v1 an=>?_
 conv=>cbv
 refine .eql (fun h2=>?_) fun h2=>?_
 conv=>cbv
 have e:nsur=Dk (⟨nid,ntex,nsur⟩:Bb) keeps:=(by unfold Dk;rw[if_pos (by omega)])
 rw[hr]at e
 subst e
 exact hQ _ _ (.of [] (.inl rfl) rfl rfl rfl rfl)
 conv=>cbv
 refine .go hkeeps fun v3 ac=>?_
 conv=>cbv
 refine .rem fun v4 ad=>?_
 conv=>cbv
 have ao:=Int.emod_nonneg nid (show v3≠0 by omega)
 have ap:=Int.emod_lt_of_pos nid (show 0<v3 by omega)
 refine .go v4.toNat hkeeps fun ab e5 ae=>?_
 conv=>cbv
 refine .go fun v6 af=>?_
 conv=>cbv
 refine .sub fun v7 ag=>?_
 conv=>cbv
 generalize aa:Cc e5 0 v7=r8
 refine .dd hP (Xk aa) ?_
 conv=>cbv
 have hbr:=Rf (a:=e5) (b:=v7) (by omega)
 rw[aa]at hbr
 refine .add fun v9 ah=>?_
 conv=>cbv
 have e:v9=Dk (⟨nid,ntex,nsur⟩:Bb) keeps:=(by unfold Dk;rw[if_neg (by omega)];dsimp only;rw[show keeps.getD (nid%(keeps.length:Int)).toNat 0=e5 by rw[←ac,←ad,ae,gD ab],←af,←ag,aa,ah])
 rw[hr]at e
 subst e
 exact hQ _ _ (.of [] (.inl rfl) rfl rfl rfl rfl)
theorem Rt{enam:ByteArray}{eid:Int}(hr:Fu (⟨enam,eid⟩:Aa) (⟨nid,ntex,nsur⟩:Bb)=o):Fn Tryz.prog 247 [.agg [S enam,I eid],.ptr 0 0 0] [.box 129 [I nid,S ntex,I nsur]] ⟨B o,[],[]⟩:=by
 refine Fn.goR G0 Tryz.func247 fun P hP Q hQ=>?_
 conv=>cbv
 refine .eql (fun h1=>?_) fun h1=>?_
 conv=>cbv
 have e:true=Fu (⟨enam,eid⟩:Aa) (⟨nid,ntex,nsur⟩:Bb):=(by unfold Fu;exact(decide_eq_true h1).symm)
 rw[hr]at e
 subst e
 exact hQ _ _ (.of [] (.inl rfl) rfl rfl rfl rfl)
 conv=>cbv
 have e:false=Fu (⟨enam,eid⟩:Aa) (⟨nid,ntex,nsur⟩:Bb):=(by unfold Fu;exact(decide_eq_false h1).symm)
 rw[hr]at e
 subst e
 exact hQ _ _ (.of [] (.inl rfl) rfl rfl rfl rfl)
def D0(l:List Aa)(n:Bb):Int:=S8 (fun x=>Fu x n) l
theorem L9{o:Int}(hl:l.map Ac=xl)(hn:l.length<2^40)(hr:D0 l (⟨nid,ntex,nsur⟩:Bb)=o):Fn Tryz.prog 301 [.d (.row 2 xl),.clo 247 [.ptr 0 0 0]] [.box 129 [I nid,S ntex,I nsur]] ⟨I o,[],[]⟩:=by
 refine Fn.goR G0 Tryz.func301 fun P hP Q hQ=>?_
 conv=>cbv
 refine .go hl fun v1 af=>?_
 conv=>cbv
 refine LoopW.lp (κ:=Int) G0 hP [] [0,1,7] (fun i8=>[(8,I i8)]) (fun i8=>[])
  (fun i8=>0≤i8∧i8≤l.length∧∀(j:Nat) (hj:j<l.length),j<i8.toNat→Fu l[j] (⟨nid,ntex,nsur⟩:Bb)=false)
  (fun i8=>(l.length - i8).toNat) (0) ⟨by omega,by omega,fun j _ h=>by simp at h⟩ ⟨rfl,trivial⟩ rfl ?_
 rintro i8 J ⟨h0,h1,hb⟩ hJ
 conv=>cbv
 refine .lss (fun h2=>?_) fun h2=>?_
 conv=>cbv
 refine .go i8.toNat hl fun ae ⟨aa,ac⟩ ad=>?_
 conv=>cbv
 generalize ab:Fu (⟨aa,ac⟩:Aa) (⟨nid,ntex,nsur⟩:Bb)=r4
 refine .bx [0] [] hP (Rt ab) rfl rfl rfl rfl ?_
 cases r4
 conv=>cbv
 refine .add fun v5 ag=>?_
 conv=>cbv
 exact .go [] (v5) (hJ _ ⟨by omega,by omega,fun j hj h=>if e:j=i8.toNat then by subst e;rw[←ad];exact ab else hb j hj (by omega)⟩ mlt)
 conv=>cbv
 have e:i8=D0 l (⟨nid,ntex,nsur⟩:Bb):=(by exact Mw (p:=fun x=>Fu x (⟨nid,ntex,nsur⟩:Bb)) h0 (by omega) (by rw[←ad];exact ab) hb)
 rw[hr]at e
 subst e
 exact hQ _ _ (.of [] (.inl rfl) rfl rfl rfl rfl)
 conv=>cbv
 have e:(-1)=D0 l (⟨nid,ntex,nsur⟩:Bb):=(by exact If (p:=fun x=>Fu x (⟨nid,ntex,nsur⟩:Bb)) fun j hj=>hb j hj (by omega))
 rw[hr]at e
 subst e
 exact hQ _ _ (.of [] (.inl rfl) rfl rfl rfl rfl)
def Df(l:List Aa)(n:Bb):Bool:=Jy l n.id_
theorem P3{l:List Aa}{n:Bb}:Df l n=decide (0≤D0 l n):=XgD (p:=fun e:Aa=>decide (e.id_=n.id_))
theorem J5(hl:l.map Ac=xl)(hn:l.length<2^40)(hr:Df l (⟨nid,ntex,nsur⟩:Bb)=o):Fn Tryz.prog 246 [.d (.row 2 xl),.clo 247 [.ptr 0 0 0]] [.box 129 [I nid,S ntex,I nsur]] ⟨B o,[],[]⟩:=by
 refine Fn.goR G0 Tryz.func246 fun P hP Q hQ=>?_
 conv=>cbv
 generalize aa:D0 l (⟨nid,ntex,nsur⟩:Bb)=r1
 refine .bx [0] [] hP (L9 hl hn aa) rfl rfl rfl rfl ?_
 conv=>cbv
 refine .geq (fun h2=>?_) fun h2=>?_
 conv=>cbv
 have e:true=Df l (⟨nid,ntex,nsur⟩:Bb):=(by rw[P3,aa];exact(decide_eq_true h2).symm)
 rw[hr]at e
 subst e
 exact hQ _ _ (.of [] (.inl rfl) rfl rfl rfl rfl)
 conv=>cbv
 have e:false=Df l (⟨nid,ntex,nsur⟩:Bb):=(by rw[P3,aa];exact(decide_eq_false (by omega)).symm)
 rw[hr]at e
 subst e
 exact hQ _ _ (.of [] (.inl rfl) rfl rfl rfl rfl)
theorem Oo{o:List Bb}{xn:List (List D)}{nn:Nat}(B9:A6.map Ci=Cs)(Cu:Bf.map Ac=Cx)(Ct:Bd.map Ac=Cw)(Cm:A8.map cS=Cy)(hkeeps:keeps.map cI=xkeeps)(ai:W4 (⟨A6,Bf,Bd,A8,Bj,Bh⟩:Ad))(hri:B0 (⟨A6,Bf,Bd,A8,Bj,Bh⟩:Ad)=true)(hkl:keeps.length≤1000000000)(hl:(Ch Bd A8 names).1=l)(hxl:l.map Ac=xl)(ho:(A6.filter fun n=>Jy l n.id_).map (Wo keeps)=o)(hxn:o.map Ci=xn)(hnn:nn=o.length):Fn Tryz.prog 167 [.agg [.d (.row 3 Cs),.d (.row 2 Cx),.d (.row 2 Cw),.d (.row 1 Cy),I Bj,I Bh],I names,.clo 168 [.ptr 0 0 0]] [.box 29 [.d (.row 1 xkeeps)]] ⟨.agg [.ref 1 0 nn,.d (.row 2 xl),.d (.row 2 xl),.ref 2 0 0,I Bj,I Bh],[.row 3 false xn,.row 1 false []],[]⟩:=by
 refine Fn.goR G0 Tryz.func167 fun P hP Q hQ=>?_
 conv=>cbv
 rcases an:Ch Bd A8 names with⟨ag,a7⟩
 generalize ah:ag.map Ac=ak
 refine .dd hP (Z7 Ct Cm ai.1.2.2.2.2.1 ai.1.2.2.2.2.2 ai.2.2 an ah) ?_
 conv=>cbv
 have ar:=Xe7 Bd A8 names
 rw[an]at ar
 simp only[]at ar
 have a8:Bd.length≤1000000000:=ai.1.2.2.2.2.1
 have a9:A8.length≤1000000000:=ai.1.2.2.2.2.2
 have ba:A6.length≤1000000000:=ai.1.1
 generalize au:E9 ag=l2
 generalize aw:l2.map Ac=ax
 refine .dd hP (Cp ah (by omega) au aw) ?_
 conv=>cbv
 refine .go B9 fun v3 bb=>?_
 conv=>cbv
 refine LoopW.lp (κ:=Int×(List (List D))×Nat) G0 hP [7] [2,6,7,9,31,32] (fun(aa,ab,ac)=>[(33,I aa)]) (fun(aa,ab,ac)=>[(15,.box 40 [.ref 16 0 ac,.d (.row 2 ak),.d (.row 2 ax),.ref 10 0 0,I Bj,I Bh]),(16,.row 3 false ab)])
  (fun(aa,ab,ac)=>∃(aj:List Bb),aj.map Ci=ab∧ac=aj.length∧0≤aa∧aa≤A6.length∧aj=((A6.take aa.toNat).filter (fun n=>Jy ag n.id_)).map (Wo keeps)∧aj.length≤aa)
  (fun(aa,ab,ac)=>(A6.length - aa).toNat) (0,[],0) ⟨[],rfl,rfl,by omega,by omega,rfl,by simp⟩ ⟨rfl,trivial⟩ rfl ?_
 rintro⟨aa,ab,ac⟩ J ⟨aj,al,a1,h0,h1,hx,hxl_⟩ hJ
 conv=>cbv
 refine .lss (fun h4=>?_) fun h4=>?_
 conv=>cbv
 refine .go aa.toNat B9 fun am ⟨ad,ae,af⟩ ao=>?_
 conv=>cbv
 have hnf:=Zl hri ai am
 simp only[]at hnf
 rw[←ao]at hnf
 simp only[]at hnf
 generalize ap:Df ag (⟨ad,ae,af⟩:Bb)=r6
 refine .bx [17] [] hP (J5 ah (by omega) ap) rfl rfl rfl rfl ?_
 cases r6
 conv=>cbv
 refine .add fun v7 bc=>?_
 conv=>cbv
 have hha:Jy ag ad=false:=ap
 exact .go [16] (v7,ab,ac) (hJ _ ⟨_,al,Oq,by omega,by omega,by rw[show v7.toNat=aa.toNat+1 by omega,F2 am,←ao];simp only[];rw[hha,hx];simp,by omega⟩ mlt)
 conv=>cbv
 generalize aq:Dk (⟨ad,ae,af⟩:Bb) keeps=r7
 refine .bx [0] [] hP (XbB hkeeps (by omega) (by omega) (by omega) (by omega) hkl aq) rfl rfl rfl rfl ?_
 conv=>cbv
 have hkb:=Xg5 (n:=⟨ad,ae,af⟩) (keeps:=keeps) hnf.2.1 hnf.2.2.1
 rw[aq]at hkb
 simp only[]at hkb
 refine .hi fun s8 a2=>?_
 conv=>cbv
 refine .go fun v9 a3=>?_
 conv=>cbv
 refine .one (⟨ad,s8,v9⟩:Bb) al rfl fun ay a4 a5 az=>?_
 conv=>cbv
 refine .add fun a0 a6=>?_
 conv=>cbv
 have hha:Jy ag ad=true:=ap
 have hcu:Wo keeps ⟨ad,ae,af⟩=⟨ad,s8,v9⟩:=by unfold Wo;rw[aq,←a2,←a3]
 exact .go [19] (a0,a4,ay) (hJ _ ⟨_,az,Oq,by omega,by omega,by rw[show a0.toNat=aa.toNat+1 by omega,F2 am,←ao];simp only[];rw[hha,if_pos rfl,List.map_append,←hx,←hcu];rfl,by rw[List.length_append,List.length_singleton];omega⟩ mlt)
 conv=>cbv
 obtain rfl:ag=l:=by rw[←hl,an]
 obtain rfl:ak=xl:=by rw[←ah,hxl]
 have e2:l2=ag:=au.symm
 subst e2
 obtain rfl:ax=ak:=by rw[←aw,ah]
 obtain rfl:aj=o:=by rw[hx,←ho,List.take_of_length_le (by omega)]
 obtain rfl:ab=xn:=by rw[←al,hxn]
 obtain rfl:ac=nn:=by omega
 exact hQ _ _ (.of [16,10] (.inl rfl) rfl rfl rfl rfl)
theorem Xe2(B9:A6.map Ci=Cs)(Cu:Bf.map Ac=Cx)(Ct:Bd.map Ac=Cw)(Cm:A8.map cS=Cy)(hkeeps:keeps.map cI=xkeeps)(aa:W4 (⟨A6,Bf,Bd,A8,Bj,Bh⟩:Ad))(hkl:keeps.length≤1000000000)(hr:E3 (⟨A6,Bf,Bd,A8,Bj,Bh⟩:Ad) names keeps=⟨onod,oent,oold,oste,oroo,onex⟩)(Y8:onod.map Ci=Yq)(Yz:oent.map Ac=Zo)(Zv:oold.map Ac=Ym)(Xaa:oste.map cS=Z0):Fn Tryz.prog 82 [.agg [.d (.row 3 Cs),.d (.row 2 Cx),.d (.row 2 Cw),.d (.row 1 Cy),I Bj,I Bh],I names,.d (.row 1 xkeeps)] [] ⟨.agg [.d (.row 3 Yq),.d (.row 2 Zo),.d (.row 2 Ym),.d (.row 1 Z0),I oroo,I onex],[],[]⟩:=by
 refine Fn.go G0 Tryz.func82 fun P hP Q hQ=>?_
 conv=>cbv
 have ac:A6.length≤1000000000:=aa.1.1
 have ad:Bf.length≤1000000000:=aa.1.2.2.1
 have ae:Bd.length≤1000000000:=aa.1.2.2.2.2.1
 have af:A8.length≤1000000000:=aa.1.2.2.2.2.2
 generalize ab:B0 (⟨A6,Bf,Bd,A8,Bj,Bh⟩:Ad)=r1
 refine .dd hP (Xbp B9 Cu Ct Cm aa ab) ?_
 cases r1
 conv=>cbv
 refine .dd hP (Zc B9 Cu Ct Cm (by omega) (by omega) (by omega) (by omega)) ?_
 conv=>cbv
 have e:(⟨A6,Bf,Bd,A8,Bj,Bh⟩:Ad)=E3 (⟨A6,Bf,Bd,A8,Bj,Bh⟩:Ad) names keeps:=(by unfold E3;rw[if_pos ab])
 rw[hr]at e
 simp only[Ad.mk.injEq]at e
 obtain⟨rfl,rfl,rfl,rfl,rfl,rfl⟩:=e
 exact hQ _ _ (.one (.inl rfl) rfl (.agg (.d rfl (Mq B9 Y8) (.d rfl (Mq Cu Yz) (.d rfl (Mq Ct Zv) (.d rfl (Mq Cm Xaa) (.d rfl rfl (.d rfl rfl (.nil))))))) .nil))
 conv=>cbv
 generalize hfl:(Ch Bd A8 names).1=fl
 generalize hfx:fl.map Ac=xfl
 generalize hfo:(A6.filter fun n=>Jy fl n.id_).map (Wo keeps)=fo
 generalize hfy:fo.map Ci=xfo
 obtain⟨nfo,hfn⟩:∃m,m=fo.length:=⟨_,rfl⟩
 refine .bx [1] [] hP (Oo B9 Cu Ct Cm hkeeps aa ab hkl hfl hfx hfo hfy hfn) rfl rfl rfl rfl ?_
 conv=>cbv
 have e:(⟨fo,fl,fl,[],Bj,Bh⟩:Ad)=E3 (⟨A6,Bf,Bd,A8,Bj,Bh⟩:Ad) names keeps:=(by unfold E3;rw[if_neg (by rw[ab];decide)];dsimp only;rw[hfl,hfo])
 rw[hr]at e
 simp only[Ad.mk.injEq]at e
 obtain⟨rfl,rfl,rfl,rfl,rfl,rfl⟩:=e
 exact hQ _ _ (.one (.inl rfl) rfl (.agg (.ref rfl (Ir hfy) (XbO hfy Y8) (.d rfl (Mq hfx Yz) (.d rfl (Mq hfx Zv) (.ref rfl rfl (by rw[←Xaa];rfl) (.d rfl rfl (.d rfl rfl (.nil))))))) .nil))
theorem XeX(B9:A6.map Ci=Cs)(Cu:Bf.map Ac=Cx)(Ct:Bd.map Ac=Cw)(Cm:A8.map cS=Cy)(hkeeps:keeps.map cI=xkeeps)(ai:W4 (⟨A6,Bf,Bd,A8,Bj,Bh⟩:Ad))(hkl:keeps.length≤1000000000)(hr:E3 (⟨A6,Bf,Bd,A8,Bj,Bh⟩:Ad) names keeps=⟨onod,oent,oold,oste,oroo,onex⟩)(Y8:onod.map Ci=Yq)(Yz:oent.map Ac=Zo)(Zv:oold.map Ac=Ym)(Xaa:oste.map cS=Z0):Fn Tryz.prog 80 [.agg [.d (.row 3 Cs),.d (.row 2 Cx),.d (.row 2 Cw),.d (.row 1 Cy),I Bj,I Bh],I names,.d (.row 1 xkeeps)] [] ⟨.agg [.d (.row 3 Yq),.d (.row 2 Zo),.d (.row 2 Ym),.d (.row 1 Z0),I oroo,I onex],[],[]⟩:=by
 refine Fn.go G0 Tryz.func80 fun P hP Q hQ=>?_
 conv=>cbv
 have dc:A6.length≤1000000000:=ai.1.1
 have de:Bf.length≤1000000000:=ai.1.2.2.1
 have df:Bd.length≤1000000000:=ai.1.2.2.2.2.1
 have dg:A8.length≤1000000000:=ai.1.2.2.2.2.2
 obtain⟨n2,cn⟩:∃m,m=A6.length:=⟨_,rfl⟩
 obtain⟨n3,co⟩:∃m,m=Bf.length:=⟨_,rfl⟩
 obtain⟨n4,cp⟩:∃m,m=Bd.length:=⟨_,rfl⟩
 obtain⟨n5,cq⟩:∃m,m=A8.length:=⟨_,rfl⟩
 refine .ddN hP (Xd7 B9 Cu Ct Cm (by omega) (by omega) (by omega) (by omega) cn co cp cq) rfl ?_
 conv=>cbv
 generalize bc:B0 (⟨A6,Bf,Bd,A8,Bj,Bh⟩:Ad)=r6
 refine .lnt hP (Xbx B9 Cu Ct Cm ai bc) (.agg (.ref rfl (Ir B9) (.ref rfl (Ir Cu) (.ref rfl (Ir Ct) (.ref rfl (Ir Cm) (.d rfl (.d rfl .nil)))))) .nil) ?_
 cases r6
 conv=>cbv
 have e:(⟨A6,Bf,Bd,A8,Bj,Bh⟩:Ad)=E3 (⟨A6,Bf,Bd,A8,Bj,Bh⟩:Ad) names keeps:=(by unfold E3;rw[if_pos bc])
 rw[hr]at e
 simp only[Ad.mk.injEq]at e
 obtain⟨rfl,rfl,rfl,rfl,rfl,rfl⟩:=e
 exact hQ _ _ (.one (.inl rfl) rfl (.agg (.ref rfl (Ir B9) (XbO B9 Y8) (.ref rfl (Ir Cu) (XbO Cu Yz) (.ref rfl (Ir Ct) (XbO Ct Zv) (.ref rfl (Ir Cm) (XbO Cm Xaa) (.d rfl rfl (.d rfl rfl (.nil))))))) .nil))
 conv=>cbv
 rcases bd:Di Bd A8 names with⟨bl,dh⟩
 generalize a6:bl.map Ac=c8
 refine .lntD hP (Mt Ct Cm ai.1.2.2.2.2.1 ai.1.2.2.2.2.2 ai.2.2 bd a6) (.ref rfl (Ir Ct) (.ref rfl (Ir Cm) (.d rfl .nil))) ?_
 conv=>cbv
 have hri:=bc
 rw[Xdz (d:=(⟨A6,Bf,Bd,A8,Bj,Bh⟩:Ad)) (n:=names) hri]at bd
 have bm:=Tt (d:=(⟨A6,Bf,Bd,A8,Bj,Bh⟩:Ad)) hri names
 simp only[]at bm
 rw[bd]at bm
 simp only[]at bm
 refine .row0 a6 fun di z8 c9 bz=>?_
 conv=>cbv
 refine LoopW.lp (κ:=Int×(List (List D))) G0 hP [] [2,3,6] (fun(i9,a5)=>[(9,I i9)]) (fun(i9,a5)=>[(6,.row 3 false a5)])
  (fun(i9,a5)=>∃(w6:List Bb),w6.map Ci=a5∧0≤i9∧i9≤A6.length∧w6=(A6.take i9.toNat).map (Wo keeps)++A6.drop i9.toNat)
  (fun(i9,a5)=>(A6.length - i9).toNat) (0,Cs) ⟨A6,B9,by omega,by omega,rfl⟩ ⟨rfl,trivial⟩ rfl ?_
 rintro⟨i9,a5⟩ J ⟨w6,aj,h0,h1,hx⟩ hJ
 have hwl:w6.length=A6.length:=by rw[hx,Xgx]
 conv=>cbv
 refine .go fun v9 dj=>?_
 conv=>cbv
 refine .lss (fun h10=>?_) fun h10=>?_
 conv=>cbv
 refine .go i9.toNat fun dk b0 cr=>?_
 conv=>cbv
 refine .go aj fun ct ⟨au,ak,al⟩ b1=>?_
 conv=>cbv
 have af:i9.toNat<A6.length:=by omega
 have aw:(⟨au,ak,al⟩:Bb)=A6[i9.toNat]'af:=by subst b0;rw[b1];simp only[hx];exact Qk af _
 have hnf:=Zl hri ai af
 simp only[]at hnf
 rw[←aw]at hnf
 simp only[]at hnf
 refine .go hkeeps fun dl da=>?_
 conv=>cbv
 refine .gtr (fun h14=>?_) fun h14=>?_
 conv=>cbv
 refine .go i9.toNat fun cu ay bn=>?_
 conv=>cbv
 refine .go aj fun bo ⟨ab,ac,aa⟩ az=>?_
 conv=>cbv
 refine .go hkeeps fun b2 b3=>?_
 conv=>cbv
 have ah:(⟨ab,ac,aa⟩:Bb)=A6[i9.toNat]'af:=by subst ay;rw[az];simp only[hx];exact Qk af _
 obtain⟨rfl,rfl,rfl⟩:ab=au∧ac=ak∧aa=al:=by have:=ah.trans aw.symm;simpa using this
 refine .rem fun cv b4=>?_
 conv=>cbv
 have dm:=Int.emod_nonneg ab (show b2≠0 by omega)
 have dn:=Int.emod_lt_of_pos ab (show 0<b2 by omega)
 refine .go cv.toNat hkeeps fun bp bq b5=>?_
 conv=>cbv
 refine .go i9.toNat fun b6 a0 bs=>?_
 conv=>cbv
 refine .go aj fun cw ⟨ax,am,an⟩ b7=>?_
 conv=>cbv
 have a7:(⟨ax,am,an⟩:Bb)=A6[i9.toNat]'af:=by subst a0;rw[b7];simp only[hx];exact Qk af _
 obtain⟨rfl,rfl,rfl⟩:ax=ab∧am=ac∧an=aa:=by have:=a7.trans ah.symm;simpa using this
 refine .go fun bt bg=>?_
 conv=>cbv
 refine .sub fun b8 b9=>?_
 conv=>cbv
 generalize a8:Cc bq 0 b8=dp
 refine .dd hP (Ya a8) ?_
 conv=>cbv
 have hbr:=Rf (a:=bq) (b:=b8) (by omega)
 rw[a8]at hbr
 refine .add fun bu ca=>?_
 conv=>cbv
 refine .go i9.toNat fun dq bh cx=>?_
 conv=>cbv
 refine .go aj fun cy ⟨ad,ag,ae⟩ bi=>?_
 conv=>cbv
 have a9:(⟨ad,ag,ae⟩:Bb)=A6[i9.toNat]'af:=by subst bh;rw[bi];simp only[hx];exact Qk af _
 obtain⟨rfl,rfl,rfl⟩:ad=ax∧ag=am∧ae=an:=by have:=a9.trans a7.symm;simpa using this
 refine .hi fun bv cb=>?_
 conv=>cbv
 refine .go i9.toNat fun cz ba c0=>?_
 conv=>cbv
 refine .go (⟨ad,bv,ae⟩:Bb) aj (by omega) (by subst bh ba;rw[←bi];rfl) (show 1+1≤3 by decide) fun dr cc=>?_
 conv=>cbv
 refine .go i9.toNat fun c1 bj c2=>?_
 conv=>cbv
 refine .go (⟨ad,bv,bu⟩:Bb) cc (by rw[List.length_set];omega) (by subst ba bj;rw[List.getElem_set_self];rfl) (show 2+1≤3 by decide) fun c3 cd=>?_
 conv=>cbv
 refine .add fun ce db=>?_
 conv=>cbv
 have hke:Dk (⟨ad,ag,ae⟩:Bb) keeps=bu:=by unfold Dk;rw[if_neg (by omega)];dsimp only;rw[show keeps.getD (ad%(keeps.length:Int)).toNat 0=bq by rw[←b3,←b4,b5,gD bp],←bg,←b9,a8,ca]
 have hcu:Wo keeps (⟨ad,ag,ae⟩:Bb)=⟨ad,bv,bu⟩:=by unfold Wo;dsimp only;rw[hke,cb,XaG (by omega) (by omega)]
 exact .go [] (ce,c3) (hJ _ ⟨_,cd,by omega,by omega,by rw[show ce.toNat=i9.toNat+1 by omega,←Xdi af,←a9,hcu,←hx,show cz=i9.toNat from ba,show c1=i9.toNat from bj,List.set_set]⟩ mlt)
 conv=>cbv
 refine .go i9.toNat fun cu ay bn=>?_
 conv=>cbv
 refine .go aj fun bo ⟨ab,ac,aa⟩ az=>?_
 conv=>cbv
 have ah:(⟨ab,ac,aa⟩:Bb)=A6[i9.toNat]'af:=by subst ay;rw[az];simp only[hx];exact Qk af _
 obtain⟨rfl,rfl,rfl⟩:ab=au∧ac=ak∧aa=al:=by have:=ah.trans aw.symm;simpa using this
 refine .hi fun bw cf=>?_
 conv=>cbv
 refine .go i9.toNat fun c4 bb c5=>?_
 conv=>cbv
 refine .go (⟨ab,bw,aa⟩:Bb) aj (by omega) (by subst ay bb;rw[←az];rfl) (show 1+1≤3 by decide) fun ds cg=>?_
 conv=>cbv
 refine .go i9.toNat fun b6 a0 bs=>?_
 conv=>cbv
 refine .go (⟨ab,bw,aa⟩:Bb) cg (by rw[List.length_set];omega) (by subst bb a0;rw[List.getElem_set_self];rfl) (show 2+1≤3 by decide) fun c7 ch=>?_
 conv=>cbv
 refine .add fun bt bg=>?_
 conv=>cbv
 have hke:Dk (⟨ab,ac,aa⟩:Bb) keeps=aa:=by unfold Dk;rw[if_pos (by omega)]
 have hcu:Wo keeps (⟨ab,ac,aa⟩:Bb)=⟨ab,bw,aa⟩:=by unfold Wo;dsimp only;rw[hke,cf,XaG (by omega) (by omega)]
 exact .go [] (bt,c7) (hJ _ ⟨_,ch,by omega,by omega,by rw[show bt.toNat=i9.toNat+1 by omega,←Xdi af,←ah,hcu,←hx,show c4=i9.toNat from bb,show b6=i9.toNat from a0,List.set_set]⟩ mlt)
 conv=>cbv
 rcases bk:Jg (⟨w6,bl,bl,[],Bj,Bh⟩:Ad)with⟨a1,a2,a3,a4,be,bf⟩
 generalize ao:a1.map Ci=ci
 generalize ap:a2.map Ac=cj
 generalize aq:a3.map Ac=ck
 generalize ar:a4.map cS=cm
 refine .lntD hP (Xb2 aj bz a6 rfl (by omega) (by omega) (by simp) (fun _ h=>by cases h) bk ao ap aq ar) (.agg (.ref rfl (Ir aj) (.ref rfl (Ir bz) (.d rfl (.ref rfl rfl (.d rfl (.d rfl .nil)))))) .nil) ?_
 conv=>cbv
 have e:(⟨a1,a2,a3,a4,be,bf⟩:Ad)=E3 (⟨A6,Bf,Bd,A8,Bj,Bh⟩:Ad) names keeps:=(by unfold E3;rw[if_neg (by rw[bc];decide)];dsimp only;rw[bd,←bk,hx,List.take_of_length_le (by omega),List.drop_of_length_le (by omega),List.append_nil];exact Xu)
 rw[hr]at e
 simp only[Ad.mk.injEq]at e
 obtain⟨rfl,rfl,rfl,rfl,rfl,rfl⟩:=e
 exact hQ _ _ (.one (.inl rfl) rfl (.agg (.d rfl (Mq ao Y8) (.d rfl (Mq ap Yz) (.d rfl (Mq aq Zv) (.d rfl (Mq ar Xaa) (.d rfl rfl (.d rfl rfl (.nil))))))) .nil))
end
section
open Go Go.Proofs
set_option maxRecDepth 20000
set_option maxHeartbeats 4000000
def Wg:List (Nat×TyRow):=[ty3,Xcl,Xfy,Xco,ty43,ty106]
theorem X3:Ce Tryz.prog Wg:=Ce.of (by kernel_rfl)
theorem Xaq:Setup Tryz.prog Wg:=⟨X3,mixed⟩
def B3(w:Bl)(names:Int)(keeps:List Int):Bool:=Cg ⟨w.set_,E3 w.disk_ names keeps,w.writer_,w.told_,w.sure_,w.falls_⟩
variable {wsetroo wsetver wsetstr wsetrol wdisroo wdisnex wwriver wwristr wwrirol wwribas wwrilin wwriend wwricod wsur wfal names:Int} {wdisnod:List Bb} {xwdisnod xwdisent xwdisold xwdisste xwwrioff xwtol xkeeps:List (List D)} {wdisent wdisold:List Aa} {wdisste wtol:List ByteArray} {wwrioff keeps:List Int} {wwriope o:Bool}
theorem Ox(hwdisnod:wdisnod.map Ci=xwdisnod)(hwdisent:wdisent.map Ac=xwdisent)(hwdisold:wdisold.map Ac=xwdisold)(hwdisste:wdisste.map cS=xwdisste)(hwwrioff:wwrioff.map cI=xwwrioff)(hwtol:wtol.map cS=xwtol)(hkeeps:keeps.map cI=xkeeps)(am:W4 (⟨wdisnod,wdisent,wdisold,wdisste,wdisroo,wdisnex⟩:Ad))(hkl:keeps.length≤1000000000)(hr:B3 (⟨⟨wsetroo,wsetver,wsetstr,wsetrol⟩,⟨wdisnod,wdisent,wdisold,wdisste,wdisroo,wdisnex⟩,⟨wwriver,wwristr,wwrirol,wwribas,wwrilin,wwrioff,wwriend,wwriope,wwricod⟩,wtol,wsur,wfal⟩:Bl) names keeps=o):Fn Tryz.prog 29 [.agg [I wsetroo,I wsetver,I wsetstr,I wsetrol,.d (.row 3 xwdisnod),.d (.row 2 xwdisent),.d (.row 2 xwdisold),.d (.row 1 xwdisste),I wdisroo,I wdisnex,I wwriver,I wwristr,I wwrirol,I wwribas,I wwrilin,.d (.row 1 xwwrioff),I wwriend,B wwriope,I wwricod,.d (.row 1 xwtol),I wsur,I wfal],I names,.d (.row 1 xkeeps)] [] ⟨B o,[],[]⟩:=by
 refine Fn.go Xaq Tryz.func29 fun P hP Q hQ=>?_
 conv=>cbv
 rcases ai:E3 (⟨wdisnod,wdisent,wdisold,wdisste,wdisroo,wdisnex⟩:Ad) names keeps with⟨ae,af,ag,ah,aj,ak⟩
 generalize aa:ae.map Ci=an
 generalize ab:af.map Ac=ao
 generalize ac:ag.map Ac=ap
 generalize ad:ah.map cS=aq
 refine .dd hP (Xe2 hwdisnod hwdisent hwdisold hwdisste hkeeps am hkl ai aa ab ac ad) ?_
 conv=>cbv
 have hm:=(Yg (d:=(⟨wdisnod,wdisent,wdisold,wdisste,wdisroo,wdisnex⟩:Ad)) (n:=names) (keeps:=keeps) am).1
 rw[ai]at hm
 generalize al:Cg (⟨⟨wsetroo,wsetver,wsetstr,wsetrol⟩,⟨ae,af,ag,ah,aj,ak⟩,⟨wwriver,wwristr,wwrirol,wwribas,wwrilin,wwrioff,wwriend,wwriope,wwricod⟩,wtol,wsur,wfal⟩:Bl)=r2
 refine .dd hP (Qq aa ab ac ad hwwrioff hwtol hm.1 al) ?_
 cases r2
 conv=>cbv
 have e:false=B3 (⟨⟨wsetroo,wsetver,wsetstr,wsetrol⟩,⟨wdisnod,wdisent,wdisold,wdisste,wdisroo,wdisnex⟩,⟨wwriver,wwristr,wwrirol,wwribas,wwrilin,wwrioff,wwriend,wwriope,wwricod⟩,wtol,wsur,wfal⟩:Bl) names keeps:=(by unfold B3;simp only[];rw[ai];exact al.symm)
 rw[hr]at e
 subst e
 exact hQ _ _ (.b rfl rfl)
 conv=>cbv
 have e:true=B3 (⟨⟨wsetroo,wsetver,wsetstr,wsetrol⟩,⟨wdisnod,wdisent,wdisold,wdisste,wdisroo,wdisnex⟩,⟨wwriver,wwristr,wwrirol,wwribas,wwrilin,wwrioff,wwriend,wwriope,wwricod⟩,wtol,wsur,wfal⟩:Bl) names keeps:=(by unfold B3;simp only[];rw[ai];exact al.symm)
 rw[hr]at e
 subst e
 exact hQ _ _ (.b rfl rfl)
theorem Iu(hwdisnod:wdisnod.map Ci=xwdisnod)(hwdisent:wdisent.map Ac=xwdisent)(hwdisold:wdisold.map Ac=xwdisold)(hwdisste:wdisste.map cS=xwdisste)(hwwrioff:wwrioff.map cI=xwwrioff)(hwtol:wtol.map cS=xwtol)(hkeeps:keeps.map cI=xkeeps)(am:W4 (⟨wdisnod,wdisent,wdisold,wdisste,wdisroo,wdisnex⟩:Ad))(hkl:keeps.length≤1000000000)(hr:B3 (⟨⟨wsetroo,wsetver,wsetstr,wsetrol⟩,⟨wdisnod,wdisent,wdisold,wdisste,wdisroo,wdisnex⟩,⟨wwriver,wwristr,wwrirol,wwribas,wwrilin,wwrioff,wwriend,wwriope,wwricod⟩,wtol,wsur,wfal⟩:Bl) names keeps=o):Fn Tryz.prog 27 [.agg [I wsetroo,I wsetver,I wsetstr,I wsetrol,.d (.row 3 xwdisnod),.d (.row 2 xwdisent),.d (.row 2 xwdisold),.d (.row 1 xwdisste),I wdisroo,I wdisnex,I wwriver,I wwristr,I wwrirol,I wwribas,I wwrilin,.d (.row 1 xwwrioff),I wwriend,B wwriope,I wwricod,.d (.row 1 xwtol),I wsur,I wfal],I names,.d (.row 1 xkeeps)] [] ⟨B o,[],[]⟩:=by
 refine Fn.go Xaq Tryz.func27 fun P hP Q hQ=>?_
 conv=>cbv
 rcases ai:E3 (⟨wdisnod,wdisent,wdisold,wdisste,wdisroo,wdisnex⟩:Ad) names keeps with⟨ae,af,ag,ah,aj,ak⟩
 generalize aa:ae.map Ci=an
 generalize ab:af.map Ac=ao
 generalize ac:ag.map Ac=ap
 generalize ad:ah.map cS=aq
 refine .dd hP (XeX hwdisnod hwdisent hwdisold hwdisste hkeeps am hkl ai aa ab ac ad) ?_
 conv=>cbv
 have hm:=(Yg (d:=(⟨wdisnod,wdisent,wdisold,wdisste,wdisroo,wdisnex⟩:Ad)) (n:=names) (keeps:=keeps) am).1
 rw[ai]at hm
 generalize al:Cg (⟨⟨wsetroo,wsetver,wsetstr,wsetrol⟩,⟨ae,af,ag,ah,aj,ak⟩,⟨wwriver,wwristr,wwrirol,wwribas,wwrilin,wwrioff,wwriend,wwriope,wwricod⟩,wtol,wsur,wfal⟩:Bl)=r2
 refine .dd hP (Ra aa ab ac ad hwwrioff hwtol hm.1 al) ?_
 cases r2
 conv=>cbv
 have e:false=B3 (⟨⟨wsetroo,wsetver,wsetstr,wsetrol⟩,⟨wdisnod,wdisent,wdisold,wdisste,wdisroo,wdisnex⟩,⟨wwriver,wwristr,wwrirol,wwribas,wwrilin,wwrioff,wwriend,wwriope,wwricod⟩,wtol,wsur,wfal⟩:Bl) names keeps:=(by unfold B3;simp only[];rw[ai];exact al.symm)
 rw[hr]at e
 subst e
 exact hQ _ _ (.b rfl rfl)
 conv=>cbv
 have e:true=B3 (⟨⟨wsetroo,wsetver,wsetstr,wsetrol⟩,⟨wdisnod,wdisent,wdisold,wdisste,wdisroo,wdisnex⟩,⟨wwriver,wwristr,wwrirol,wwribas,wwrilin,wwrioff,wwriend,wwriope,wwricod⟩,wtol,wsur,wfal⟩:Bl) names keeps:=(by unfold B3;simp only[];rw[ai];exact al.symm)
 rw[hr]at e
 subst e
 exact hQ _ _ (.b rfl rfl)
end
section
open Go Go.Proofs
set_option maxRecDepth 20000
set_option maxHeartbeats 4000000
def Ro:List (Nat×TyRow):=[ty3,Xcl,Xfy,ty36,Xco,ty41,ty43]
theorem Xy:Ce Tryz.prog Ro:=Ce.of (by kernel_rfl)
theorem XaH:Setup Tryz.prog Ro:=⟨Xy,mixed⟩
theorem Xa7{n:Bb}{k:Int}(h0:0≤n.sure_)(h1:n.sure_≤n.text_.size)(h2:n.text_.size≤1000000000)(hk:1000000000≤k):Dk n [k]=n.text_.size:=by
 unfold Dk
 rw[if_neg (by simp),show([k]:List Int).getD (n.id_%(([k]:List Int).length:Int)).toNat 0=k by
  have:n.id_%(([k]:List Int).length:Int)=0:=by show n.id_% 1=0;omega
  rw[this];rfl]
 unfold Cc
 split<;>(try split)<;>(try split)<;>omega
theorem Xb0{d:Ad}{n k:Int}(h:W4 d)(hk:1000000000≤k):E3 d n [k]=E3 d n [1000000000]:=by
 unfold E3
 split
 ·rfl
 ·rename_i hr
  have hr:B0 d=true:=by simpa using hr
  have:((d.nodes_.filter fun n_1=>Jy (Ch d.old_ d.steps_ n).1 n_1.id_).map (Wo [k]))=(d.nodes_.filter fun n_1=>Jy (Ch d.old_ d.steps_ n).1 n_1.id_).map (Wo [1000000000]):=by
   refine List.map_congr_left fun x hx=>?_
   obtain⟨i,hi,e⟩:=List.getElem_of_mem (List.mem_filter.1 hx).1
   have hn:=Zl hr h hi
   rw[e]at hn
   unfold Wo
   rw[Xa7 hn.2.1 hn.2.2.1 hn.2.2.2 hk,Xa7 hn.2.1 hn.2.2.1 hn.2.2.2 (Int.le_refl _)]
  rw[this]
theorem XdT{w:Bl}{n:Int}(h:W4 w.disk_):B3 w n [9223372036854775807]=B3 w n [1000000000]:=by
 unfold B3
 rw[Xb0 h (by decide)]
def At(w:Bl):Bool:=B0 w.disk_&&C0 w.set_&&decide (0≤w.sure_∧w.sure_≤(w.told_.length:Int))&&Cg w&&B3 w 0 []&&B3 w (w.disk_.steps_.length:Int) [1000000000]&&(decide (w.writer_.code_≠0)||decide (H2 w.disk_=w.told_))
theorem XgN{a b:List ByteArray}(h:C1 a b=true)(hl:a.length=b.length):a=b:=by
 unfold C1 at h
 have h1:=(of_decide_eq_true h).2
 rw[List.take_of_length_le (by omega)]at h1
 exact h1.symm
theorem Rh:Setup Tryz.prog ((3000001,Eg Tryz.prog 3000001)::Ro):=(Setup.mark 3000001 XaH)
variable {wsetroo wsetver wsetstr wsetrol wdisroo wdisnex wwriver wwristr wwrirol wwribas wwrilin wwriend wwricod wsur wfal:Int} {wdisnod:List Bb} {xwdisnod xwdisent xwdisold xwdisste xwwrioff xwtol:List (List D)} {wdisent wdisold:List Aa} {wdisste wtol:List ByteArray} {wwrioff:List Int} {wwriope o:Bool}
theorem Xae(hwdisnod:wdisnod.map Ci=xwdisnod)(hwdisent:wdisent.map Ac=xwdisent)(hwdisold:wdisold.map Ac=xwdisold)(hwdisste:wdisste.map cS=xwdisste)(hwwrioff:wwrioff.map cI=xwwrioff)(hwtol:wtol.map cS=xwtol)(ac:W4 (⟨wdisnod,wdisent,wdisold,wdisste,wdisroo,wdisnex⟩:Ad))(hr:At (⟨⟨wsetroo,wsetver,wsetstr,wsetrol⟩,⟨wdisnod,wdisent,wdisold,wdisste,wdisroo,wdisnex⟩,⟨wwriver,wwristr,wwrirol,wwribas,wwrilin,wwrioff,wwriend,wwriope,wwricod⟩,wtol,wsur,wfal⟩:Bl)=o):Fn Tryz.prog 32 [.agg [I wsetroo,I wsetver,I wsetstr,I wsetrol,.d (.row 3 xwdisnod),.d (.row 2 xwdisent),.d (.row 2 xwdisold),.d (.row 1 xwdisste),I wdisroo,I wdisnex,I wwriver,I wwristr,I wwrirol,I wwribas,I wwrilin,.d (.row 1 xwwrioff),I wwriend,B wwriope,I wwricod,.d (.row 1 xwtol),I wsur,I wfal]] [] ⟨B o,[],[]⟩:=by
 refine Fn.go Rh Tryz.func32 fun P hP Q hQ=>?_
 conv=>cbv
 generalize aa:B0 (⟨wdisnod,wdisent,wdisold,wdisste,wdisroo,wdisnex⟩:Ad)=r1
 refine .dd hP (Xbp hwdisnod hwdisent hwdisold hwdisste ac aa) ?_
 cases r1
 conv=>cbv
 refine .go2 (by kernel_rfl) ?_
 conv=>cbv
 have e:false=At (⟨⟨wsetroo,wsetver,wsetstr,wsetrol⟩,⟨wdisnod,wdisent,wdisold,wdisste,wdisroo,wdisnex⟩,⟨wwriver,wwristr,wwrirol,wwribas,wwrilin,wwrioff,wwriend,wwriope,wwricod⟩,wtol,wsur,wfal⟩:Bl):=(by unfold At;dsimp only;rw[aa];rfl)
 rw[hr]at e
 subst e
 exact hQ _ _ (.b rfl rfl)
 conv=>cbv
 generalize ab:C0 (⟨wsetroo,wsetver,wsetstr,wsetrol⟩:Er)=r2
 refine .dd hP (Z5 ab) ?_
 cases r2
 conv=>cbv
 refine .go2 (by kernel_rfl) ?_
 conv=>cbv
 have e:false=At (⟨⟨wsetroo,wsetver,wsetstr,wsetrol⟩,⟨wdisnod,wdisent,wdisold,wdisste,wdisroo,wdisnex⟩,⟨wwriver,wwristr,wwrirol,wwribas,wwrilin,wwrioff,wwriend,wwriope,wwricod⟩,wtol,wsur,wfal⟩:Bl):=(by unfold At;dsimp only;rw[aa,ab];rfl)
 rw[hr]at e
 subst e
 exact hQ _ _ (.b rfl rfl)
 conv=>cbv
 refine .go hwtol fun v3 ap=>?_
 conv=>cbv
 generalize ak:Ba wsur 0 v3=r4
 refine .dd hP (D6 ak) ?_
 cases r4
 simp only[Ba,decide_eq_true_eq,decide_eq_false_iff_not]at ak
 conv=>cbv
 refine .go2 (by kernel_rfl) ?_
 conv=>cbv
 have e:false=At (⟨⟨wsetroo,wsetver,wsetstr,wsetrol⟩,⟨wdisnod,wdisent,wdisold,wdisste,wdisroo,wdisnex⟩,⟨wwriver,wwristr,wwrirol,wwribas,wwrilin,wwrioff,wwriend,wwriope,wwricod⟩,wtol,wsur,wfal⟩:Bl):=(by unfold At;dsimp only;rw[aa,ab,decide_eq_false (show¬(0≤wsur∧wsur≤(wtol.length:Int))by omega)];rfl)
 rw[hr]at e
 subst e
 exact hQ _ _ (.b rfl rfl)
 simp only[Ba,decide_eq_true_eq,decide_eq_false_iff_not]at ak
 conv=>cbv
 generalize ad:Cg (⟨⟨wsetroo,wsetver,wsetstr,wsetrol⟩,⟨wdisnod,wdisent,wdisold,wdisste,wdisroo,wdisnex⟩,⟨wwriver,wwristr,wwrirol,wwribas,wwrilin,wwrioff,wwriend,wwriope,wwricod⟩,wtol,wsur,wfal⟩:Bl)=r5
 refine .dd hP (Qq hwdisnod hwdisent hwdisold hwdisste hwwrioff hwtol ac.1 ad) ?_
 cases r5
 conv=>cbv
 refine .go2 (by kernel_rfl) ?_
 conv=>cbv
 have e:false=At (⟨⟨wsetroo,wsetver,wsetstr,wsetrol⟩,⟨wdisnod,wdisent,wdisold,wdisste,wdisroo,wdisnex⟩,⟨wwriver,wwristr,wwrirol,wwribas,wwrilin,wwrioff,wwriend,wwriope,wwricod⟩,wtol,wsur,wfal⟩:Bl):=(by unfold At;dsimp only;rw[aa,ab,decide_eq_true (show(0≤wsur∧wsur≤(wtol.length:Int))by omega),ad];rfl)
 rw[hr]at e
 subst e
 exact hQ _ _ (.b rfl rfl)
 conv=>cbv
 generalize af:B3 (⟨⟨wsetroo,wsetver,wsetstr,wsetrol⟩,⟨wdisnod,wdisent,wdisold,wdisste,wdisroo,wdisnex⟩,⟨wwriver,wwristr,wwrirol,wwribas,wwrilin,wwrioff,wwriend,wwriope,wwricod⟩,wtol,wsur,wfal⟩:Bl) 0 []=r6
 refine .dd hP (Ox hwdisnod hwdisent hwdisold hwdisste hwwrioff hwtol rfl ac (by simp) af) ?_
 cases r6
 conv=>cbv
 refine .go2 (by kernel_rfl) ?_
 conv=>cbv
 have e:false=At (⟨⟨wsetroo,wsetver,wsetstr,wsetrol⟩,⟨wdisnod,wdisent,wdisold,wdisste,wdisroo,wdisnex⟩,⟨wwriver,wwristr,wwrirol,wwribas,wwrilin,wwrioff,wwriend,wwriope,wwricod⟩,wtol,wsur,wfal⟩:Bl):=(by unfold At;dsimp only;rw[aa,ab,decide_eq_true (show(0≤wsur∧wsur≤(wtol.length:Int))by omega),ad,af];rfl)
 rw[hr]at e
 subst e
 exact hQ _ _ (.b rfl rfl)
 conv=>cbv
 refine .go hwdisste fun v7 al=>?_
 conv=>cbv
 generalize ag:B3 (⟨⟨wsetroo,wsetver,wsetstr,wsetrol⟩,⟨wdisnod,wdisent,wdisold,wdisste,wdisroo,wdisnex⟩,⟨wwriver,wwristr,wwrirol,wwribas,wwrilin,wwrioff,wwriend,wwriope,wwricod⟩,wtol,wsur,wfal⟩:Bl) v7 [9223372036854775807]=r8
 refine .lnt hP (Ox hwdisnod hwdisent hwdisold hwdisste hwwrioff hwtol rfl ac (by simp) ag) (.agg (.d rfl (.d rfl (.d rfl (.d rfl (.d rfl (.d rfl (.d rfl (.d rfl (.d rfl (.d rfl (.d rfl (.d rfl (.d rfl (.d rfl (.d rfl (.d rfl (.d rfl (.d rfl (.d rfl (.d rfl (.d rfl (.d rfl .nil)))))))))))))))))))))) (.d rfl (.ref rfl rfl .nil))) ?_
 rw[XdT (w:=(⟨⟨wsetroo,wsetver,wsetstr,wsetrol⟩,⟨wdisnod,wdisent,wdisold,wdisste,wdisroo,wdisnex⟩,⟨wwriver,wwristr,wwrirol,wwribas,wwrilin,wwrioff,wwriend,wwriope,wwricod⟩,wtol,wsur,wfal⟩:Bl)) ac,al]at ag
 cases r8
 conv=>cbv
 refine .go2 (by kernel_rfl) ?_
 conv=>cbv
 have e:false=At (⟨⟨wsetroo,wsetver,wsetstr,wsetrol⟩,⟨wdisnod,wdisent,wdisold,wdisste,wdisroo,wdisnex⟩,⟨wwriver,wwristr,wwrirol,wwribas,wwrilin,wwrioff,wwriend,wwriope,wwricod⟩,wtol,wsur,wfal⟩:Bl):=(by unfold At;dsimp only;rw[aa,ab,decide_eq_true (show(0≤wsur∧wsur≤(wtol.length:Int))by omega),ad,af,ag];rfl)
 rw[hr]at e
 subst e
 exact hQ _ _ (.b rfl rfl)
 conv=>cbv
 refine .neq (fun h9=>?_) fun h9=>?_
 conv=>cbv
 refine .go2 (by kernel_rfl) ?_
 conv=>cbv
 have e:true=At (⟨⟨wsetroo,wsetver,wsetstr,wsetrol⟩,⟨wdisnod,wdisent,wdisold,wdisste,wdisroo,wdisnex⟩,⟨wwriver,wwristr,wwrirol,wwribas,wwrilin,wwrioff,wwriend,wwriope,wwricod⟩,wtol,wsur,wfal⟩:Bl):=(by unfold At;dsimp only;rw[aa,ab,decide_eq_true (show(0≤wsur∧wsur≤(wtol.length:Int))by omega),ad,af,ag,decide_eq_true (show wwricod≠0 by omega)];rfl)
 rw[hr]at e
 subst e
 exact hQ _ _ (.b rfl rfl)
 conv=>cbv
 generalize ae:H2 (⟨wdisnod,wdisent,wdisold,wdisste,wdisroo,wdisnex⟩:Ad)=ai
 generalize aj:ai.map cS=an
 refine .dd hP (XdA hwdisnod hwdisent hwdisold hwdisste ac.1 ae aj) ?_
 conv=>cbv
 have ao:=U5 ac.1 ae
 generalize ah:El ai wtol=am
 refine .dd hP (Fa aj hwtol (by omega) ah) ?_
 cases am
 conv=>cbv
 refine .go2 (by kernel_rfl) ?_
 conv=>cbv
 have e:false=At (⟨⟨wsetroo,wsetver,wsetstr,wsetrol⟩,⟨wdisnod,wdisent,wdisold,wdisste,wdisroo,wdisnex⟩,⟨wwriver,wwristr,wwrirol,wwribas,wwrilin,wwrioff,wwriend,wwriope,wwricod⟩,wtol,wsur,wfal⟩:Bl):=(by unfold At;dsimp only;rw[aa,ab,decide_eq_true (show(0≤wsur∧wsur≤(wtol.length:Int))by omega),ad,af,ag,decide_eq_false (show¬wwricod≠0 by omega),ae,show decide (ai=wtol)=false from ah];rfl)
 rw[hr]at e
 subst e
 exact hQ _ _ (.b rfl rfl)
 conv=>cbv
 refine .go2 (by kernel_rfl) ?_
 conv=>cbv
 have e:true=At (⟨⟨wsetroo,wsetver,wsetstr,wsetrol⟩,⟨wdisnod,wdisent,wdisold,wdisste,wdisroo,wdisnex⟩,⟨wwriver,wwristr,wwrirol,wwribas,wwrilin,wwrioff,wwriend,wwriope,wwricod⟩,wtol,wsur,wfal⟩:Bl):=(by unfold At;dsimp only;rw[aa,ab,decide_eq_true (show(0≤wsur∧wsur≤(wtol.length:Int))by omega),ad,af,ag,decide_eq_false (show¬wwricod≠0 by omega),ae,show decide (ai=wtol)=true from ah];rfl)
 rw[hr]at e
 subst e
 exact hQ _ _ (.b rfl rfl)
theorem Zw(hwdisnod:wdisnod.map Ci=xwdisnod)(hwdisent:wdisent.map Ac=xwdisent)(hwdisold:wdisold.map Ac=xwdisold)(hwdisste:wdisste.map cS=xwdisste)(hwwrioff:wwrioff.map cI=xwwrioff)(hwtol:wtol.map cS=xwtol)(ae:W4 (⟨wdisnod,wdisent,wdisold,wdisste,wdisroo,wdisnex⟩:Ad))(hr:At (⟨⟨wsetroo,wsetver,wsetstr,wsetrol⟩,⟨wdisnod,wdisent,wdisold,wdisste,wdisroo,wdisnex⟩,⟨wwriver,wwristr,wwrirol,wwribas,wwrilin,wwrioff,wwriend,wwriope,wwricod⟩,wtol,wsur,wfal⟩:Bl)=o):Fn Tryz.prog 31 [.agg [I wsetroo,I wsetver,I wsetstr,I wsetrol,.d (.row 3 xwdisnod),.d (.row 2 xwdisent),.d (.row 2 xwdisold),.d (.row 1 xwdisste),I wdisroo,I wdisnex,I wwriver,I wwristr,I wwrirol,I wwribas,I wwrilin,.d (.row 1 xwwrioff),I wwriend,B wwriope,I wwricod,.d (.row 1 xwtol),I wsur,I wfal]] [] ⟨B o,[],[]⟩:=by
 refine Fn.go XaH Tryz.func31 fun P hP Q hQ=>?_
 conv=>cbv
 generalize aa:B0 (⟨wdisnod,wdisent,wdisold,wdisste,wdisroo,wdisnex⟩:Ad)=r1
 refine .dd hP (Xbx hwdisnod hwdisent hwdisold hwdisste ae aa) ?_
 cases r1
 conv=>cbv
 have e:false=At (⟨⟨wsetroo,wsetver,wsetstr,wsetrol⟩,⟨wdisnod,wdisent,wdisold,wdisste,wdisroo,wdisnex⟩,⟨wwriver,wwristr,wwrirol,wwribas,wwrilin,wwrioff,wwriend,wwriope,wwricod⟩,wtol,wsur,wfal⟩:Bl):=(by unfold At;dsimp only;rw[aa];rfl)
 rw[hr]at e
 subst e
 exact hQ _ _ (.b rfl rfl)
 conv=>cbv
 generalize ab:C0 (⟨wsetroo,wsetver,wsetstr,wsetrol⟩:Er)=r2
 refine .dd hP (Yp ab) ?_
 cases r2
 conv=>cbv
 have e:false=At (⟨⟨wsetroo,wsetver,wsetstr,wsetrol⟩,⟨wdisnod,wdisent,wdisold,wdisste,wdisroo,wdisnex⟩,⟨wwriver,wwristr,wwrirol,wwribas,wwrilin,wwrioff,wwriend,wwriope,wwricod⟩,wtol,wsur,wfal⟩:Bl):=(by unfold At;dsimp only;rw[aa,ab];rfl)
 rw[hr]at e
 subst e
 exact hQ _ _ (.b rfl rfl)
 conv=>cbv
 refine .go hwtol fun v3 ar=>?_
 conv=>cbv
 generalize aj:A2 wsur 0 v3=r4
 refine .dd hP (Cz aj) ?_
 cases r4
 simp only[A2,decide_eq_true_eq,decide_eq_false_iff_not]at aj
 conv=>cbv
 have e:false=At (⟨⟨wsetroo,wsetver,wsetstr,wsetrol⟩,⟨wdisnod,wdisent,wdisold,wdisste,wdisroo,wdisnex⟩,⟨wwriver,wwristr,wwrirol,wwribas,wwrilin,wwrioff,wwriend,wwriope,wwricod⟩,wtol,wsur,wfal⟩:Bl):=(by unfold At;dsimp only;rw[aa,ab,decide_eq_false (show¬(0≤wsur∧wsur≤(wtol.length:Int))by omega)];rfl)
 rw[hr]at e
 subst e
 exact hQ _ _ (.b rfl rfl)
 simp only[A2,decide_eq_true_eq,decide_eq_false_iff_not]at aj
 conv=>cbv
 generalize ac:Cg (⟨⟨wsetroo,wsetver,wsetstr,wsetrol⟩,⟨wdisnod,wdisent,wdisold,wdisste,wdisroo,wdisnex⟩,⟨wwriver,wwristr,wwrirol,wwribas,wwrilin,wwrioff,wwriend,wwriope,wwricod⟩,wtol,wsur,wfal⟩:Bl)=r5
 refine .dd hP (Ra hwdisnod hwdisent hwdisold hwdisste hwwrioff hwtol ae.1 ac) ?_
 cases r5
 conv=>cbv
 have e:false=At (⟨⟨wsetroo,wsetver,wsetstr,wsetrol⟩,⟨wdisnod,wdisent,wdisold,wdisste,wdisroo,wdisnex⟩,⟨wwriver,wwristr,wwrirol,wwribas,wwrilin,wwrioff,wwriend,wwriope,wwricod⟩,wtol,wsur,wfal⟩:Bl):=(by unfold At;dsimp only;rw[aa,ab,decide_eq_true (show(0≤wsur∧wsur≤(wtol.length:Int))by omega),ac];rfl)
 rw[hr]at e
 subst e
 exact hQ _ _ (.b rfl rfl)
 conv=>cbv
 refine .eql (fun h6=>?_) fun h6=>?_
 conv=>cbv
 generalize ad:H2 (⟨wdisnod,wdisent,wdisold,wdisste,wdisroo,wdisnex⟩:Ad)=l7
 generalize al:l7.map cS=au
 refine .dd hP (Xel hwdisnod hwdisent hwdisold hwdisste ae.1 ad al) ?_
 conv=>cbv
 refine .go al fun v8 ak=>?_
 conv=>cbv
 refine .go hwtol fun v9 an=>?_
 conv=>cbv
 refine .neq (fun h10=>?_) fun h10=>?_
 conv=>cbv
 have e:false=At (⟨⟨wsetroo,wsetver,wsetstr,wsetrol⟩,⟨wdisnod,wdisent,wdisold,wdisste,wdisroo,wdisnex⟩,⟨wwriver,wwristr,wwrirol,wwribas,wwrilin,wwrioff,wwriend,wwriope,wwricod⟩,wtol,wsur,wfal⟩:Bl):=(by unfold At;dsimp only;rw[aa,ab,decide_eq_true (show(0≤wsur∧wsur≤(wtol.length:Int))by omega),ac,decide_eq_false (show¬wwricod≠0 by omega),ad,decide_eq_false (show¬l7=wtol from fun e=>h10 (by rw[ak,an,e])),Bool.or_self,Bool.and_false])
 rw[hr]at e
 subst e
 exact hQ _ _ (.b rfl rfl)
 conv=>cbv
 have hpx:C1 l7 wtol=true:=by
  have:=ac
  unfold Cg at this
  dsimp only at this
  rw[ad,Bool.and_eq_true]at this
  exact this.1
 have hre:l7=wtol:=XgN hpx (by omega)
 generalize af:B3 (⟨⟨wsetroo,wsetver,wsetstr,wsetrol⟩,⟨wdisnod,wdisent,wdisold,wdisste,wdisroo,wdisnex⟩,⟨wwriver,wwristr,wwrirol,wwribas,wwrilin,wwrioff,wwriend,wwriope,wwricod⟩,wtol,wsur,wfal⟩:Bl) 0 []=ao
 refine .lnt hP (Iu hwdisnod hwdisent hwdisold hwdisste hwwrioff hwtol rfl ae (by simp) af) (.agg (.d rfl (.d rfl (.d rfl (.d rfl (.d rfl (.d rfl (.d rfl (.d rfl (.d rfl (.d rfl (.d rfl (.d rfl (.d rfl (.d rfl (.d rfl (.d rfl (.d rfl (.d rfl (.d rfl (.d rfl (.d rfl (.d rfl .nil)))))))))))))))))))))) (.d rfl (.ref rfl rfl .nil))) ?_
 cases ao
 conv=>cbv
 have e:false=At (⟨⟨wsetroo,wsetver,wsetstr,wsetrol⟩,⟨wdisnod,wdisent,wdisold,wdisste,wdisroo,wdisnex⟩,⟨wwriver,wwristr,wwrirol,wwribas,wwrilin,wwrioff,wwriend,wwriope,wwricod⟩,wtol,wsur,wfal⟩:Bl):=(by unfold At;dsimp only;rw[aa,ab,decide_eq_true (show(0≤wsur∧wsur≤(wtol.length:Int))by omega),ac,af];rfl)
 rw[hr]at e
 subst e
 exact hQ _ _ (.b rfl rfl)
 conv=>cbv
 refine .go hwdisste fun am ai=>?_
 conv=>cbv
 have ap:am=(wdisste.length:Int):=ai
 generalize ag:B3 (⟨⟨wsetroo,wsetver,wsetstr,wsetrol⟩,⟨wdisnod,wdisent,wdisold,wdisste,wdisroo,wdisnex⟩,⟨wwriver,wwristr,wwrirol,wwribas,wwrilin,wwrioff,wwriend,wwriope,wwricod⟩,wtol,wsur,wfal⟩:Bl) am [1000000000]=aq
 refine .lnt hP (Iu hwdisnod hwdisent hwdisold hwdisste hwwrioff hwtol rfl ae (by simp) ag) (.agg (.d rfl (.d rfl (.d rfl (.d rfl (.d rfl (.d rfl (.d rfl (.d rfl (.d rfl (.d rfl (.d rfl (.d rfl (.d rfl (.d rfl (.d rfl (.d rfl (.d rfl (.d rfl (.d rfl (.d rfl (.d rfl (.d rfl .nil)))))))))))))))))))))) (.d rfl (.ref rfl rfl .nil))) ?_
 rw[ai]at ag
 cases aq
 conv=>cbv
 have e:false=At (⟨⟨wsetroo,wsetver,wsetstr,wsetrol⟩,⟨wdisnod,wdisent,wdisold,wdisste,wdisroo,wdisnex⟩,⟨wwriver,wwristr,wwrirol,wwribas,wwrilin,wwrioff,wwriend,wwriope,wwricod⟩,wtol,wsur,wfal⟩:Bl):=(by unfold At;dsimp only;rw[aa,ab,decide_eq_true (show(0≤wsur∧wsur≤(wtol.length:Int))by omega),ac,af,ag];rfl)
 rw[hr]at e
 subst e
 exact hQ _ _ (.b rfl rfl)
 conv=>cbv
 have e:true=At (⟨⟨wsetroo,wsetver,wsetstr,wsetrol⟩,⟨wdisnod,wdisent,wdisold,wdisste,wdisroo,wdisnex⟩,⟨wwriver,wwristr,wwrirol,wwribas,wwrilin,wwrioff,wwriend,wwriope,wwricod⟩,wtol,wsur,wfal⟩:Bl):=(by unfold At;dsimp only;rw[aa,ab,decide_eq_true (show(0≤wsur∧wsur≤(wtol.length:Int))by omega),ac,af,ag,decide_eq_false (show¬wwricod≠0 by omega),ad,decide_eq_true hre];rfl)
 rw[hr]at e
 subst e
 exact hQ _ _ (.b rfl rfl)
 conv=>cbv
 generalize ad:B3 (⟨⟨wsetroo,wsetver,wsetstr,wsetrol⟩,⟨wdisnod,wdisent,wdisold,wdisste,wdisroo,wdisnex⟩,⟨wwriver,wwristr,wwrirol,wwribas,wwrilin,wwrioff,wwriend,wwriope,wwricod⟩,wtol,wsur,wfal⟩:Bl) 0 []=r7
 refine .lnt hP (Iu hwdisnod hwdisent hwdisold hwdisste hwwrioff hwtol rfl ae (by simp) ad) (.agg (.d rfl (.d rfl (.d rfl (.d rfl (.d rfl (.d rfl (.d rfl (.d rfl (.d rfl (.d rfl (.d rfl (.d rfl (.d rfl (.d rfl (.d rfl (.d rfl (.d rfl (.d rfl (.d rfl (.d rfl (.d rfl (.d rfl .nil)))))))))))))))))))))) (.d rfl (.ref rfl rfl .nil))) ?_
 cases r7
 conv=>cbv
 have e:false=At (⟨⟨wsetroo,wsetver,wsetstr,wsetrol⟩,⟨wdisnod,wdisent,wdisold,wdisste,wdisroo,wdisnex⟩,⟨wwriver,wwristr,wwrirol,wwribas,wwrilin,wwrioff,wwriend,wwriope,wwricod⟩,wtol,wsur,wfal⟩:Bl):=(by unfold At;dsimp only;rw[aa,ab,decide_eq_true (show(0≤wsur∧wsur≤(wtol.length:Int))by omega),ac,ad];rfl)
 rw[hr]at e
 subst e
 exact hQ _ _ (.b rfl rfl)
 conv=>cbv
 refine .go hwdisste fun v8 ak=>?_
 conv=>cbv
 generalize ah:B3 (⟨⟨wsetroo,wsetver,wsetstr,wsetrol⟩,⟨wdisnod,wdisent,wdisold,wdisste,wdisroo,wdisnex⟩,⟨wwriver,wwristr,wwrirol,wwribas,wwrilin,wwrioff,wwriend,wwriope,wwricod⟩,wtol,wsur,wfal⟩:Bl) v8 [1000000000]=r9
 refine .lnt hP (Iu hwdisnod hwdisent hwdisold hwdisste hwwrioff hwtol rfl ae (by simp) ah) (.agg (.d rfl (.d rfl (.d rfl (.d rfl (.d rfl (.d rfl (.d rfl (.d rfl (.d rfl (.d rfl (.d rfl (.d rfl (.d rfl (.d rfl (.d rfl (.d rfl (.d rfl (.d rfl (.d rfl (.d rfl (.d rfl (.d rfl .nil)))))))))))))))))))))) (.d rfl (.ref rfl rfl .nil))) ?_
 rw[ak]at ah
 cases r9
 conv=>cbv
 have e:false=At (⟨⟨wsetroo,wsetver,wsetstr,wsetrol⟩,⟨wdisnod,wdisent,wdisold,wdisste,wdisroo,wdisnex⟩,⟨wwriver,wwristr,wwrirol,wwribas,wwrilin,wwrioff,wwriend,wwriope,wwricod⟩,wtol,wsur,wfal⟩:Bl):=(by unfold At;dsimp only;rw[aa,ab,decide_eq_true (show(0≤wsur∧wsur≤(wtol.length:Int))by omega),ac,ad,ah];rfl)
 rw[hr]at e
 subst e
 exact hQ _ _ (.b rfl rfl)
 conv=>cbv
 have e:true=At (⟨⟨wsetroo,wsetver,wsetstr,wsetrol⟩,⟨wdisnod,wdisent,wdisold,wdisste,wdisroo,wdisnex⟩,⟨wwriver,wwristr,wwrirol,wwribas,wwrilin,wwrioff,wwriend,wwriope,wwricod⟩,wtol,wsur,wfal⟩:Bl):=(by unfold At;dsimp only;rw[aa,ab,decide_eq_true (show(0≤wsur∧wsur≤(wtol.length:Int))by omega),ac,ad,ah,decide_eq_true (show wwricod≠0 by omega)];rfl)
 rw[hr]at e
 subst e
 exact hQ _ _ (.b rfl rfl)
end
section
open Go Go.Proofs
set_option maxRecDepth 20000
set_option maxHeartbeats 4000000
end
section
open Go Go.Proofs
set_option maxRecDepth 20000
set_option maxHeartbeats 4000000
def Xfs(w:B6):C5:=⟨w.version_,w.stride_,w.base_,w.link_⟩
def begC(d:Ad)(w:B6):Int:=if(F4 d (Be w.base_)).2≠0 then 4 else if(J4 (F4 d (Be w.base_)).1 (Be w.base_) (Cr (Xfs w))).2≠0 then 2 else 0
def begD(d:Ad)(w:B6):Ad:=if(F4 d (Be w.base_)).2≠0 then(F4 d (Be w.base_)).1 else if(J4 (F4 d (Be w.base_)).1 (Be w.base_) (Cr (Xfs w))).2≠0 then(J4 (F4 d (Be w.base_)).1 (Be w.base_) (Cr (Xfs w))).1
 else Xcc (Xem (J4 (F4 d (Be w.base_)).1 (Be w.base_) (Cr (Xfs w))).1 (Be w.base_)).1
def begW(d:Ad)(w:B6):B6:=if begC d w=0 then⟨w.version_,w.stride_,w.roll_,w.base_,w.link_,[],24,true,w.code_⟩else⟨w.version_,w.stride_,w.roll_,w.base_,w.link_,w.offsets_,w.end_,w.open_,begC d w⟩
def appB(s:Ad×B6):Ad×B6:=if s.2.code_=0∧s.2.open_=false then(begD s.1 s.2,begW s.1 s.2)else s
end
section
open Go Go.Proofs
set_option maxRecDepth 20000
set_option maxHeartbeats 4000000
end
end Go.Proofs.YtgdmjbcllgmepaaGreatDoor.Ab
