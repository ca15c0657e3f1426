/- What functions of the program come to, for all arguments in the given bounds. -/
import Derived.Test.YtgdmjbcllgmepaaGreatDoorFrch10
import Derived.Test.YtgdmjbcllgmepaaGreatDoorFrZ9
import Derived.Lib.ItoaNum
import Derived.Lib.AppendIntMem
import Derived.Below
import Derived.ProofKit
import Derived.Shelf.Spec.SlicesInsertGrow
set_option linter.unusedVariables false
set_option linter.unusedSimpArgs false
namespace Go.Proofs.YtgdmjbcllgmepaaGreatDoor.Ab
section
open Go Go.Proofs
set_option maxRecDepth 20000
set_option maxHeartbeats 4000000
def Xdx:List (Nat×TyRow):=[ty3,ty9,Xdq,XhQ,Xbd,Xeh,Xjz,XhA,XjJ]
theorem Xb9:B1 Tryz.prog Xdx:=B1.of (by kernel_rfl)
theorem Fs:Setup Tryz.prog Xdx:=⟨Xb9,mixed⟩
def Cz(d:Ac)(base:Int):ByteArray:=(Fm d (Af base)).1
def Dl(b:ByteArray)(base link:Int):Bool:=(B0 b).2&&decide ((B0 b).1.base_=base)&&decide ((B0 b).1.link_=link)
def G8(link:Int)(r:ByteArray):Int:=Fj link (Az r.size 4++r)
def E8(link:Int)(l:List ByteArray):Int:=l.foldl G8 link
def Ci(b:ByteArray):List ByteArray:=(Bq b).records_
def Eb(b:ByteArray):Int:=E8 (Bq b).head_.link_ (Bq b).records_
def Ik(d:Ac):Nat→Int→Int→List U9
 |0,_,_=>[]
 |k+1,base,sum=>if Dl (Cz d base) base sum=true∧Ci (Cz d base)≠[]then
   ⟨base,Cz d base,Bq (Cz d base)⟩::Ik d k (base+(Ci (Cz d base)).length) (E8 sum (Ci (Cz d base)))else[]
def Md(d:Ac):List U9:=Ik d 16 0 0
def Ky(d:Ac):List Int:=(Md d).map (·.base_)
def N0(d:Ac):List ByteArray:=(Md d).flatMap fun x=>x.scan_.records_
theorem Hk{d:Ac}{b:Int}{t:ByteArray}(hd:okD d)(e:Cz d b=t):t.size≤1000000000:=by
 rw[←e]
 exact Xbr (ok:=(Fm d (Af b)).2) hd rfl
theorem Tq{t:ByteArray}{b s:Int}(h:Dl t b s=true):∃hh,B0 t=(hh,true)∧hh.base_=b∧hh.link_=s∧0≤b∧b≤1000000000:=by
 unfold Dl at h
 simp only[Bool.and_eq_true,decide_eq_true_eq]at h
 rcases e:B0 t with⟨hh,ok⟩
 rw[e]at h
 obtain⟨⟨h1,h2⟩,h3⟩:=h
 simp only[]at h1 h2 h3
 subst h1
 have h4:=(Fw e).2.2
 obtain⟨v,st,bs,lk⟩:=hh
 have h5:=I6 h4
 exact⟨_,rfl,h2,h3,by simp only[]at h2;omega,by simp only[]at h2;omega⟩
theorem XeW{t:ByteArray}{hh:Ca}(e:B0 t=(hh,true)):(Bq t).head_=hh∧(Bq t).ok_=true:=by unfold Bq;rw[e];exact⟨rfl,rfl⟩
theorem U0{t:ByteArray}{b s:Int}(h:Dl t b s=true):Eb t=E8 s (Ci t):=by
 obtain⟨hh,h1,h2,h3,_⟩:=Tq h
 unfold Eb Ci
 rw[(XeW h1).1,h3]
theorem Qk{t:ByteArray}{b s:Int}{l:List ByteArray}(h:Dl t b s=true)(e:Ci t=l):Eb t=E8 s l:=by rw[U0 h,e]
theorem Pm{d:Ac}{k:Nat}{b s:Int}{t:ByteArray}(h1:Cz d b=t)(h2:Dl t b s=false∨Ci t=[]):Ik d k b s=[]:=by
 cases k with
 |zero=>rfl
 |succ k=>
  rw[Ik,h1,if_neg]
  rintro⟨h3,h4⟩
  rcases h2 with h2|h2
  ·rw[h2]at h3;cases h3
  ·exact h4 h2
theorem Tn{d:Ac}{k:Nat}{b s:Int}{t:ByteArray}(h1:Cz d b=t)(h2:Dl t b s=true)(h3:Ci t≠[]):Ik d (k+1) b s=⟨b,t,Bq t⟩::Ik d k (b+(Ci t).length) (E8 s (Ci t)):=by
 rw[Ik,h1,if_pos ⟨h2,h3⟩]
theorem Qn{d:Ac}:∀{k:Nat} {b s:Int},(Ik d k b s).length≤k
 |0,_,_=>Nat.le_refl _
 |k+1,b,s=>by
  rw[Ik]
  split
  ·rw[List.length_cons];exact Nat.succ_le_succ Qn
  ·exact Nat.zero_le _
theorem Wn{d:Ac}:∀{k:Nat} {b s:Int},∀x∈Ik d k b s,x.text_=Cz d x.base_∧x.scan_=Bq (Cz d x.base_)∧∃s',Dl (Cz d x.base_) x.base_ s'=true
 |0,_,_,x,hx=>by simp[Ik]at hx
 |k+1,b,s,x,hx=>by
  rw[Ik]at hx
  split at hx
  ·rename_i h
   rw[List.mem_cons]at hx
   rcases hx with rfl|hx
   ·exact⟨rfl,rfl,s,h.1⟩
   ·exact Wn x hx
  ·simp at hx
theorem Xeb{d:Ac}{l:List U9}(e:Md d=l):l.length≤16:=by rw[←e];exact Qn
theorem Vl{d:Ac}{l:List Int}(e:Ky d=l):l.length≤16:=by rw[←e];unfold Ky;rw[List.length_map];exact Qn
theorem Vc{d:Ac}{l:List U9}(e:Md d=l){x:U9}(hx:x∈l):x.text_=Cz d x.base_∧x.scan_=Bq (Cz d x.base_)∧∃s',Dl (Cz d x.base_) x.base_ s'=true:=by rw[←e]at hx;exact Wn x hx
theorem Xe6{d:Ac}{α:Type}(f:U9→α)(g:Int→α)(h:∀x,x.text_=Cz d x.base_→x.scan_=Bq (Cz d x.base_)→f x=g x.base_):(Md d).map f=(Ky d).map g:=by
 unfold Ky
 rw[List.map_map]
 refine List.map_congr_left fun x hx=>?_
 obtain⟨h1,h2,_⟩:=Vc rfl hx
 exact h x h1 h2
theorem S2{d:Ac}:N0 d=(Ky d).flatMap fun b=>Ci (Cz d b):=by
 unfold N0
 rw[List.flatMap_def,List.flatMap_def]
 congr 1
 exact Xe6 _ _ fun x h1 h2=>by rw[h2];rfl
theorem Xcv:∀(k:Nat) {h:Ca} {b:ByteArray} {n:Nat} {p:Int},(b.size - p).toNat≤k→0≤p∧p≤b.size→∀r∈(G5 h b n p).1,r.size≤60
 |k,h,b,n,p,hk,hp=>by
  cases hm:Dx h.version_ (h.base_+n) b p
  ·rcases hf:A4 h.version_ (h.base_+n) b p with⟨r,q,ok⟩
   cases ok
   ·rw[Kj hm hf];simp
   ·have h2:=F3 hf
    rw[Kp hm hf]
    cases k with
    |zero=>omega
    |succ k=>
     have ih:=Xcv k (h:=h) (b:=b) (n:=n+1) (p:=q) (by omega) (by omega)
     intro x hx
     rcases List.mem_cons.1 hx with rfl|hx
     ·omega
     ·exact ih x hx
  ·rw[Kt hm];simp
theorem X2{b:ByteArray}:∀r∈(Bq b).records_,r.size≤60:=by
 unfold Bq
 split
 ·rename_i h e
  have h2:=Fw e
  exact Xcv _ (h:=h) (b:=b) (n:=0) (p:=24) (Nat.le_refl _) (by omega)
 ·simp
theorem XgZ{α β:Type}{f:α→β}{l:List α}{k:Nat}(h:k<l.length):(l.take (k+1)).map f=(l.take k).map f++[f l[k]]:=by rw[List.take_succ_eq_append_getElem h,List.map_append];rfl
theorem Xfp{α β:Type}{f:α→List β}{l:List α}{k:Nat}(h:k<l.length):(l.take (k+1)).flatMap f=(l.take k).flatMap f++f l[k]:=by rw[List.take_succ_eq_append_getElem h,List.flatMap_append];simp
variable {Ah:List Bs} {Bk Bh Bf Bl xo:List (List D)} {Ak Aj:List Al} {Ai:List ByteArray} {An Am base o link:Int} {b r:ByteArray}
theorem Xc6{o:ByteArray}(Ap:Ah.map A5=Bk)(As:Ak.map Ae=Bh)(Au:Aj.map Ae=Bf)(At:Ai.map cS=Bl)(hd:okD ⟨Ah,Ak,Aj,Ai,An,Am⟩)(hr:Cz (⟨Ah,Ak,Aj,Ai,An,Am⟩:Ac) base=o):Fn Tryz.prog 198 [.agg [.d (.row 3 Bk),.d (.row 2 Bh),.d (.row 2 Bf),.d (.row 1 Bl),I An,I Am],I base] [] ⟨S o,[],[]⟩:=by
 refine Fn.go Fs Tryz.func198 fun P hP Q hQ=>?_
 conv=>cbv
 generalize aa:Af base=r1
 refine .dd hP (F1 aa) ?_
 conv=>cbv
 rcases ab:Fm (⟨Ah,Ak,Aj,Ai,An,Am⟩:Ac) r1 with⟨ac,ad⟩
 refine .dd hP (Xeu Ap As Au At hd ab) ?_
 conv=>cbv
 have e:ac=Cz (⟨Ah,Ak,Aj,Ai,An,Am⟩:Ac) base:=(by unfold Cz;rw[aa,ab])
 rw[hr]at e
 subst e
 exact hQ _ _ (.s rfl rfl)
theorem Xx{o:ByteArray}(Ap:Ah.map A5=Bk)(As:Ak.map Ae=Bh)(Au:Aj.map Ae=Bf)(At:Ai.map cS=Bl)(hd:okD ⟨Ah,Ak,Aj,Ai,An,Am⟩)(hr:Cz (⟨Ah,Ak,Aj,Ai,An,Am⟩:Ac) base=o):Fn Tryz.prog 99 [.agg [.d (.row 3 Bk),.d (.row 2 Bh),.d (.row 2 Bf),.d (.row 1 Bl),I An,I Am],I base] [] ⟨S o,[],[]⟩:=by
 refine Fn.go Fs Tryz.func99 fun P hP Q hQ=>?_
 conv=>cbv
 generalize aa:Af base=r1
 refine .dd hP (Cy aa) ?_
 conv=>cbv
 rcases ab:Fm (⟨Ah,Ak,Aj,Ai,An,Am⟩:Ac) r1 with⟨ac,ad⟩
 refine .dd hP (Xej Ap As Au At hd ab) ?_
 conv=>cbv
 have e:ac=Cz (⟨Ah,Ak,Aj,Ai,An,Am⟩:Ac) base:=(by unfold Cz;rw[aa,ab])
 rw[hr]at e
 subst e
 exact hQ _ _ (.s rfl rfl)
theorem Xgv{o:Bool}(hs:b.size<2^47)(hr:Dl b base link=o):Fn Tryz.prog 200 [S b,I base,I link] [] ⟨B o,[],[]⟩:=by
 refine Fn.go Fs Tryz.func200 fun P hP Q hQ=>?_
 conv=>cbv
 rcases aa:B0 b with⟨⟨ab,ac,ad,ae⟩,af⟩
 refine .dd hP (Ww (by omega) aa) ?_
 conv=>cbv
 cases af
 conv=>cbv
 have e:false=Dl b base link:=(by unfold Dl;rw[aa];rfl)
 rw[hr]at e
 subst e
 exact hQ _ _ (.b rfl rfl)
 conv=>cbv
 refine .eql (fun h2=>?_) fun h2=>?_
 conv=>cbv
 refine .eql (fun h3=>?_) fun h3=>?_
 conv=>cbv
 have e:true=Dl b base link:=(by unfold Dl;rw[aa];simp[h2,h3])
 rw[hr]at e
 subst e
 exact hQ _ _ (.b rfl rfl)
 conv=>cbv
 have e:false=Dl b base link:=(by unfold Dl;rw[aa];simp[h2,h3])
 rw[hr]at e
 subst e
 exact hQ _ _ (.b rfl rfl)
 conv=>cbv
 have e:false=Dl b base link:=(by unfold Dl;rw[aa];simp[h2])
 rw[hr]at e
 subst e
 exact hQ _ _ (.b rfl rfl)
theorem Xd5(hb:r.size<2^40)(hr:G8 link r=o):Fn Tryz.prog 265 [I link,S r] [] ⟨I o,[],[]⟩:=by
 refine Fn.go Fs Tryz.func265 fun P hP Q hQ=>?_
 conv=>cbv
 refine .go fun v1 ac=>?_
 conv=>cbv
 generalize aa:Az v1 4=r2
 have zr2:=Bv aa
 refine .dd hP (E3 (by omega) aa) ?_
 conv=>cbv
 refine .go fun s3 ad ae=>?_
 conv=>cbv
 generalize ab:Fj link s3=r4
 have zr4:=No ab
 refine .dd hP (Zq (by omega) ab) ?_
 conv=>cbv
 have e:r4=G8 link r:=(by subst_vars;rfl)
 rw[hr]at e
 subst e
 exact hQ _ _ (.i rfl rfl)
theorem XgU{o:Bool}(hs:b.size<2^47)(hr:Dl b base link=o):Fn Tryz.prog 184 [S b,I base,I link] [] ⟨B o,[],[]⟩:=by
 refine Fn.go Fs Tryz.func184 fun P hP Q hQ=>?_
 conv=>cbv
 rcases aa:B0 b with⟨⟨ab,ac,ad,ae⟩,af⟩
 refine .dd hP (Wc (by omega) aa) ?_
 conv=>cbv
 cases af
 conv=>cbv
 have e:false=Dl b base link:=(by unfold Dl;rw[aa];rfl)
 rw[hr]at e
 subst e
 exact hQ _ _ (.b rfl rfl)
 conv=>cbv
 refine .eql (fun h2=>?_) fun h2=>?_
 conv=>cbv
 refine .eql (fun h3=>?_) fun h3=>?_
 conv=>cbv
 have e:true=Dl b base link:=(by unfold Dl;rw[aa];simp[h2,h3])
 rw[hr]at e
 subst e
 exact hQ _ _ (.b rfl rfl)
 conv=>cbv
 have e:false=Dl b base link:=(by unfold Dl;rw[aa];simp[h2,h3])
 rw[hr]at e
 subst e
 exact hQ _ _ (.b rfl rfl)
 conv=>cbv
 have e:false=Dl b base link:=(by unfold Dl;rw[aa];simp[h2])
 rw[hr]at e
 subst e
 exact hQ _ _ (.b rfl rfl)
theorem Xee(hb:r.size<2^40)(hr:G8 link r=o):Fn Tryz.prog 255 [I link,S r] [] ⟨I o,[],[]⟩:=by
 refine Fn.go Fs Tryz.func255 fun P hP Q hQ=>?_
 conv=>cbv
 refine .go fun v1 ac=>?_
 conv=>cbv
 generalize aa:Az v1 4=r2
 have zr2:=Bv aa
 refine .dd hP (Er (by omega) aa) ?_
 conv=>cbv
 refine .go fun s3 ad ae=>?_
 conv=>cbv
 generalize ab:Fj link s3=r4
 have zr4:=No ab
 refine .dd hP (Xai (by omega) ab) ?_
 conv=>cbv
 have e:r4=G8 link r:=(by subst_vars;rfl)
 rw[hr]at e
 subst e
 exact hQ _ _ (.i rfl rfl)
theorem Z7{l:List ByteArray}{xl:List (List D)}(hl:l.map cS=xl)(hn:l.length<2^40)(hb:∀r∈l,r.size≤60)(hr:E8 link l=o):Fn Tryz.prog 201 [I link,.d (.row 1 xl)] [] ⟨I o,[],[]⟩:=by
 refine Fn.go Fs Tryz.func201 fun P hP Q hQ=>?_
 conv=>cbv
 refine .go hl fun v1 ad=>?_
 conv=>cbv
 refine LoopW.lp (κ:=Int×Int) Fs hP [] [7,8] (fun(i0,i9)=>[(0,I i0),(9,I i9)]) (fun(i0,i9)=>[])
  (fun(i0,i9)=>0≤i9∧i9≤l.length∧i0=E8 link (l.take i9.toNat))
  (fun(i0,i9)=>(l.length - i9).toNat) (link,0) ⟨by omega,by omega,rfl⟩ ⟨rfl,rfl,trivial⟩ rfl ?_
 rintro⟨i0,i9⟩ J ⟨h0,h1,hx⟩ hJ
 conv=>cbv
 refine .lss (fun h2=>?_) fun h2=>?_
 conv=>cbv
 refine .go i9.toNat hl fun aa e3 ab=>?_
 conv=>cbv
 have zb:=hb e3 (ab▸List.getElem_mem _)
 generalize ac:G8 i0 e3=r4
 refine .dd hP (Xd5 (by omega) ac) ?_
 conv=>cbv
 refine .add fun v5 ae=>?_
 conv=>cbv
 exact .go [] (r4,v5) (hJ _ ⟨by omega,by omega,by rw[show v5.toNat=i9.toNat+1 by omega,List.take_succ_eq_append_getElem aa,E8,List.foldl_append,←ab];show r4=G8 (E8 link (l.take i9.toNat)) e3;rw[←hx,ac]⟩ mlt)
 conv=>cbv
 have e:i0=E8 link l:=(by rw[hx,List.take_of_length_le (by omega)])
 rw[hr]at e
 subst e
 exact hQ _ _ (.i rfl rfl)
theorem Sm{o:List ByteArray}(hs:b.size<2^47)(hr:Ci b=o)(ho:o.map cS=xo):Fn Tryz.prog 138 [S b] [] ⟨.d (.row 1 xo),[],[]⟩:=by
 refine Fn.go Fs Tryz.func138 fun P hP Q hQ=>?_
 conv=>cbv
 rcases ai:Bq b with⟨an,⟨ae,af,ag,ah⟩,ab,ad,al,am⟩
 generalize aa:ab.map cS=aj
 generalize ac:ad.map cI=ak
 refine .dd hP (Vr (by omega) ai aa ac) ?_
 conv=>cbv
 have e:ab=Ci b:=(by unfold Ci;rw[ai])
 rw[hr]at e
 subst e
 exact hQ _ _ (.d rfl (by rw[←aa,←ho]))
theorem Ta(hs:b.size<2^40)(hr:Eb b=o):Fn Tryz.prog 185 [S b] [] ⟨I o,[],[]⟩:=by
 refine Fn.go Fs Tryz.func185 fun P hP Q hQ=>?_
 conv=>cbv
 rcases ae:Bq b with⟨aq,⟨ag,ah,ai,aa⟩,ab,af,ao,ap⟩
 generalize ac:ab.map cS=am
 generalize ad:af.map cI=an
 refine .dd hP (Vr (by omega) ae ac ad) ?_
 conv=>cbv
 refine LoopW.lp (κ:=Int×Int) Fs hP [] [3] (fun(i4,i5)=>[(4,I i4),(5,I i5)]) (fun(i4,i5)=>[])
  (fun(i4,i5)=>0≤i5∧i5≤ab.length∧i4=E8 aa (ab.take i5.toNat))
  (fun(i4,i5)=>(ab.length - i5).toNat) (aa,0) ⟨by omega,by omega,rfl⟩ ⟨rfl,rfl,trivial⟩ rfl ?_
 rintro⟨i4,i5⟩ J ⟨h0,h1,hx⟩ hJ
 have zs:=X2 (b:=b)
 have zl:=I4 (b:=b)
 rw[ae]at zs zl
 simp only[]at zs zl
 conv=>cbv
 refine .go ac fun v2 ar=>?_
 conv=>cbv
 refine .lss (fun h3=>?_) fun h3=>?_
 conv=>cbv
 refine .go i5.toNat ac fun aj e4 ak=>?_
 conv=>cbv
 have zb:=zs e4 (ak▸List.getElem_mem _)
 generalize al:G8 i4 e4=r5
 refine .dd hP (Xee (by omega) al) ?_
 conv=>cbv
 refine .add fun v6 au=>?_
 conv=>cbv
 exact .go [] (r5,v6) (hJ _ ⟨by omega,by omega,by rw[show v6.toNat=i5.toNat+1 by omega,List.take_succ_eq_append_getElem aj,E8,List.foldl_append,←ak];show r5=G8 (E8 aa (ab.take i5.toNat)) e4;rw[←hx,al]⟩ mlt)
 conv=>cbv
 have e:i4=Eb b:=(by unfold Eb;rw[ae,hx,List.take_of_length_le (by omega)])
 rw[hr]at e
 subst e
 exact hQ _ _ (.i rfl rfl)
theorem XiC{o:List U9}(Ap:Ah.map A5=Bk)(As:Ak.map Ae=Bh)(Au:Aj.map Ae=Bf)(At:Ai.map cS=Bl)(hd:okD ⟨Ah,Ak,Aj,Ai,An,Am⟩)(hr:Md (⟨Ah,Ak,Aj,Ai,An,Am⟩:Ac)=o)(ho:o.map Xi1=xo):Fn Tryz.prog 108 [.agg [.d (.row 3 Bk),.d (.row 2 Bh),.d (.row 2 Bf),.d (.row 1 Bl),I An,I Am]] [] ⟨.d (.row 11 xo),[],[]⟩:=by
 refine Fn.go Fs Tryz.func108 fun P hP Q hQ=>?_
 conv=>cbv
 refine LoopW.lp (κ:=Int×Int×(List (List D))×Nat) Fs hP [2] [1] (fun(i4,i5,af,ac)=>[(3,.ref 3 0 ac),(4,I i4),(5,I i5)]) (fun(i4,i5,af,ac)=>[(3,.row 11 false af)])
  (fun(i4,i5,af,ac)=>∃(w3:List U9),w3.map Xi1=af∧ac=w3.length∧(w3.length≤16∧0≤i4∧i4≤2000000000)∧Md (⟨Ah,Ak,Aj,Ai,An,Am⟩:Ac)=w3++Ik (⟨Ah,Ak,Aj,Ai,An,Am⟩:Ac) (16 - w3.length) i4 i5)
  (fun(i4,i5,af,ac)=>16 - ac) (0,0,[],0) ⟨[],rfl,rfl,by simp,rfl⟩ ⟨rfl,rfl,rfl,trivial⟩ rfl ?_
 rintro⟨i4,i5,af,ac⟩ J ⟨w3,ad,a4,hb,hI⟩ hJ
 conv=>cbv
 refine .go fun v1 a6=>?_
 conv=>cbv
 refine .lss (fun h2=>?_) fun h2=>?_
 conv=>cbv
 generalize ak:Cz (⟨Ah,Ak,Aj,Ai,An,Am⟩:Ac) i4=r3
 refine .dd hP (Xc6 Ap As Au At hd ak) ?_
 conv=>cbv
 have z3:=Hk hd ak
 rcases am:Bq r3 with⟨au,⟨ag,ah,ai,aj⟩,ab,al,ap,aq⟩
 generalize aa:ab.map cS=ax
 generalize ae:al.map cI=ay
 refine .dd hP (Wt (by omega) am aa ae) ?_
 conv=>cbv
 have zr:=I4 (b:=r3)
 have zq:=X2 (b:=r3)
 rw[am]at zr zq
 simp only[]at zr zq
 have rq:Ci r3=ab:=by unfold Ci;rw[am]
 generalize an:Dl r3 i4 i5=r5
 refine .dd hP (Xgv (by omega) an) ?_
 cases r5
 conv=>cbv
 have e:w3=Md (⟨Ah,Ak,Aj,Ai,An,Am⟩:Ac):=(by rw[hI,Pm ak (.inl an),List.append_nil])
 rw[hr]at e
 subst e
 exact hQ _ _ (.r rfl rfl (by rw[←ad,List.length_map];first|omega|(simp;omega)) (by rw[←ad,←ho]))
 conv=>cbv
 refine .go aa fun v6 ar=>?_
 conv=>cbv
 refine .eql (fun h7=>?_) fun h7=>?_
 conv=>cbv
 have e:w3=Md (⟨Ah,Ak,Aj,Ai,An,Am⟩:Ac):=(by rw[hI,Pm ak (.inr (by rw[rq];exact List.eq_nil_of_length_eq_zero (by omega))),List.append_nil])
 rw[hr]at e
 subst e
 exact hQ _ _ (.r rfl rfl (by rw[←ad,List.length_map];first|omega|(simp;omega)) (by rw[←ad,←ho]))
 conv=>cbv
 have hg:=Tq an
 obtain⟨hh,g1,g2,g3,g4,g5⟩:=hg
 have hne:ab≠[]:=by intro e;rw[e]at ar;simp at ar;exact h7 ar
 refine .one (⟨i4,r3,⟨au,⟨ag,ah,ai,aj⟩,ab,al,ap,aq⟩⟩:U9) ad (by rw[←aa,←ae];rfl) fun az z8 a5 a0=>?_
 conv=>cbv
 refine .go aa fun v9 a1=>?_
 conv=>cbv
 refine .add fun a2 aw=>?_
 conv=>cbv
 generalize ao:E8 i5 ab=a3
 refine .dd hP (Z7 aa (by omega) zq ao) ?_
 conv=>cbv
 exact .go [10] (a2,a3,z8,az) (hJ _ ⟨_,a0,Ot,by rw[List.length_append];simp;omega,by rw[hI,show 16 - w3.length=(15 - w3.length)+1 by omega,Tn ak an (by rw[rq];exact hne),List.append_assoc,am,List.length_append,rq,ao,←a1,←aw];simp only[List.length_singleton];rw[show 16 - (w3.length+1)=15 - w3.length by omega];rfl⟩ mlt)
 conv=>cbv
 have e:w3=Md (⟨Ah,Ak,Aj,Ai,An,Am⟩:Ac):=(by rw[hI,show 16 - w3.length=0 by omega];simp[Ik])
 rw[hr]at e
 subst e
 exact hQ _ _ (.r rfl rfl (by rw[←ad,List.length_map];first|omega|(simp;omega)) (by rw[←ad,←ho]))
theorem Xh8{o:List Int}(Ap:Ah.map A5=Bk)(As:Ak.map Ae=Bh)(Au:Aj.map Ae=Bf)(At:Ai.map cS=Bl)(hd:okD ⟨Ah,Ak,Aj,Ai,An,Am⟩)(hr:Ky (⟨Ah,Ak,Aj,Ai,An,Am⟩:Ac)=o)(ho:o.map cI=xo):Fn Tryz.prog 98 [.agg [.d (.row 3 Bk),.d (.row 2 Bh),.d (.row 2 Bf),.d (.row 1 Bl),I An,I Am]] [] ⟨.d (.row 1 xo),[],[]⟩:=by
 refine Fn.go Fs Tryz.func98 fun P hP Q hQ=>?_
 conv=>cbv
 refine LoopW.lp (κ:=Int×Int×(List (List D))×Nat) Fs hP [2] [1] (fun(i4,i5,ac,aa)=>[(3,.ref 3 0 aa),(4,I i4),(5,I i5)]) (fun(i4,i5,ac,aa)=>[(3,.row 1 false ac)])
  (fun(i4,i5,ac,aa)=>∃(w3:List Int),w3.map cI=ac∧aa=w3.length∧(w3.length≤16∧0≤i4∧i4≤2000000000)∧Ky (⟨Ah,Ak,Aj,Ai,An,Am⟩:Ac)=w3++(Ik (⟨Ah,Ak,Aj,Ai,An,Am⟩:Ac) (16 - w3.length) i4 i5).map (·.base_))
  (fun(i4,i5,ac,aa)=>16 - aa) (0,0,[],0) ⟨[],rfl,rfl,by simp,rfl⟩ ⟨rfl,rfl,rfl,trivial⟩ rfl ?_
 rintro⟨i4,i5,ac,aa⟩ J ⟨w3,ab,an,hb,hI⟩ hJ
 conv=>cbv
 refine .go fun v1 ap=>?_
 conv=>cbv
 refine .lss (fun h2=>?_) fun h2=>?_
 conv=>cbv
 generalize ae:Cz (⟨Ah,Ak,Aj,Ai,An,Am⟩:Ac) i4=r3
 refine .dd hP (Xx Ap As Au At hd ae) ?_
 conv=>cbv
 have z3:=Hk hd ae
 generalize ad:Ci r3=l4
 generalize ah:l4.map cS=aq
 refine .dd hP (Sm (by omega) ad ah) ?_
 conv=>cbv
 refine .go ah fun v5 ag=>?_
 conv=>cbv
 refine .eql (fun h6=>?_) fun h6=>?_
 conv=>cbv
 have e:w3=Ky (⟨Ah,Ak,Aj,Ai,An,Am⟩:Ac):=(by rw[hI,Pm ae (.inr (by rw[ad];exact List.eq_nil_of_length_eq_zero (by omega)))];simp)
 rw[hr]at e
 subst e
 exact hQ _ _ (.r rfl rfl (by rw[←ab,List.length_map];first|omega|(simp;omega)) (by rw[←ab,←ho]))
 conv=>cbv
 generalize af:Dl r3 i4 i5=r7
 refine .dd hP (XgU (by omega) af) ?_
 cases r7
 conv=>cbv
 have e:w3=Ky (⟨Ah,Ak,Aj,Ai,An,Am⟩:Ac):=(by rw[hI,Pm ae (.inl af)];simp)
 rw[hr]at e
 subst e
 exact hQ _ _ (.r rfl rfl (by rw[←ab,List.length_map];first|omega|(simp;omega)) (by rw[←ab,←ho]))
 conv=>cbv
 have hg:=Tq af
 obtain⟨hh,g1,g2,g3,g4,g5⟩:=hg
 have hne:l4≠[]:=by intro e;rw[e]at ag;simp at ag;exact h6 ag
 have zr:=I4 (b:=r3)
 have rq:(Bq r3).records_=l4:=ad
 rw[rq]at zr
 refine .one i4 ab rfl fun ak z8 ao al=>?_
 conv=>cbv
 generalize ai:Eb r3=r9
 refine .dd hP (Ta (by omega) ai) ?_
 conv=>cbv
 refine .add fun am aj=>?_
 conv=>cbv
 exact .go [5] (am,r9,z8,ak) (hJ _ ⟨_,al,Ot,by rw[List.length_append];simp;omega,by rw[hI,show 16 - w3.length=(15 - w3.length)+1 by omega,Tn ae af (by rw[ad];exact hne),ad,List.map_cons,List.append_assoc,List.length_append,←Qk af ad,ai,←ag,←aj];simp only[List.length_singleton];rw[show 16 - (w3.length+1)=15 - w3.length by omega];rfl⟩ mlt)
 conv=>cbv
 have e:w3=Ky (⟨Ah,Ak,Aj,Ai,An,Am⟩:Ac):=(by rw[hI,show 16 - w3.length=0 by omega];simp[Ik])
 rw[hr]at e
 subst e
 exact hQ _ _ (.r rfl rfl (by rw[←ab,List.length_map];first|omega|(simp;omega)) (by rw[←ab,←ho]))
theorem XiH{o:List ByteArray}(Ap:Ah.map A5=Bk)(As:Ak.map Ae=Bh)(Au:Aj.map Ae=Bf)(At:Ai.map cS=Bl)(hd:okD ⟨Ah,Ak,Aj,Ai,An,Am⟩)(hr:N0 (⟨Ah,Ak,Aj,Ai,An,Am⟩:Ac)=o)(ho:o.map cS=xo):Fn Tryz.prog 58 [.agg [.d (.row 3 Bk),.d (.row 2 Bh),.d (.row 2 Bf),.d (.row 1 Bl),I An,I Am]] [] ⟨.d (.row 1 xo),[],[]⟩:=by
 refine Fn.go Fs Tryz.func58 fun P hP Q hQ=>?_
 conv=>cbv
 generalize ac:Ky (⟨Ah,Ak,Aj,Ai,An,Am⟩:Ac)=l1
 generalize ad:l1.map cI=ap
 refine .dd hP (Xh8 Ap As Au At hd ac ad) ?_
 conv=>cbv
 refine LoopW.lp (κ:=Int×(List (List D))×Nat) Fs hP [2] [1,4] (fun(i5,aa,ab)=>[(3,.ref 3 0 ab),(5,I i5)]) (fun(i5,aa,ab)=>[(3,.row 1 false aa)])
  (fun(i5,aa,ab)=>∃(w3:List ByteArray),w3.map cS=aa∧ab=w3.length∧0≤i5∧i5≤l1.length∧w3.length≤1000000000*i5.toNat∧w3=(l1.take i5.toNat).flatMap fun b=>Ci (Cz (⟨Ah,Ak,Aj,Ai,An,Am⟩:Ac) b))
  (fun(i5,aa,ab)=>(l1.length - i5).toNat) (0,[],0) ⟨[],rfl,rfl,by omega,by omega,by simp,by simp⟩ ⟨rfl,rfl,trivial⟩ rfl ?_
 rintro⟨i5,aa,ab⟩ J ⟨w3,ae,am,h0,h1,hb,hw⟩ hJ
 have an:=Vl ac
 conv=>cbv
 refine .go ad fun v2 aq=>?_
 conv=>cbv
 refine .lss (fun h3=>?_) fun h3=>?_
 conv=>cbv
 refine .go i5.toNat ad fun ah e4 aj=>?_
 conv=>cbv
 generalize af:Cz (⟨Ah,Ak,Aj,Ai,An,Am⟩:Ac) e4=r5
 refine .dd hP (Xx Ap As Au At hd af) ?_
 conv=>cbv
 have z5:=Hk hd af
 generalize ag:Ci r5=l6
 generalize ai:l6.map cS=ar
 refine .dd hP (Sm (by omega) ag ai) ?_
 conv=>cbv
 have zr:=I4 (b:=r5)
 have rq:(Bq r5).records_=l6:=ag
 rw[rq]at zr
 refine .row ae ai fun ak z7 ao al=>?_
 conv=>cbv
 refine .add fun v8 au=>?_
 conv=>cbv
 exact .go [4] (v8,z7,ak) (hJ _ ⟨_,al,Ot,by omega,by omega,by rw[List.length_append,show v8.toNat=i5.toNat+1 by omega];omega,by rw[hw,show v8.toNat=i5.toNat+1 by omega,Xfp ah,←aj,af,ag]⟩ mlt)
 conv=>cbv
 have e:w3=N0 (⟨Ah,Ak,Aj,Ai,An,Am⟩:Ac):=(by rw[S2,ac,hw,List.take_of_length_le (by omega)])
 rw[hr]at e
 subst e
 exact hQ _ _ (.r rfl rfl (by rw[←ae,List.length_map];first|omega|(simp;omega)) (by rw[←ae,←ho]))
end
section
open Go Go.Proofs
set_option maxRecDepth 20000
set_option maxHeartbeats 4000000
def Xiu{α:Type}(f:α→Int)(l:List α):Int:=(l.map f).foldl (·+·) 0
theorem Y6{α:Type}{f:α→Int}{l:List α}{k:Nat}(h:k<l.length):Xiu f (l.take (k+1))=Xiu f (l.take k)+f l[k]:=by unfold Xiu;rw[XgZ h,List.foldl_append];rfl
def Ia{α:Type}[DecidableEq α](a b:List α):Bool:=decide (a=b)
end
section
open Go Go.Proofs
set_option maxRecDepth 20000
set_option maxHeartbeats 4000000
end
section
open Go Go.Proofs
set_option maxRecDepth 20000
set_option maxHeartbeats 4000000
theorem Xik{α:Type}{p:α→Bool}{l:List α}{i:Int}(e:U7 p l=i)(h:i≠-1):0≤i∧i<l.length∧l.take i.toNat=(l.take (i+1).toNat).filter (fun x=>!p x):=by
 have hb:=Xdf e
 have h0:0≤i:=by omega
 obtain⟨hi,hp⟩:=Xc e h0
 refine⟨h0,hb.2,?_⟩
 rw[show(i+1).toNat=i.toNat+1 by omega,List.take_succ_eq_append_getElem hi,List.filter_append]
 have h1:(l.take i.toNat).filter (fun x=>!p x)=l.take i.toNat:=by
  rw[List.filter_eq_self]
  intro x hx
  obtain⟨j,hj,rfl⟩:=List.getElem_of_mem hx
  have aa:j<i.toNat:=by have:=hj;rw[List.length_take]at this;omega
  rw[List.getElem_take]
  have e2:l.findIdx p=i.toNat:=by
   unfold U7 at e
   split at e<;>omega
  have:=List.not_of_lt_findIdx (p:=p) (xs:=l) (i:=j) (by omega)
  simpa using this
 rw[h1]
 simp[hp]
theorem Xix{α:Type}{p:α→Bool}{l w:List α}{i j:Nat}(hj:j<l.length)(hij:i<j)(hl:w.length=l.length)(h1:w.take i=(l.take j).filter (fun x=>!p x))(h2:w.drop j=l.drop j)(hp:p l[j]=false):
  (w.set i l[j]).take (i+1)=(l.take (j+1)).filter (fun x=>!p x)∧(w.set i l[j]).drop (j+1)=l.drop (j+1):=by
 constructor
 ·rw[List.take_succ_eq_append_getElem (by rw[List.length_set];omega),List.take_set_of_le (Nat.le_refl i),h1,List.take_succ_eq_append_getElem hj,List.filter_append]
  simp[hp]
 ·rw[List.drop_set_of_lt (by omega),←List.drop_drop,←List.drop_drop,h2]
theorem XiQ{α:Type}{p:α→Bool}{l w:List α}{i j:Nat}(hj:j<l.length)(h1:w.take i=(l.take j).filter (fun x=>!p x))(h2:w.drop j=l.drop j)(hp:p l[j]=true):
  w.take i=(l.take (j+1)).filter (fun x=>!p x)∧w.drop (j+1)=l.drop (j+1):=by
 constructor
 ·rw[List.take_succ_eq_append_getElem hj,List.filter_append,h1]
  simp[hp]
 ·rw[←List.drop_drop,←List.drop_drop,h2]
theorem df_at{α:Type}{l w:List α}{j:Nat}(hj:j<w.length)(aa:j<l.length)(h2:w.drop j=l.drop j):w[j]=l[j]:=by
 have:=congrArg (·[0]?) h2
 simpa[hj,aa]using this
theorem Xjt{α:Type}{c:α→List D}{w o:List α}{z:α}{i n:Nat}{x:List (List D)}(hn:n=w.length - i)(hi:i≤w.length)(ho:w.take i=o)(h:(w.take i++(List.replicate n z++w.drop (i+n))).map c=x):i=o.length∧(o++List.replicate (w.length - o.length) z).map c=x:=by
 have h1:i=o.length:=by rw[←ho,List.length_take];omega
 refine⟨h1,?_⟩
 rw[←h,ho,List.drop_of_length_le (by omega),List.append_nil,hn,h1]
end
section
open Go Go.Proofs
set_option maxRecDepth 20000
set_option maxHeartbeats 4000000
end
section
open Go Go.Proofs
set_option maxRecDepth 20000
set_option maxHeartbeats 4000000
theorem Ja{α:Type}{p:α→Bool}{l:List α}{k:Nat}(h:k<l.length):(l.take (k+1)).filter p=(l.take k).filter p++(if p l[k]then[l[k]]else[]):=by
 rw[List.take_succ_eq_append_getElem h,List.filter_append,List.filter_cons,List.filter_nil]
end
section
open Go Go.Proofs
set_option maxRecDepth 20000
set_option maxHeartbeats 4000000
def Xa5:List (Nat×TyRow):=[ty3,ty5,ty9,XhQ,XeJ]
theorem Xar:B1 Tryz.prog Xa5:=B1.of (by kernel_rfl)
theorem Oz:Setup Tryz.prog Xa5:=⟨Xar,mixed⟩
def fig(x:Int):UInt8:=UInt8.ofNat (if x<10 then 48+x.toNat else 87+x.toNat)
def Eo(x:Int):Int:=(if x<10 then 48+x else 97+x - 10)% 256
theorem Xfe{x:Int}(h:0≤x∧x<16):((fig x).toNat:Int)=Eo x:=by
 unfold fig Eo
 split
 ·rw[UInt8.toNat_ofNat',Nat.mod_eq_of_lt (by omega)];omega
 ·rw[UInt8.toNat_ofNat',Nat.mod_eq_of_lt (by omega)];omega
theorem XcW{x r:Int}(hr:Eo x=r)(h:0≤x∧x<16):[D.sc (.int .u8 r)]=cB (fig x):=by
 show _=[D.sc (.int .u8 ((fig x).toNat:Int))]
 rw[Xfe h,hr]
theorem fig10(n:Nat):fig ((n% 10:Nat):Int)=UInt8.ofNat (48+n% 10):=by
 unfold fig
 rw[if_pos (by omega),Int.toNat_natCast]
theorem G9:∀(k u:Nat),u<10^ (k+1)→1≤(Lib.decDigits u).length∧(Lib.decDigits u).length≤k+1
 |0,u,h=>by rw[Lib.decDigits,dif_pos (by simpa using h)];simp
 |k+1,u,h=>by
  by_cases hn:u<10
  ·rw[Lib.decDigits,dif_pos hn];simp
  ·rw[Lib.decDigits,dif_neg hn]
   have:=G9 k (u/10) (by rw[Nat.pow_succ]at h;omega)
   simp;omega
def XeY(n:Nat):List UInt8:=if n=0 then[]else Lib.decDigits n
theorem O0{n:Nat}(h:n≠0):XeY n=XeY (n/10)++[fig ((n% 10:Nat):Int)]:=by
 unfold XeY
 rw[if_neg h,Lib.decDigits,fig10]
 split
 ·rw[if_pos (by omega),Nat.mod_eq_of_lt (by omega)];rfl
 ·rw[if_neg (by omega)]
theorem Xdk{u:Nat}(h:u≤9223372036854775808):(XeY u).length≤19:=by
 unfold XeY
 split
 ·simp
 ·exact(G9 18 u (by omega)).2
abbrev Xm(n:Int):Prop:=-9223372036854775808≤n∧n≤9223372036854775807
def By(n:Int):ByteArray:=tx (Lib.itoa n)
def Xjg(n:Int):ByteArray:=By n
theorem XfA(n:Int)(h:n≠0):Lib.itoa n=(if n<0 then[45]else[])++XeY n.natAbs:=by
 unfold Lib.itoa XeY
 rw[if_neg (show¬n.natAbs=0 by omega)]
 split
 ·rfl
 ·rw[show n.toNat=n.natAbs by omega];rfl
theorem Xhg{n:Int}(h:Xm n):1≤(Lib.itoa n).length∧(Lib.itoa n).length≤20:=by
 unfold Xm at h
 unfold Lib.itoa
 split
 ·have:=G9 18 n.natAbs (by omega)
  simp;omega
 ·have:=G9 18 n.toNat (by omega)
  omega
theorem Qz{n:Int}{o:ByteArray}(e:By n=o)(h:Xm n):1≤o.size∧o.size≤20:=by
 rw[←e]
 unfold By
 rw[Bw]
 exact Xhg h
theorem ArW.quoT{K:Int→Prop}{a:Int}(h:∀v,v=a.tdiv 10→K v)(hr: -9223372036854775808≤a∧a<9223372036854775808:=by omega):ArW .quo .i64 .i64 a 10 K:=by
 refine⟨a.tdiv 10,?_,h _ rfl⟩
 show(if(10:Int)=0 then none else some (Value.int .i64 (IntKind.i64.wrap (a.tdiv 10))))=_
 rw[if_neg (by decide),M2]
 rcases Int.le_total 0 a with h0|h0
 ·rw[Int.tdiv_eq_ediv_of_nonneg h0];omega
 ·have:a.tdiv 10= -((-a)/10):=by rw[←Int.tdiv_eq_ediv_of_nonneg (by omega),Int.neg_tdiv];omega
  omega
theorem ArW.remT{K:Int→Prop}{k:IntKind}{a:Int}(h:∀v,v=a.tmod 10→K v):ArW .rem k k a 10 K:=by
 refine⟨a.tmod 10,?_,h _ rfl⟩
 show(if k=k then(if(10:Int)=0 then none else some (Value.int k (a.tmod 10)))else none)=_
 rw[if_pos rfl,if_neg (by decide)]
theorem Xjn{a:Int}{q:Nat}(h:a= -(q:Int)):a.tdiv 10= -((q/10:Nat):Int):=by
 subst h
 rw[Int.neg_tdiv,Int.tdiv_eq_ediv_of_nonneg (by omega)]
 omega
theorem XjU{a:Int}{q:Nat}(h:a= -(q:Int)):a.tmod 10= -((q% 10:Nat):Int):=by
 subst h
 rw[Int.neg_tmod,Int.tmod_eq_emod_of_nonneg (by omega)]
 omega
theorem Xjr{a:Int}{q:Nat}(h:a=(q:Int)):a.tdiv 10=((q/10:Nat):Int):=by
 subst h
 rw[Int.tdiv_eq_ediv_of_nonneg (by omega)]
 omega
theorem XjK{a:Int}{q:Nat}(h:a=(q:Int)):a.tmod 10=((q% 10:Nat):Int):=by
 subst h
 rw[Int.tmod_eq_emod_of_nonneg (by omega)]
 omega
variable {n:Int} {o:ByteArray}
theorem U1(hn:Xm n)(hr:Xjg n=o):Fn Tryz.prog 216 [I n] [] ⟨S o,[],[]⟩:=by
 refine⟨Ep Tryz.func216 rfl rfl,CallOk.ofCallsG fun E vs hS hG hA=>?_⟩
 obtain⟨u,rfl,h1⟩:=Xil hA
 rw[N6 h1]
 have ht:=XiE hG
 refine(Tryz.strconv_Itoa n hn.1 hn.2 E.w ht).mono ?_
 rintro e w' ⟨rfl,k,os,rfl⟩
 exact⟨_,rfl,Lib.below_grow _ _ (Nat.le_refl _) k os,by rw[←hr];exact .sc _ rfl⟩
theorem Ln{x:Int}{o:Int}(hx:0≤x∧x<16)(hr:Eo x=o):Fn Tryz.prog 136 [I x] [] ⟨.d (.sc (.int .u8 o)),[],[]⟩:=by
 refine Fn.go Oz Tryz.func136 fun P hP Q hQ=>?_
 conv=>cbv
 refine .lss (fun h1=>?_) fun h1=>?_
 conv=>cbv
 refine .add fun v2 aa=>?_
 conv=>cbv
 refine .go fun v3 ab=>?_
 conv=>cbv
 have e:v3=Eo x:=(by rw[ab,Kb,aa];unfold Eo;rw[if_pos (by omega)])
 rw[hr]at e
 subst e
 exact hQ _ _ (.i rfl rfl)
 conv=>cbv
 refine .add fun v2 aa=>?_
 conv=>cbv
 refine .sub fun v3 ab=>?_
 conv=>cbv
 refine .go fun v4 ac=>?_
 conv=>cbv
 have e:v4=Eo x:=(by rw[ac,Kb,ab,aa];unfold Eo;rw[if_neg (by omega)])
 rw[hr]at e
 subst e
 exact hQ _ _ (.i rfl rfl)
theorem Xao(hn:Xm n)(hr:By n=o):Fn Tryz.prog 144 [I n] [] ⟨S o,[],[]⟩:=by
 refine Fn.go Oz Tryz.func144 fun P hP Q hQ=>?_
 conv=>cbv
 generalize aa:Xjg n=r1
 refine .dd hP (U1 hn aa) ?_
 conv=>cbv
 have e:r1=By n:=(by exact aa.symm)
 rw[hr]at e
 subst e
 exact hQ _ _ (.s rfl rfl)
theorem Xa7(hn:Xm n)(hr:By n=o):Fn Tryz.prog 56 [I n] [] ⟨S o,[],[]⟩:=by
 refine Fn.go Oz Tryz.func56 fun P hP Q hQ=>?_
 conv=>cbv
 refine .eql (fun h1=>?_) fun h1=>?_
 conv=>cbv
 have e:(tx [48])=By n:=(by unfold By;rw[h1,show Lib.itoa 0=[48]by unfold Lib.itoa;rw[if_neg (by decide),Lib.decDigits];rfl])
 rw[hr]at e
 subst e
 exact hQ _ _ (.s rfl rfl)
 conv=>cbv
 refine .lss (fun h2=>?_) fun h2=>?_
 conv=>cbv
 refine LoopW.lp (κ:=Int×ByteArray) Oz hP [] [3] (fun(i0,s4)=>[(0,I i0),(4,S s4)]) (fun(i0,s4)=>[])
  (fun(i0,s4)=>∃(q:Nat) (w:List UInt8),s4=tx w∧XeY n.natAbs=XeY q++w∧q≤n.natAbs∧(n<0→i0= -(q:Int))∧(0≤n→i0=(q:Int)))
  (fun(i0,s4)=>i0.natAbs) (n,tx []) ⟨n.natAbs,[],rfl,by simp,by omega,by omega,by omega⟩ ⟨rfl,rfl,trivial⟩ rfl ?_
 rintro⟨i0,s4⟩ J ⟨q,w,aa,hw,hq,hiN,hiP⟩ hJ
 have hwl:=congrArg List.length hw
 rw[List.length_append]at hwl
 have hdl:=Xdk (u:=n.natAbs) (by unfold Xm at hn;omega)
 have ai:s4.size=w.length:=by rw[aa,Bw]
 have et:(n<0→i0.tdiv 10= -((q/10:Nat):Int))∧(0≤n→i0.tdiv 10=((q/10:Nat):Int)):=⟨fun h=>Xjn (hiN h),fun h=>Xjr (hiP h)⟩
 have em:(n<0→i0.tmod 10= -((q% 10:Nat):Int))∧(0≤n→i0.tmod 10=((q% 10:Nat):Int)):=⟨fun h=>XjU (hiN h),fun h=>XjK (hiP h)⟩
 have hn_:=hn
 unfold Xm at hn_
 conv=>cbv
 refine .neq (fun h3=>?_) fun h3=>?_
 conv=>cbv
 refine .remT fun v4 ak=>?_
 conv=>cbv
 refine .lss (fun h5=>?_) fun h5=>?_
 conv=>cbv
 refine .go fun v6 al=>?_
 conv=>cbv
 generalize ad:Eo v6=r7
 refine .dd hP (Ln (by omega) ad) ?_
 conv=>cbv
 refine .go (l:=[fig ((q% 10:Nat):Int)]) (by show[cB (fig _)]=_;rw[show((q% 10:Nat):Int)=v6 by omega,←XcW ad (by omega)]) (hn:=rfl) fun s8 ab=>?_
 conv=>cbv
 have ag:s8.size=1:=by rw[ab];rfl
 refine .go fun s9 ae am=>?_
 conv=>cbv
 refine .quoT fun ah aj=>?_
 conv=>cbv
 exact .go [] (ah,s9) (hJ _ ⟨q/10,fig ((q% 10:Nat):Int)::w,by first|(rw[ae,ab,aa,Du];rfl)|(rw[ab,ac,aa,Du];rfl),by rw[hw,O0 (show q≠0 by omega),List.append_assoc];rfl,by omega,by omega,by omega⟩ mlt)
 conv=>cbv
 generalize af:Eo v4=r6
 refine .dd hP (Ln (by omega) af) ?_
 conv=>cbv
 refine .go (l:=[fig ((q% 10:Nat):Int)]) (by show[cB (fig _)]=_;rw[show((q% 10:Nat):Int)=v4 by omega,←XcW af (by omega)]) (hn:=rfl) fun s7 ac=>?_
 conv=>cbv
 have an:s7.size=1:=by rw[ac];rfl
 refine .go fun s8 ab ag=>?_
 conv=>cbv
 refine .quoT fun v9 ao=>?_
 conv=>cbv
 exact .go [] (v9,s8) (hJ _ ⟨q/10,fig ((q% 10:Nat):Int)::w,by first|(rw[ae,ab,aa,Du];rfl)|(rw[ab,ac,aa,Du];rfl),by rw[hw,O0 (show q≠0 by omega),List.append_assoc];rfl,by omega,by omega,by omega⟩ mlt)
 conv=>cbv
 refine .litL 1 fun s4 aa ai=>?_
 conv=>cbv
 have e:s4=By n:=(by unfold By;rw[XfA n h1,if_pos h2,hw,show q=0 by omega,aa];rename_i hs4_ _;rw[hs4_];show tx [45]++tx _=_;rw[Du];rfl)
 rw[hr]at e
 subst e
 exact hQ _ _ (.s rfl rfl)
 conv=>cbv
 refine LoopW.lp (κ:=Int×ByteArray) Oz hP [] [3] (fun(i0,s4)=>[(0,I i0),(4,S s4)]) (fun(i0,s4)=>[])
  (fun(i0,s4)=>∃(q:Nat) (w:List UInt8),s4=tx w∧XeY n.natAbs=XeY q++w∧q≤n.natAbs∧(n<0→i0= -(q:Int))∧(0≤n→i0=(q:Int)))
  (fun(i0,s4)=>i0.natAbs) (n,tx []) ⟨n.natAbs,[],rfl,by simp,by omega,by omega,by omega⟩ ⟨rfl,rfl,trivial⟩ rfl ?_
 rintro⟨i0,s4⟩ J ⟨q,w,aa,hw,hq,hiN,hiP⟩ hJ
 have hwl:=congrArg List.length hw
 rw[List.length_append]at hwl
 have hdl:=Xdk (u:=n.natAbs) (by unfold Xm at hn;omega)
 have ai:s4.size=w.length:=by rw[aa,Bw]
 have et:(n<0→i0.tdiv 10= -((q/10:Nat):Int))∧(0≤n→i0.tdiv 10=((q/10:Nat):Int)):=⟨fun h=>Xjn (hiN h),fun h=>Xjr (hiP h)⟩
 have em:(n<0→i0.tmod 10= -((q% 10:Nat):Int))∧(0≤n→i0.tmod 10=((q% 10:Nat):Int)):=⟨fun h=>XjU (hiN h),fun h=>XjK (hiP h)⟩
 have hn_:=hn
 unfold Xm at hn_
 conv=>cbv
 refine .neq (fun h3=>?_) fun h3=>?_
 conv=>cbv
 refine .remT fun v4 ak=>?_
 conv=>cbv
 refine .lss (fun h5=>?_) fun h5=>?_
 conv=>cbv
 refine .go fun v6 al=>?_
 conv=>cbv
 generalize ad:Eo v6=r7
 refine .dd hP (Ln (by omega) ad) ?_
 conv=>cbv
 refine .go (l:=[fig ((q% 10:Nat):Int)]) (by show[cB (fig _)]=_;rw[show((q% 10:Nat):Int)=v6 by omega,←XcW ad (by omega)]) (hn:=rfl) fun s8 ab=>?_
 conv=>cbv
 have ag:s8.size=1:=by rw[ab];rfl
 refine .go fun s9 ae am=>?_
 conv=>cbv
 refine .quoT fun ah aj=>?_
 conv=>cbv
 exact .go [] (ah,s9) (hJ _ ⟨q/10,fig ((q% 10:Nat):Int)::w,by first|(rw[ae,ab,aa,Du];rfl)|(rw[ab,ac,aa,Du];rfl),by rw[hw,O0 (show q≠0 by omega),List.append_assoc];rfl,by omega,by omega,by omega⟩ mlt)
 conv=>cbv
 generalize af:Eo v4=r6
 refine .dd hP (Ln (by omega) af) ?_
 conv=>cbv
 refine .go (l:=[fig ((q% 10:Nat):Int)]) (by show[cB (fig _)]=_;rw[show((q% 10:Nat):Int)=v4 by omega,←XcW af (by omega)]) (hn:=rfl) fun s7 ac=>?_
 conv=>cbv
 have an:s7.size=1:=by rw[ac];rfl
 refine .go fun s8 ab ag=>?_
 conv=>cbv
 refine .quoT fun v9 ao=>?_
 conv=>cbv
 exact .go [] (v9,s8) (hJ _ ⟨q/10,fig ((q% 10:Nat):Int)::w,by first|(rw[ae,ab,aa,Du];rfl)|(rw[ab,ac,aa,Du];rfl),by rw[hw,O0 (show q≠0 by omega),List.append_assoc];rfl,by omega,by omega,by omega⟩ mlt)
 conv=>cbv
 have e:s4=By n:=(by unfold By;rw[XfA n h1,if_neg (by omega),hw,show q=0 by omega,aa];rfl)
 rw[hr]at e
 subst e
 exact hQ _ _ (.s rfl rfl)
end
section
open Go Go.Proofs
set_option maxRecDepth 20000
set_option maxHeartbeats 4000000
def XcK:List (Nat×TyRow):=[ty3,ty36,ty41]
theorem Xb3:B1 Tryz.prog XcK:=B1.of (by kernel_rfl)
theorem XeG:Setup Tryz.prog XcK:=⟨Xb3,mixed⟩
def Bi(v s r:Int):Aa×Bool:=if(1≤v∧v≤2)∧(1≤s∧s≤20)∧(1≤r∧r≤50)then(⟨v,s,r,0,0,[],0,false,0⟩,true)else(⟨0,0,0,0,0,[],0,false,0⟩,false)
theorem Ju{v s r:Int}{w:Aa}{b:Bool}(e:Bi v s r=(w,b)):b=decide ((1≤v∧v≤2)∧(1≤s∧s≤20)∧(1≤r∧r≤50)):=by
 unfold Bi at e
 split at e
 ·rw[decide_eq_true (by assumption)];exact(congrArg Prod.snd e).symm
 ·rw[decide_eq_false (by assumption)];exact(congrArg Prod.snd e).symm
variable {v s r oaver oastr oarol oabas oalin oaend oacod:Int} {oaoff:List Int} {xoaoff:List (List D)} {oaope ob:Bool}
theorem Xb1(hr:Bi v s r=(⟨oaver,oastr,oarol,oabas,oalin,oaoff,oaend,oaope,oacod⟩,ob))(hoaoff:oaoff.map cI=xoaoff):Fn Tryz.prog 78 [I v,I s,I r] [] ⟨.tup [.agg [I oaver,I oastr,I oarol,I oabas,I oalin,.d (.row 1 xoaoff),I oaend,B oaope,I oacod],B ob],[],[]⟩:=by
 refine Fn.go XeG Tryz.func78 fun P hP Q hQ=>?_
 conv=>cbv
 generalize aa:C0 v=r1
 refine .dd hP (Lh aa) ?_
 cases r1
 simp only[C0,decide_eq_true_eq,decide_eq_false_iff_not]at aa
 conv=>cbv
 have e:((⟨0,0,0,0,0,[],0,false,0⟩:Aa),false)=Bi v s r:=(by unfold Bi;rw[if_neg (by omega)])
 rw[hr]at e
 simp only[Prod.mk.injEq,Aa.mk.injEq]at e
 obtain⟨⟨rfl,rfl,rfl,rfl,rfl,rfl,rfl,rfl,rfl⟩,rfl⟩:=e
 refine hQ _ _ ?_
 exact .many (.inl rfl) rfl rfl (.agg (.d rfl rfl (.d rfl rfl (.d rfl rfl (.d rfl rfl (.d rfl rfl (.ref rfl rfl (by rw[←hoaoff];rfl) (.d rfl rfl (.d rfl rfl (.d rfl rfl (.nil)))))))))) (.d rfl rfl (.nil)))
 simp only[C0,decide_eq_true_eq,decide_eq_false_iff_not]at aa
 conv=>cbv
 generalize ab:Bm s 1 20=r2
 refine .dd hP (Ex ab) ?_
 cases r2
 simp only[Bm,decide_eq_true_eq,decide_eq_false_iff_not]at ab
 conv=>cbv
 have e:((⟨0,0,0,0,0,[],0,false,0⟩:Aa),false)=Bi v s r:=(by unfold Bi;rw[if_neg (by omega)])
 rw[hr]at e
 simp only[Prod.mk.injEq,Aa.mk.injEq]at e
 obtain⟨⟨rfl,rfl,rfl,rfl,rfl,rfl,rfl,rfl,rfl⟩,rfl⟩:=e
 refine hQ _ _ ?_
 exact .many (.inl rfl) rfl rfl (.agg (.d rfl rfl (.d rfl rfl (.d rfl rfl (.d rfl rfl (.d rfl rfl (.ref rfl rfl (by rw[←hoaoff];rfl) (.d rfl rfl (.d rfl rfl (.d rfl rfl (.nil)))))))))) (.d rfl rfl (.nil)))
 simp only[Bm,decide_eq_true_eq,decide_eq_false_iff_not]at ab
 conv=>cbv
 generalize ac:Bm r 1 50=r3
 refine .dd hP (Ex ac) ?_
 cases r3
 simp only[Bm,decide_eq_true_eq,decide_eq_false_iff_not]at ac
 conv=>cbv
 have e:((⟨0,0,0,0,0,[],0,false,0⟩:Aa),false)=Bi v s r:=(by unfold Bi;rw[if_neg (by omega)])
 rw[hr]at e
 simp only[Prod.mk.injEq,Aa.mk.injEq]at e
 obtain⟨⟨rfl,rfl,rfl,rfl,rfl,rfl,rfl,rfl,rfl⟩,rfl⟩:=e
 refine hQ _ _ ?_
 exact .many (.inl rfl) rfl rfl (.agg (.d rfl rfl (.d rfl rfl (.d rfl rfl (.d rfl rfl (.d rfl rfl (.ref rfl rfl (by rw[←hoaoff];rfl) (.d rfl rfl (.d rfl rfl (.d rfl rfl (.nil)))))))))) (.d rfl rfl (.nil)))
 simp only[Bm,decide_eq_true_eq,decide_eq_false_iff_not]at ac
 conv=>cbv
 have e:((⟨v,s,r,0,0,[],0,false,0⟩:Aa),true)=Bi v s r:=(by unfold Bi;rw[if_pos (by omega)])
 rw[hr]at e
 simp only[Prod.mk.injEq,Aa.mk.injEq]at e
 obtain⟨⟨rfl,rfl,rfl,rfl,rfl,rfl,rfl,rfl,rfl⟩,rfl⟩:=e
 refine hQ _ _ ?_
 exact .many (.inl rfl) rfl rfl (.agg (.d rfl rfl (.d rfl rfl (.d rfl rfl (.d rfl rfl (.d rfl rfl (.ref rfl rfl (by rw[←hoaoff];rfl) (.d rfl rfl (.d rfl rfl (.d rfl rfl (.nil)))))))))) (.d rfl rfl (.nil)))
theorem Xbz(hr:Bi v s r=(⟨oaver,oastr,oarol,oabas,oalin,oaoff,oaend,oaope,oacod⟩,ob))(hoaoff:oaoff.map cI=xoaoff):Fn Tryz.prog 75 [I v,I s,I r] [] ⟨.tup [.agg [I oaver,I oastr,I oarol,I oabas,I oalin,.d (.row 1 xoaoff),I oaend,B oaope,I oacod],B ob],[],[]⟩:=by
 refine Fn.go XeG Tryz.func75 fun P hP Q hQ=>?_
 conv=>cbv
 generalize aa:A8 v 1 2=r1
 refine .dd hP (Dk aa) ?_
 cases r1
 simp only[A8,decide_eq_true_eq,decide_eq_false_iff_not]at aa
 conv=>cbv
 have e:((⟨0,0,0,0,0,[],0,false,0⟩:Aa),false)=Bi v s r:=(by unfold Bi;rw[if_neg (by omega)])
 rw[hr]at e
 simp only[Prod.mk.injEq,Aa.mk.injEq]at e
 obtain⟨⟨rfl,rfl,rfl,rfl,rfl,rfl,rfl,rfl,rfl⟩,rfl⟩:=e
 refine hQ _ _ ?_
 exact .many (.inl rfl) rfl rfl (.agg (.d rfl rfl (.d rfl rfl (.d rfl rfl (.d rfl rfl (.d rfl rfl (.ref rfl rfl (by rw[←hoaoff];rfl) (.d rfl rfl (.d rfl rfl (.d rfl rfl (.nil)))))))))) (.d rfl rfl (.nil)))
 simp only[A8,decide_eq_true_eq,decide_eq_false_iff_not]at aa
 conv=>cbv
 generalize ab:A8 s 1 20=r2
 refine .dd hP (Dk ab) ?_
 cases r2
 simp only[A8,decide_eq_true_eq,decide_eq_false_iff_not]at ab
 conv=>cbv
 have e:((⟨0,0,0,0,0,[],0,false,0⟩:Aa),false)=Bi v s r:=(by unfold Bi;rw[if_neg (by omega)])
 rw[hr]at e
 simp only[Prod.mk.injEq,Aa.mk.injEq]at e
 obtain⟨⟨rfl,rfl,rfl,rfl,rfl,rfl,rfl,rfl,rfl⟩,rfl⟩:=e
 refine hQ _ _ ?_
 exact .many (.inl rfl) rfl rfl (.agg (.d rfl rfl (.d rfl rfl (.d rfl rfl (.d rfl rfl (.d rfl rfl (.ref rfl rfl (by rw[←hoaoff];rfl) (.d rfl rfl (.d rfl rfl (.d rfl rfl (.nil)))))))))) (.d rfl rfl (.nil)))
 simp only[A8,decide_eq_true_eq,decide_eq_false_iff_not]at ab
 conv=>cbv
 generalize ac:A8 r 1 50=r3
 refine .dd hP (Dk ac) ?_
 cases r3
 simp only[A8,decide_eq_true_eq,decide_eq_false_iff_not]at ac
 conv=>cbv
 have e:((⟨0,0,0,0,0,[],0,false,0⟩:Aa),false)=Bi v s r:=(by unfold Bi;rw[if_neg (by omega)])
 rw[hr]at e
 simp only[Prod.mk.injEq,Aa.mk.injEq]at e
 obtain⟨⟨rfl,rfl,rfl,rfl,rfl,rfl,rfl,rfl,rfl⟩,rfl⟩:=e
 refine hQ _ _ ?_
 exact .many (.inl rfl) rfl rfl (.agg (.d rfl rfl (.d rfl rfl (.d rfl rfl (.d rfl rfl (.d rfl rfl (.ref rfl rfl (by rw[←hoaoff];rfl) (.d rfl rfl (.d rfl rfl (.d rfl rfl (.nil)))))))))) (.d rfl rfl (.nil)))
 simp only[A8,decide_eq_true_eq,decide_eq_false_iff_not]at ac
 conv=>cbv
 have e:((⟨v,s,r,0,0,[],0,false,0⟩:Aa),true)=Bi v s r:=(by unfold Bi;rw[if_pos (by omega)])
 rw[hr]at e
 simp only[Prod.mk.injEq,Aa.mk.injEq]at e
 obtain⟨⟨rfl,rfl,rfl,rfl,rfl,rfl,rfl,rfl,rfl⟩,rfl⟩:=e
 refine hQ _ _ ?_
 exact .many (.inl rfl) rfl rfl (.agg (.d rfl rfl (.d rfl rfl (.d rfl rfl (.d rfl rfl (.d rfl rfl (.ref rfl rfl (by rw[←hoaoff];rfl) (.d rfl rfl (.d rfl rfl (.d rfl rfl (.nil)))))))))) (.d rfl rfl (.nil)))
end
section
open Go Go.Proofs
set_option maxRecDepth 20000
set_option maxHeartbeats 4000000
open Go.Lib
open Go.RowKit
abbrev zE:Value:=.agg #[.string ⟨#[]⟩,.int .i64 0]
theorem XdI:∃i,Tryz.prog.info? 133=some i∧i.zero=some zE∧i.size=2∧i.bytes=24:=by
 have h:(Tryz.prog.info? 133).map (fun i=>(i.zero,i.size,i.bytes))=some (some zE,2,24):=by kernel_rfl
 obtain⟨i,hi,h⟩:=Option.map_eq_some_iff.1 h
 simp only[Prod.mk.injEq]at h
 exact⟨i,hi,h.1,h.2.1,h.2.2⟩
theorem Ur{w:World}{b o:Nat}{vs:List Value}{N:Nat}(h:∀j,j<N→(w.cell? ⟨b,j,none⟩).isSome=true)(hle:o+vs.length≤N):∀j,j<N→((w.setCells b o vs).cell? ⟨b,j,none⟩).isSome=true:=
 fun j hj=>isSome_setCells b _ _ _ (fun t ht=>h _ (by omega)) _ (h _ hj)
theorem XjC(w:World)(ty b o c:Nat)(hc:∀j,j<2→(w.cell? ⟨b,o+j,none⟩).isSome=true)(hf:∀j,j<2→w.frozen? ⟨b,o+j,none⟩=false):
  (Builtin.clear_ #[38] ty #[.slice (some ⟨b,o,none⟩) 1 c]).run Tryz.prog w= .ok (.tuple #[]) (w.setCells b o [.string ⟨#[]⟩,.int .i64 0]):=by
 obtain⟨i,hi,hz,hs,_⟩:=XdI
 have hst:=run_storeCells_cells (P:=Tryz.prog) b o [.string ⟨#[]⟩,.int .i64 0] 0 w (by simpa using hc) (by simpa using hf) (by intro v hv;simp at hv;rcases hv with rfl|rfl<;>rfl)
 simp only[Nat.add_zero]at hst
 have hzc:(Builtin.zeroCells zE.cells 1).toList=[.string ⟨#[]⟩,.int .i64 0]:=by simp[Builtin.zeroCells,Value.cells,List.range_succ]
 simp[Builtin.clear_,run_underlying Tryz.underlying38,zeroValue,typeInfo,hi,hz,hzc,hst]
theorem delE(b n cap i j:Nat)(w:World)(cs:List Value)(hi:i<n)(hj:j=i+1)(hnc:n≤cap)(hm:n≤4000000000)(hcl:cs.length=n*2)(h1c:∀u∈cs,u.oneCell'=true)
  (hcs:∀j v,cs[j]? =some v→w.cell? ⟨b,j,none⟩=some v)(hfz:∀j,j<n*2→w.frozen? ⟨b,j,none⟩=false):
  Calls Tryz.prog 308 #[.slice (some ⟨b,0,none⟩) n cap,.int .i64 i,.int .i64 j] w fun e w'=>e= .returned (.slice (some ⟨b,0,none⟩) (n - 1) cap)∧
   w'=(w.drew.setCells b (i*2) (cs.drop (j*2))).setCells b ((n - 1)*2) [.string ⟨#[]⟩,.int .i64 0]:=by
 obtain⟨i0,aa,ac,ab,ad⟩:=XdI
 have hlen:(cs.drop (j*2)).length=(n - j)*2:=by rw[List.length_drop];omega
 obtain⟨A,hA,hsrc⟩:∃A:Addr,(if cap=j then some (⟨b,0,none⟩:Addr)else some ⟨b,j*2,none⟩)=some A∧Hid (∀t u,(cs.drop (j*2))[t]? =some u→w.drew.cell? (A.add t)=some u):=by
  by_cases h:cap=j
  ·refine⟨⟨b,0,none⟩,by simp[h],fun t u hu=>?_⟩
   have h0:(cs.drop (j*2)).length=0:=by omega
   rw[List.length_eq_zero_iff.1 h0]at hu
   simp at hu
  ·refine⟨⟨b,j*2,none⟩,by simp[h],fun t u hu=>?_⟩
   rw[List.getElem?_drop]at hu
   rw[Addr.add_lit]
   exact hcs _ _ hu
 have s1:Hid ((cs.drop (j*2)).length=(n - j)*2):=hlen
 have s2:Hid (∀u∈cs.drop (j*2),u.oneCell'=true):=fun u hu=>h1c u (List.mem_of_mem_drop hu)
 have hsome:∀j,j<n*2→(w.cell? ⟨b,j,none⟩).isSome=true:=fun j hj=>by rw[hcs j _ (List.getElem?_eq_getElem (by omega))];rfl
 have s3:Hid (∀t,t<(cs.drop (j*2)).length→(w.drew.cell? ⟨b,0+i*2+t,none⟩).isSome=true∧w.drew.frozen? ⟨b,0+i*2+t,none⟩=false):=by
  intro t ht
  exact⟨hsome _ (by omega),hfz _ (by omega)⟩
 obtain⟨W1,hW1⟩:∃W1,W1=w.drew.setCells b (0+i*2) (cs.drop (j*2)):=⟨_,rfl⟩
 have hcl:∀ty,(Builtin.clear_ #[38] ty #[.slice (some ⟨b,(i+(n - j))*2,none⟩) (n - (i+(n - j))) (cap - (i+(n - j)))]).run Tryz.prog W1= .ok (.tuple #[]) (W1.setCells b ((n - 1)*2) [.string ⟨#[]⟩,.int .i64 0]):=fun ty=>by
  rw[show n - (i+(n - j))=1 by omega,show i+(n - j)=n - 1 by omega]
  refine XjC W1 ty b ((n - 1)*2) _ (fun k hk=>?_) (fun k hk=>?_)
  ·rw[hW1]
   exact Ur (w:=w.drew) hsome (by omega) _ (by omega)
  ·rw[hW1,World.frozen?_setCells]
   exact hfz _ (by omega)
 have hW:Hid (W1=w.drew.setCells b (0+i*2) (cs.drop (j*2))):=hW1
 have hic:i≤cap:=by omega
 have hjc:j≤cap:=by omega
 have hij:i≤j:=by omega
 have hjn:j≤n:=by omega
 have hne:¬(i:Int)=(j:Int):=by omega
 have mixed:Tryz.prog.follows .mixedOrders=true:=by kernel_rfl
 have hjH:Hid (j=i+1):=hj
 have hjl:i<j:=by omega
 clear hj hW1 hlen hsome hcs hfz
 go_enter Tryz.func308,Tryz.ntmps308
 go_wp2_with fail
 go_region_law_o (refine step_append_room rfl (.tmp 22) (.tmp 25) 38 rfl 133 i0 2 Tryz.underlying38 aa ab b 0 i cap (by simp[Act.eval,Act.put]) A (n - j) (cap - j) (cs.drop (j*2)) (by simp[Act.eval,Act.put]) s1.out hsrc.out s2.out (by omega) s3.out ?_;rw[←hW.out])
 go_wp2
 go_ret
 refine⟨by have:=hjH.out;rw[show n - 1=i+(n - j)by omega];rfl,?_⟩
 rw[hW.out,Nat.zero_add]
theorem G3{P:Program}(w:World)(dT sT ty elem sz:TypeId)(b o dLen dCap:Nat)(a:Addr)(Xin sCap:Nat)(cs:List Value)
  (hu:P.underlying dT=some (.slice elem))(hs:(P.info? elem).map (·.size)=some sz)(hn:cs.length=Nat.min Xin dLen*sz)
  (hsrc:∀j v,cs[j]? =some v→w.cell? (a.add j)=some v)(hc:∀j,j<cs.length→(w.cell? ⟨b,o+j,none⟩).isSome=true)(hf:∀j,j<cs.length→w.frozen? ⟨b,o+j,none⟩=false)(h1:∀v∈cs,v.oneCell'=true):
  (Builtin.copy_ #[dT,sT] ty #[.slice (some ⟨b,o,none⟩) dLen dCap,.slice (some a) Xin sCap]).run P w= .ok (goInt (Nat.min Xin dLen)) (w.setCells b o cs):=by
 have hl:=run_loadCells_list (P:=P) w a cs hsrc
 have hst:=run_storeCells_cells (P:=P) b o cs 0 w (by simpa using hc) (by simpa using hf) h1
 cases hq:P.info? elem with
 |none=>simp[hq]at hs
 |some i=>
  have hi:i.size=sz:=by simpa[hq]using hs
  simp[Builtin.copy_,run_underlying hu,Builtin.lenOf,Builtin.firstCells,sizeOf,typeInfo,hq,hi,←hn,hl,hst]
theorem szE:(Tryz.prog.info? 133).map (·.size)=some 2:=by kernel_rfl
theorem XdT(b n c i vb vc:Nat)(cs vs:List Value)(w:World)(hi:i<n)(hroom:n+1≤c)(hm:n≤4000000000)(hvb:vb≠b)
  (hcl:cs.length=n*2)(hvl:vs.length=2)
  (hcs:∀j v,cs[j]? =some v→w.cell? ⟨b,j,none⟩=some v)(hsp:∀j,j<(n+1)*2→(w.cell? ⟨b,j,none⟩).isSome=true)(hfz:∀j,j<(n+1)*2→w.frozen? ⟨b,j,none⟩=false)
  (hvs:∀j v,vs[j]? =some v→w.cell? ⟨vb,j,none⟩=some v)(h1c:∀v∈cs,v.oneCell'=true)(h1v:∀v∈vs,v.oneCell'=true)
  (tA tB:TypeId)(kA kB:Nat)(hsa:w.shape? vb=some (tA,kA))(hsb:w.shape? b=some (tB,kB))(hkB:kB≠0)(hfa:w.frozen? ⟨vb,0,none⟩=false)(hfe:w.frozen? ⟨vb,kA,none⟩=false):
  Calls Tryz.prog 307 #[.slice (some ⟨b,0,none⟩) n c,.int .i64 i,.slice (some ⟨vb,0,none⟩) 1 vc] w fun e w'=>
   e= .returned (.slice (some ⟨b,0,none⟩) (n+1) c)∧w'=(w.drew.setCells b ((i+1)*2) (cs.drop (i*2))).setCells b (i*2) vs:=by
 have ab:¬((i:Int)=(n:Int)):=by omega
 have hsz:=szE
 obtain⟨i0,aa,ac,hzs,hzb⟩:=XdI
 have hszo:∀w,(Go.sizeOf 133).run Tryz.prog w= .ok 2 w:=fun w=>by simp[Go.sizeOf,typeInfo,aa,hzs]
 have hov:∀lb cb,(callFunc 332 #[.slice (some ⟨vb,0,none⟩) 1 vc,.slice (some ⟨b,(i+1)*2,none⟩) lb cb]).run Tryz.prog w= .ok (.value (.bool false)) w:=fun lb cb=>by
  rw[run_callFunc_extern Tryz.func332 (by kernel_rfl) (by kernel_rfl) (by kernel_rfl) (e:=Extern.SlicesOverlaps.overlaps #[38,38] #[4]) (by kernel_rfl),
   Lib.run_overlaps_apart w 38 4 133 Tryz.underlying38 2 hszo ⟨vb,0,none⟩ ⟨b,(i+1)*2,none⟩ 1 vc lb cb hvb tA tB kA kB hsa hsb hkB hfa hfe]
  rfl
 have hdl:(cs.drop (i*2)).length=(n - i)*2:=by rw[List.length_drop,hcl];omega
 have mixed:Tryz.prog.follows .mixedOrders=true:=by kernel_rfl
 have ad:IntKind.i64.wrap ((i:Int)+1)=(i:Int)+1:=by rw[IntKind.wrap_i64];omega
 have ae:(0:Int)≤(i:Int)+1:=by omega
 have hin:i≤n:=by omega
 have htn:((i:Int)+1).toNat=i+1:=by omega
 have hb2:¬(c=i+1):=by omega
 have af:(i:Int)≤(n:Int)+1:=by omega
 have ag:¬(c=i):=by omega
 have hcp1:∀ty dc sc,(Builtin.copy_ #[38,38] ty #[.slice (some ⟨b,(i+1)*2,none⟩) (n - i) dc,.slice (some ⟨b,i*2,none⟩) (n+1 - i) sc]).run Tryz.prog w.drew= .ok (goInt (Nat.min (n+1 - i) (n - i))) (w.drew.setCells b ((i+1)*2) (cs.drop (i*2))):=fun ty dc sc=>
  G3 w.drew _ _ ty 133 2 b ((i+1)*2) (n - i) dc ⟨b,i*2,none⟩ (n+1 - i) sc (cs.drop (i*2)) Tryz.underlying38 hsz (by rw[hdl];simp only[Nat.min_def];split<;>omega)
   (fun j v hj=>by rw[Addr.add_lit];exact hcs (i*2+j) v (by rwa[List.getElem?_drop]at hj))
   (fun j hj=>hsp _ (by omega)) (fun j hj=>hfz _ (by omega)) (fun v hv=>h1c v (List.mem_of_mem_drop hv))
 obtain⟨W1,hW1⟩:∃W1,W1=w.drew.setCells b ((i+1)*2) (cs.drop (i*2)):=⟨_,rfl⟩
 have hsp1:∀k,k<(n+1)*2→(W1.cell? ⟨b,k,none⟩).isSome=true:=fun k hk=>by
  rw[hW1]
  exact Ur (w:=w.drew) hsp (by omega) _ hk
 have hcp2:∀(W:World),(∀x,W.cell? x=W1.cell? x)→(∀x,W.frozen? x=W1.frozen? x)→∀ty dc,(Builtin.copy_ #[38,38] ty #[.slice (some ⟨b,i*2,none⟩) (n+1 - i) dc,.slice (some ⟨vb,0,none⟩) 1 vc]).run Tryz.prog W= .ok (goInt (Nat.min 1 (n+1 - i))) (W.setCells b (i*2) vs):=fun W hWc hWf ty dc=>
  G3 W _ _ ty 133 2 b (i*2) (n+1 - i) dc ⟨vb,0,none⟩ 1 vc vs Tryz.underlying38 hsz (by rw[hvl];simp only[Nat.min_def];split<;>omega)
   (fun j v hj=>by
    rw[Addr.add_lit,hWc,hW1,World.cell?_setCells_out b _ _ _ _ (fun h _=>absurd h hvb),Nat.zero_add]
    exact hvs j v hj)
   (fun j hj=>by rw[hWc];exact hsp1 _ (by omega)) (fun j hj=>by rw[hWf,hW1,World.frozen?_setCells];exact hfz _ (by omega)) h1v
 rw[←hW1]at hcp1
 go_enter Tryz.func307,Tryz.ntmps307
 go_wp2_with (simp only[hov])
 go_region_law_o (refine step_copy_runI rfl _ _ 38 38 rfl _ _ (by simp[Act.eval,Act.put]) (by simp[Act.eval,Act.put]) (hcp1 _ _ _) ?_)
 go_wp2_with (at_builtin;refine wpList_copy_runI _ rfl _ _ 38 38 rfl _ _ rfl rfl (hcp2 _ (fun _=>rfl) (fun _=>rfl) _ _) ?_)
 go_ret
 first|exact⟨rfl,rfl⟩|exact⟨rfl,by rw[hW1]⟩
theorem XjO{need old:Nat}(h:old<need)(hb:need≤1000000000*8):Builtin.nextslicecap need old*24≤281474976710656:=by
 have:=V4 h
 have:=Nat.mul_le_mul_right 24 this
 omega
theorem X3(b n c vb vc:Nat)(vs:List Value)(w:World)(hroom:n+1≤c)(hm:n≤4000000000)
  (hvl:vs.length=2)(hsp:∀j,j<2→(w.cell? ⟨b,n*2+j,none⟩).isSome=true)(hfz:∀j,j<2→w.frozen? ⟨b,n*2+j,none⟩=false)
  (hvs:∀j v,vs[j]? =some v→w.cell? ⟨vb,j,none⟩=some v)(h1v:∀v∈vs,v.oneCell'=true):
  Calls Tryz.prog 307 #[.slice (some ⟨b,0,none⟩) n c,.int .i64 n,.slice (some ⟨vb,0,none⟩) 1 vc] w fun e w'=>
   e= .returned (.slice (some ⟨b,0,none⟩) (n+1) c)∧w'=w.setCells b (n*2) vs:=by
 obtain⟨i0,aa,ab,hzs,hzb⟩:=XdI
 have hsrc:Go.Src Tryz.prog i0.size 38 (.slice (some ⟨vb,0,none⟩) 1 vc) 1 vs w:=by
  rw[hzs]
  exact Go.Src.ofSlice w Tryz.underlying38 ⟨vb,0,none⟩ 1 vc vs (by omega) (fun j u hj=>by rw[Addr.add_lit,Nat.zero_add];exact hvs j u hj) h1v
 have hrun:∀ty,(Builtin.append_ #[38,38] ty #[.slice (some ⟨b,0,none⟩) n c,.slice (some ⟨vb,0,none⟩) 1 vc]).run Tryz.prog w= .ok (.slice (some ⟨b,0,none⟩) (n+1) c) (w.setCells b (n*2) vs):=fun ty=>by
  have h:=run_append_room_src w 38 38 ty 133 i0 Tryz.underlying38 aa b 0 n c _ 1 vs hsrc hroom (fun j hj=>by rw[hzs,Nat.zero_add];exact hsp j (by omega)) (fun j hj=>by rw[hzs,Nat.zero_add];exact hfz j (by omega))
  rw[hzs,Nat.zero_add]at h
  exact h
 go_enter Tryz.func307,Tryz.ntmps307
 go_wp2_with (at_builtin;refine Lib.wpList_append_run _ rfl _ _ _ _ rfl _ _ rfl rfl _ _ (hrun _) ?_)
 go_ret
 exact⟨rfl,rfl⟩
theorem Pk(base:Option Addr)(n c vb vc:Nat)(cs vs:List Value)(w:World)(hnc:n≤c)(hroom:c<n+1)(hbig:n≤4000000000)
  (hcl:cs.length=n*2)(hvl:vs.length=2)(hnil:base=none→n=0)
  (hcs:∀a,base=some a→∀j v,cs[j]? =some v→w.cell? (a.add j)=some v)
  (hvs:∀j v,vs[j]? =some v→w.cell? ⟨vb,j,none⟩=some v)(h1v:∀v∈vs,v.oneCell'=true):
  Calls Tryz.prog 307 #[.slice base n c,.int .i64 n,.slice (some ⟨vb,0,none⟩) 1 vc] w fun e w'=>
   e= .returned (.slice (some ⟨w.heap.size,0,none⟩) (n+1) (grownCap w (n+1) c 133))∧
   w'=w.drew.alloc (.cells ((cs++vs).toArray++Builtin.zeroCells zE.cells (grownCap w (n+1) c 133 - (n+1))) 133):=by
 obtain⟨i0,aa,ac,hzs,hzb⟩:=XdI
 have hsrc:Go.Src Tryz.prog i0.size 38 (.slice (some ⟨vb,0,none⟩) 1 vc) 1 vs w:=by
  rw[hzs]
  exact Go.Src.ofSlice w Tryz.underlying38 ⟨vb,0,none⟩ 1 vc vs (by omega) (fun j u hj=>by rw[Addr.add_lit,Nat.zero_add];exact hvs j u hj) h1v
 have hold:(Builtin.firstCells i0.size n (.slice base n c)).run Tryz.prog w.drew= .ok cs.toArray w.drew:=by
  rw[hzs]
  cases base with
  |none=>
   have h0:=hnil rfl
   subst h0
   rw[List.length_eq_zero_iff.1 hcl]
   exact run_firstCells_none w.drew 2 0 0 c
  |some a=>exact run_firstCells_some w.drew 2 n a n c cs (by omega) (fun j v hj=>hcs a rfl j v hj)
 have hrun:∀ty,(Builtin.append_ #[38,38] ty #[.slice base n c,.slice (some ⟨vb,0,none⟩) 1 vc]).run Tryz.prog w=_:=fun ty=>
  run_append_grow_src w 38 38 ty 133 i0 _ Tryz.underlying38 aa ac base n c cs hold _ 1 vs hsrc hroom (by omega) (by rw[hzb];exact XjO hroom (by omega))
 go_enter Tryz.func307,Tryz.ntmps307
 cases base with
 |none=>
  have h0:=hnil rfl
  subst h0
  go_wp2_with (at_builtin;refine Lib.wpList_append_run _ rfl _ _ _ _ rfl _ _ rfl rfl _ _ (hrun _) ?_)
  go_ret
  exact⟨rfl,rfl⟩
 |some a=>
  obtain⟨ab,ao,asp⟩:=a
  go_wp2_with (at_builtin;refine Lib.wpList_append_run _ rfl _ _ _ _ rfl _ _ rfl rfl _ _ (hrun _) ?_)
  all_goals (go_ret;exact⟨rfl,rfl⟩)
theorem Xf0(b n c i vb vc:Nat)(cs vs:List Value)(w:World)(hi:i<n)(hnc:n≤c)(hroom:c<n+1)(hbig:n≤4000000000)
  (hcl:cs.length=n*2)(hvl:vs.length=2)
  (hcs:∀j v,cs[j]? =some v→w.cell? ⟨b,j,none⟩=some v)
  (hvs:∀j v,vs[j]? =some v→w.cell? ⟨vb,j,none⟩=some v)(h1c:∀v∈cs,v.oneCell'=true)(h1v:∀v∈vs,v.oneCell'=true):
  Calls Tryz.prog 307 #[.slice (some ⟨b,0,none⟩) n c,.int .i64 i,.slice (some ⟨vb,0,none⟩) 1 vc] w fun e w'=>
   e= .returned (.slice (some ⟨w.heap.size,0,none⟩) (n+1) (grownCap w (n+1) c 133))∧
   w'=(((w.alloc (.cells ((cs.take (i*2)).toArray++Builtin.zeroCells zE.cells (n+1 - i)++Builtin.zeroCells zE.cells (grownCap w (n+1) c 133 - (n+1))) 133)).drew.setCells w.heap.size (i*2) vs).drew).setCells w.heap.size ((i+1)*2) (cs.drop (i*2)):=by
 have mixed:Tryz.prog.follows .mixedOrders=true:=by kernel_rfl
 obtain⟨i0,aa,ab,hzs,hzb⟩:=XdI
 have ac:¬((i:Int)=(n:Int)):=by omega
 have ad:(c:Int)<(n:Int)+1:=by omega
 have hsz:=szE
 have hbw:b<w.heap.size:=block_lt_of_cell (hcs 0 _ (List.getElem?_eq_getElem (by omega)))
 have hvw:vb<w.heap.size:=block_lt_of_cell (hvs 0 _ (List.getElem?_eq_getElem (by omega)))
 have hkk:(n:Int)+1 - (i:Int)=((n+1 - i:Nat):Int):=by omega
 have hik:i+(n+1 - i)=n+1:=by omega
 have hold:(Builtin.firstCells i0.size i (.slice (some ⟨b,0,none⟩) i c)).run Tryz.prog w.drew= .ok (cs.take (i*2)).toArray w.drew:=by
  rw[hzs]
  exact run_firstCells_some w.drew 2 i ⟨b,0,none⟩ i c (cs.take (i*2)) (by rw[List.length_take];omega) (fun j v hj=>by
   rw[Addr.add_lit,Nat.zero_add]
   rw[List.getElem?_take]at hj
   split at hj
   ·exact hcs j v hj
   ·cases hj)
 have hrz:∀ty,(Builtin.append_ #[38,3] ty #[.slice (some ⟨b,0,none⟩) i c,.int .i64 ((n:Int)+1 - (i:Int))]).run Tryz.prog w=
   .ok (.slice (some ⟨w.heap.size,0,none⟩) (n+1) (grownCap w (n+1) c 133)) (w.drew.alloc (.cells ((cs.take (i*2)).toArray++Builtin.zeroCells zE.cells (n+1 - i)++Builtin.zeroCells zE.cells (grownCap w (n+1) c 133 - (n+1))) 133)):=fun ty=>by
  have h:=Lib.run_append_grow_zeros w 38 3 ty 133 i0 _ .i64 .i64 Tryz.underlying38 Tryz.underlying3 aa ab (some ⟨b,0,none⟩) i c (cs.take (i*2)) hold (n+1 - i) (by omega) (by omega) (by omega) (by omega) (by rw[hzb];omega) (by rw[hzb,hik];exact XjO hroom (by omega))
  rw[hik]at h
  rw[hkk]
  exact h
 obtain⟨G,hG⟩:∃G,G=grownCap w (n+1) c 133:=⟨_,rfl⟩
 obtain⟨ROW,hROW⟩:∃ROW:Array Value,ROW=(cs.take (i*2)).toArray++Builtin.zeroCells zE.cells (n+1 - i)++Builtin.zeroCells zE.cells (G - (n+1)):=⟨_,rfl⟩
 rw[←hG]at hrz⊢
 rw[←hROW]at hrz⊢
 have hRl:(n+1)*2≤ROW.size:=by
  rw[hROW]
  simp[Builtin.zeroCells,Value.cells]
  omega
 obtain⟨W1,hW1⟩:∃W1,W1=w.drew.alloc (.cells ROW 133):=⟨_,rfl⟩
 rw[←hW1]at hrz
 have hN:∀j,j<(n+1)*2→(W1.cell? ⟨w.heap.size,j,none⟩).isSome=true:=fun j hj=>by
  rw[hW1,World.cell?_alloc_at (w:=w.drew) ROW _ w.heap.size j rfl,Array.getElem?_eq_getElem (by omega)];rfl
 have hNf:∀j,W1.frozen? ⟨w.heap.size,j,none⟩=false:=fun j=>by rw[hW1];exact World.frozen?_alloc_at (w:=w.drew) ROW _ w.heap.size j rfl
 have hOb:∀j v,w.cell? ⟨b,j,none⟩=some v→W1.cell? ⟨b,j,none⟩=some v:=fun j v h=>by rw[hW1,World.cell?_alloc_past (w:=w.drew) _ b j hbw];exact h
 have hOv:∀j v,w.cell? ⟨vb,j,none⟩=some v→W1.cell? ⟨vb,j,none⟩=some v:=fun j v h=>by rw[hW1,World.cell?_alloc_past (w:=w.drew) _ vb j hvw];exact h
 have hcpA:∀(W:World),(∀x,W.cell? x=W1.cell? x)→(∀x,W.frozen? x=W1.frozen? x)→∀ty dc,(Builtin.copy_ #[38,38] ty #[.slice (some ⟨w.heap.size,i*2,none⟩) (n+1 - i) dc,.slice (some ⟨vb,0,none⟩) 1 vc]).run Tryz.prog W= .ok (goInt (Nat.min 1 (n+1 - i))) (W.setCells w.heap.size (i*2) vs):=fun W hWc hWf ty dc=>
  G3 W _ _ ty 133 2 w.heap.size (i*2) (n+1 - i) dc ⟨vb,0,none⟩ 1 vc vs Tryz.underlying38 hsz (by rw[hvl];simp only[Nat.min_def];split<;>omega)
   (fun j v hj=>by rw[Addr.add_lit,hWc,Nat.zero_add];exact hOv _ v (hvs j v hj))
   (fun j hj=>by rw[hWc];exact hN _ (by omega)) (fun j hj=>by rw[hWf];exact hNf _) h1v
 have hGn:n+1≤G:=by rw[hG];exact grownCap_ge w _ _ _
 have hG63:G≤9223372036854775807:=by
  have:=grownCap_le_maxLen w (n+1) c 133 (by unfold maxLen;omega)
  rw[←hG]at this
  unfold maxLen at this
  omega
 have hGi:¬(G=i):=by omega
 have hGim:¬(G=i+1):=by omega
 have hci:¬(c=i):=by omega
 have hbN:b≠w.heap.size:=by omega
 have hdl:(cs.drop (i*2)).length=(n - i)*2:=by rw[List.length_drop,hcl];omega
 have hcpB:∀(W:World),(∀x,W.cell? x=(W1.setCells w.heap.size (i*2) vs).cell? x)→(∀x,W.frozen? x=(W1.setCells w.heap.size (i*2) vs).frozen? x)→∀ty dc sc,(Builtin.copy_ #[38,38] ty #[.slice (some ⟨w.heap.size,(i+1)*2,none⟩) (n - i) dc,.slice (some ⟨b,i*2,none⟩) (n - i) sc]).run Tryz.prog W= .ok (goInt (Nat.min (n - i) (n - i))) (W.setCells w.heap.size ((i+1)*2) (cs.drop (i*2))):=fun W hWc hWf ty dc sc=>
  G3 W _ _ ty 133 2 w.heap.size ((i+1)*2) (n - i) dc ⟨b,i*2,none⟩ (n - i) sc (cs.drop (i*2)) Tryz.underlying38 hsz (by rw[hdl];simp only[Nat.min_def];split<;>omega)
   (fun j v hj=>by
    rw[Addr.add_lit,hWc,World.cell?_setCells_out _ _ _ _ _ (fun h _=>absurd h hbN)]
    exact hOb _ v (hcs (i*2+j) v (by rwa[List.getElem?_drop]at hj)))
   (fun j hj=>by rw[hWc];exact Ur (w:=W1) hN (by omega) _ (by omega))
   (fun j hj=>by rw[hWf,World.frozen?_setCells];exact hNf _) (fun v hv=>h1c v (List.mem_of_mem_drop hv))
 subst hW1
 have hE1:∀x,((w.alloc (.cells ROW 133)).drew).cell? x=(w.drew.alloc (.cells ROW 133)).cell? x:=fun x=>rfl
 have hE2:∀x,((w.alloc (.cells ROW 133)).drew).frozen? x=(w.drew.alloc (.cells ROW 133)).frozen? x:=fun x=>rfl
 have hF1:∀x,(((w.alloc (.cells ROW 133)).drew.setCells w.heap.size (i*2) vs).drew).cell? x=((w.drew.alloc (.cells ROW 133)).setCells w.heap.size (i*2) vs).cell? x:=fun x=>rfl
 have hF2:∀x,(((w.alloc (.cells ROW 133)).drew.setCells w.heap.size (i*2) vs).drew).frozen? x=((w.drew.alloc (.cells ROW 133)).setCells w.heap.size (i*2) vs).frozen? x:=fun x=>rfl
 have ae:IntKind.i64.wrap ((i:Int)+1)=(i:Int)+1:=by rw[IntKind.wrap_i64];omega
 have af:(0:Int)≤(i:Int)+1:=by omega
 have hin:i≤n:=by omega
 have htn:((i:Int)+1).toNat=i+1:=by omega
 have ag:(i:Int)≤(n:Int):=by omega
 clear hkk hik hold hROW hG hRl
 go_enter Tryz.func307,Tryz.ntmps307
 go_wp2_with (first
  |(at_builtin;refine Lib.wpList_append_run _ rfl _ _ _ _ rfl _ _ rfl rfl _ _ (hrz _) ?_)
  |(at_builtin;refine wpList_copy_runI _ rfl _ _ 38 38 rfl _ _ rfl rfl (hcpA _ hE1 hE2 _ _) ?_)
  |(at_builtin;refine wpList_copy_runI _ rfl _ _ 38 38 rfl _ _ rfl rfl (hcpB _ (fun _=>rfl) (fun _=>rfl) _ _ _) ?_))
 go_region_law_o (refine step_copy_runI rfl _ _ 38 38 rfl (.slice (some ⟨w.heap.size,(i+1)*2,none⟩) (n - i) (G - (i+1))) (.slice (some ⟨b,i*2,none⟩) (n - i) (c - i)) (by simp[Act.eval,Act.put]) (by simp[Act.eval,Act.put]) (hcpB _ hF1 hF2 3 (G - (i+1)) (c - i)) ?_)
 go_wp2
 go_ret
 exact⟨rfl,rfl⟩
theorem Wrote.trans{w w1 w2:World}{b:Nat}{cs c1 c2:Array Value}{t:TypeId}{fr:Nat×Nat}(h:Wrote w w1 b cs c1 t fr)(k:Wrote w1 w2 b c1 c2 t fr):Wrote w w2 b cs c2 t fr:=
 ⟨k.at_,k.size.trans h.size,fun x hx=>(k.others x hx).trans (h.others x hx),k.hsize.trans h.hsize,k.os.trans h.os,k.output.trans h.output,k.tape.trans h.tape⟩
theorem Wrote.ofDrew{w w1:World}{b:Nat}{cs c1:Array Value}{t:TypeId}{fr:Nat×Nat}(h:Wrote w.drew w1 b cs c1 t fr):Wrote w w1 b cs c1 t fr:=
 ⟨h.at_,h.size,h.others,h.hsize,h.os,h.output,h.tape⟩
theorem Xe5{c:Ctx}{E:Env}(hM:Mem c E){r n sz:Nat}{xs:List (List D)}{v:Value}(hr:E.rt r=some (.row sz false xs))(hp:E.pres r)(hv:RelAV E (.ref r 0 n) v)(hn:n=xs.length)(hsz:0<sz):
  (n=0∧∃a,v= .slice a 0 0)∨∃b cap cs t fr,v= .slice (some ⟨b,0,none⟩) n cap∧E.β r=some b∧E.w.heap[b]? =some (.cells cs t fr)∧n≤cap∧cap*sz≤cs.size∧Hu cs.size fr∧XaS sz fr∧(∀(i:Nat) x,xs[i]? =some x→x.length=sz)∧
   (∀(i:Nat) x (j:Nat) y,xs[i]? =some x→x[j]? =some y→∃u,cs[i*sz+j]? =some u∧RelD E.w E.S y u)∧
   (cs.toList.take (n*sz)).length=n*sz∧(∀(k:Nat),k<n*sz→(cs.toList.take (n*sz))[k]? =cs[k]?)∧(∀u∈cs.toList.take (n*sz),u.oneCell'=true):=by
 cases hv with
 |dref r off len v h1 ho=>rw[hr]at h1;cases h1
 |refz r off R sz0 a h1 hk h2=>exact .inl ⟨rfl,a,rfl⟩
 |ref r off len R sz0 b cap t0 N h1 hk h2 h3 h4 h5 h6=>
  rw[hr]at h1
  obtain rfl:=Option.some.inj h1
  simp only[Root.kind,Kind.row.injEq]at hk
  subst hk
  rcases hM.roots r _ hp hr with⟨hb',_⟩|⟨b',cs,t,fr,hb',hh,hxl,hxs,hxr,hfz⟩
  ·rw[h3]at hb';cases hb'
  rw[h3]at hb'
  obtain rfl:=Option.some.inj hb'
  rcases hfz with⟨hf,_⟩|⟨_,hnS,hfr⟩
  ·cases hf
  have hN:N=cs.size:=by
   unfold World.shape? at h4
   rw[hh]at h4
   exact(Prod.mk.inj (Option.some.inj h4)).2.symm
  subst hN
  rw[Nat.zero_add]at h6
  have hle:n*sz≤cs.size:=Nat.le_trans (Nat.mul_le_mul_right _ h5) h6
  have hget:∀(k:Nat),k<n*sz→(cs.toList.take (n*sz))[k]? =cs[k]? :=fun k hk=>by rw[List.getElem?_take,if_pos hk,Array.getElem?_toList]
  refine .inr ⟨b,cap,cs,t,fr,by rw[Nat.zero_mul],h3,hh,h5,h6,hfr.1,hfr.2,hxl,hxr,by rw[List.length_take,Array.length_toList];omega,hget,?_⟩
  intro u hu
  obtain⟨k,hk⟩:=List.getElem?_of_mem hu
  have hkl:k<n*sz:=by
   have:=(List.getElem?_eq_some_iff.1 hk).1
   rw[List.length_take,Array.length_toList]at this
   omega
  rw[hget k hkl]at hk
  have hi:k/sz<xs.length:=by rw[←hn];exact(Nat.div_lt_iff_lt_mul hsz).2 hkl
  have hj:k% sz<sz:=Nat.mod_lt _ hsz
  have hx:=List.getElem?_eq_getElem hi
  have hxl':=hxl _ _ hx
  obtain⟨u',hu',hrel⟩:=hxr (k/sz) _ (k% sz) _ hx (List.getElem?_eq_getElem (by rw[hxl'];exact hj))
  have e:k/sz*sz+k% sz=k:=by rw[Nat.mul_comm];exact Nat.div_add_mod k sz
  rw[e,hk]at hu'
  rw[Option.some.inj hu']
  exact hrel.one
theorem XhM{c:Ctx}{E:Env}(hM:Mem c E){r n sz:Nat}{xs:List (List D)}{v:Value}(hr:E.rt r=some (.row sz false xs))(hp:E.pres r)(hv:RelAV E (.ref r 0 n) v)(hn:n=xs.length)(h0:0<n)(hsz:0<sz):
  ∃b cap cs t fr,v= .slice (some ⟨b,0,none⟩) n cap∧E.β r=some b∧E.w.heap[b]? =some (.cells cs t fr)∧n≤cap∧cap*sz≤cs.size∧Hu cs.size fr∧XaS sz fr∧(∀(i:Nat) x,xs[i]? =some x→x.length=sz)∧
   (∀(i:Nat) x (j:Nat) y,xs[i]? =some x→x[j]? =some y→∃u,cs[i*sz+j]? =some u∧RelD E.w E.S y u)∧
   (cs.toList.take (n*sz)).length=n*sz∧(∀(k:Nat),k<n*sz→(cs.toList.take (n*sz))[k]? =cs[k]?)∧(∀u∈cs.toList.take (n*sz),u.oneCell'=true):=
 (Xe5 hM hr hp hv hn hsz).resolve_left fun h=>by omega
theorem To{w:World}{b k:Nat}{cs:Array Value}{t:TypeId}{fr:Nat×Nat}(hh:w.heap[b]? =some (.cells cs t fr)):w.cell? ⟨b,k,none⟩=cs[k]? :=by
 simp[World.cell?,hh]
theorem Xh6{E:Env}{k:IntKind}{n:Int}{v:Value}(h:RelAV E (.d (.sc (.int k n))) v):v= .int k n:=by
 cases h with
 |d _ _ h=>cases h with|sc=>rfl
theorem XhY{E:Env}{x y z:AV}{vs:Array Value}(h:XbK E [x,y,z] vs):∃u v t,vs= #[u,v,t]∧RelAV E x u∧RelAV E y v∧RelAV E z t:=by
 obtain⟨hs,hr⟩:=h
 have:vs.size=3:=hs
 obtain⟨l⟩:=vs
 match l,this with
 |[u,v,t],_=>exact⟨u,v,t,rfl,hr 0 x rfl,hr 1 y rfl,hr 2 z rfl⟩
theorem Xcs{w:World}{S:Nat→Prop}{β:Nat→Option Nat}{r0:List Root}{R:Root}:Fresh (Fb w S β r0) (Be w S β r0 [R]) r0.length [R]:=by
 refine⟨Nat.le_refl _,?_,?_⟩
 ·intro k R' hk
  show(r0++[R])[r0.length+k]? =some R'
  rw[List.getElem?_append_right (by omega)]
  simpa using hk
 ·intro k hk hp
  have:r0.length+k<r0.length:=hp
  omega
theorem XfJ{xs:List (List D)}{n:Nat}{i j:Int}(hn:n=xs.length)(h0:0≤i)(hi:i<n)(hj:j=i+1)(hm:n≤4000000000):CallOk Tryz.prog 308 [.ref 0 0 n,.d (.sc (.int .i64 i)),.d (.sc (.int .i64 j))] [.row 2 false xs] ⟨.ref 1 0 (xs.eraseIdx i.toNat).length,[.row 2 false (xs.eraseIdx i.toNat)],[(0,.dead)]⟩:=by
 intro w S β vs hM hA
 obtain⟨vl,vi,vj,rfl,h1,h2,h3⟩:=XhY hA
 obtain rfl:=Xh6 h2
 obtain rfl:=Xh6 h3
 obtain⟨b,cap,cs,t,fr,rfl,hb,hh,hnc,hcs,hfr,-,hxl,hxr,hvl,hvg,hone⟩:=XhM hM (r:=0) rfl (show(0:Nat)<1 by decide) h1 hn (by omega) (by decide)
 have hh':w.heap[b]? =some (.cells cs t fr):=hh
 obtain⟨i,rfl⟩:∃k:Nat,i=k:=⟨i.toNat,by omega⟩
 obtain⟨j,rfl⟩:∃k:Nat,j=k:=⟨j.toNat,by omega⟩
 have hjn:j=i+1:=by omega
 have hin:i<n:=by omega
 have hcn:n*2≤cs.size:=by omega
 rw[Int.toNat_natCast]
 refine(delE b n cap i j w (cs.toList.take (n*2)) hin hjn hnc hm hvl hone (fun k v hk=>by
   have hkl:k<n*2:=by rw[←hvl];exact(List.getElem?_eq_some_iff.1 hk).1
   rw[hvg k hkl]at hk
   rw[To hh'];exact hk) (fun k hk=>F2 hh' hfr (by omega))).mono ?_
 rintro e w' ⟨rfl,rfl⟩
 have hdl:((cs.toList.take (n*2)).drop (j*2)).length=(n - j)*2:=by rw[List.length_drop,hvl];omega
 obtain⟨c1,aa,ab⟩:=Ct b t fr ((cs.toList.take (n*2)).drop (j*2)) (i*2) w.drew cs hh' (by rw[hdl];omega)
 obtain⟨c2,ac,ad⟩:=Ct b t fr [.string ⟨#[]⟩,.int .i64 0] ((n - 1)*2) _ c1 aa.at_ (by rw[aa.size];simp;omega)
 have hlen:(xs.eraseIdx i).length=n - 1:=by rw[List.length_eraseIdx,if_pos (by omega)];omega
 obtain⟨E',e1,e2⟩:=XcP (sz:=2) (cap:=cap) (ys:=xs.eraseIdx i) (nb:=1) hM (r:=0) rfl (show(0:Nat)<1 by decide) Xcs hb hh ((Wrote.ofDrew aa).trans ac)
  (by
   intro k x hk
   rw[List.getElem?_eraseIdx]at hk
   split at hk<;>exact hxl _ _ hk) hcs (by omega) (by
   intro k x f y hk hf
   have ae:k<n - 1:=by rw[←hlen];exact(List.getElem?_eq_some_iff.1 hk).1
   have hxs:∃q,xs[q]? =some x∧q=(if k<i then k else k+1):=by
    rw[List.getElem?_eraseIdx]at hk
    split at hk
    ·rename_i h;exact⟨k,hk,by rw[if_pos h]⟩
    ·rename_i h;exact⟨k+1,hk,by rw[if_neg h]⟩
   obtain⟨q,hq,hqk⟩:=hxs
   have af:f<2:=by rw[←hxl q x hq];exact(List.getElem?_eq_some_iff.1 hf).1
   obtain⟨u,hu,hrel⟩:=hxr q x f y hq hf
   refine⟨u,?_,hrel⟩
   rw[ad,if_neg (by simp;omega),ab,hdl]
   split at hqk
   ·subst hqk
    rw[if_neg (by omega)];exact hu
   ·subst hqk
    rw[if_pos (by omega),List.getElem?_drop,hvg _ (by omega),show j*2+(k*2+f - i*2)=(k+1)*2+f by omega]
    exact hu)
 rw[hlen]at e2
 exact⟨_,E',rfl,e1,by rw[hlen];exact e2⟩
theorem Grow.ofDrew{w w':World}{o:Obj}(g:Grow w.drew w' o):Grow w w' o:=⟨g.heap,g.os,g.output,g.tape⟩
theorem Grow.drew{w w':World}{o:Obj}(g:Grow w w' o):Grow w w'.drew o:=⟨g.heap,g.os,g.output,g.tape⟩
theorem Vg{w:World}{b k:Nat}{cs:Array Value}{t:TypeId}{fr:Nat×Nat}(hh:w.heap[b]? =some (.cells cs t fr))(h:XaS 2 fr):w.frozen? ⟨b,k,none⟩=false:=by
 obtain rfl:fr=(0,0):=h.resolve_left (by decide)
 simp[World.frozen?,hh]
theorem S3{w:World}{S:Nat→Prop}{xs:List (List D)}{v:List D}{i n:Nat}{cs':Array Value}{vals vs:List Value}(hn:n=xs.length)(hi:i≤n)(hxl:∀(i:Nat) x,xs[i]? =some x→x.length=2)(hv:v.length=2)
  (hxr:∀(i:Nat) x (j:Nat) y,xs[i]? =some x→x[j]? =some y→∃u,vals[i*2+j]? =some u∧RelD w S y u)(hvr:∀(j:Nat) y,v[j]? =some y→∃u,vs[j]? =some u∧RelD w S y u)
  (hc:∀k f,k<n+1→f<2→cs'[k*2+f]? =if k<i then vals[k*2+f]? else if k=i then vs[f]? else vals[(k - 1)*2+f]?):
  (∀(k:Nat) x,(xs.take i++v::xs.drop i)[k]? =some x→x.length=2)∧∀(k:Nat) x (j:Nat) y,(xs.take i++v::xs.drop i)[k]? =some x→x[j]? =some y→∃u,cs'[k*2+j]? =some u∧RelD w S y u:=by
 have key:∀(k:Nat) x,(xs.take i++v::xs.drop i)[k]? =some x→(k<i∧xs[k]? =some x)∨(k=i∧x=v)∨(i<k∧xs[k - 1]? =some x):=by
  intro k x hk
  have hl:(xs.take i).length=i:=by rw[List.length_take];omega
  by_cases h:k<i
  ·rw[List.getElem?_append_left (by omega),List.getElem?_take,if_pos h]at hk
   exact .inl ⟨h,hk⟩
  ·rw[List.getElem?_append_right (by omega),hl]at hk
   by_cases h':k=i
   ·subst h'
    rw[Nat.sub_self]at hk
    exact .inr (.inl ⟨rfl,(Option.some.inj hk).symm⟩)
   ·obtain⟨m,hm⟩:∃m,k - i=m+1:=⟨k - i - 1,by omega⟩
    rw[hm,List.getElem?_cons_succ,List.getElem?_drop,show i+m=k - 1 by omega]at hk
    exact .inr (.inr ⟨by omega,hk⟩)
 refine⟨fun k x hk=>?_,fun k x j y hk hy=>?_⟩
 ·rcases key k x hk with⟨_,h⟩|⟨_,h⟩|⟨_,h⟩
  ·exact hxl _ _ h
  ·rw[h];exact hv
  ·exact hxl _ _ h
 ·rcases key k x hk with⟨h,hx⟩|⟨h,hx⟩|⟨h,hx⟩
  ·have hkn:=(List.getElem?_eq_some_iff.1 hx).1
   have hj:j<2:=by rw[←hxl _ _ hx];exact(List.getElem?_eq_some_iff.1 hy).1
   rw[hc k j (by omega) hj,if_pos h]
   exact hxr _ _ _ _ hx hy
  ·subst hx h
   have hj:j<2:=by rw[←hv];exact(List.getElem?_eq_some_iff.1 hy).1
   rw[hc k j (by omega) hj,if_neg (by omega),if_pos rfl]
   exact hvr _ _ hy
  ·have hkn:=(List.getElem?_eq_some_iff.1 hx).1
   have hj:j<2:=by rw[←hxl _ _ hx];exact(List.getElem?_eq_some_iff.1 hy).1
   rw[hc k j (by omega) hj,if_neg (by omega),if_neg (by omega)]
   exact hxr _ _ _ _ hx hy
theorem XeO{xs:List (List D)}{v:List D}{n i:Nat}(hn:n=xs.length)(hin:i≤n)(hm:n≤4000000000):CallOk Tryz.prog 307 [.ref 0 0 n,.d (.sc (.int .i64 i)),.ref 1 0 1] [.row 2 false xs,.row 2 false [v]]
  ⟨.ref 2 0 (xs.take i++v::xs.drop i).length,[.row 2 false (xs.take i++v::xs.drop i)],[(0,.dead)]⟩:=by
 intro w S β vs hM hA
 obtain⟨vl,vi,vv,rfl,h1,h2,h3⟩:=XhY hA
 obtain rfl:=Xh6 h2
 obtain⟨vb,vc,cv,tv,frv,rfl,hbv,hhv,hvc,hcv,hfrv,hplv,hvxl,hvxr,hvvl,hvvg,hvone⟩:=XhM hM (r:=1) rfl (show(1:Nat)<2 by decide) h3 rfl (by decide) (by decide)
 have hhv':w.heap[vb]? =some (.cells cv tv frv):=hhv
 have hlen:(xs.take i++v::xs.drop i).length=n+1:=by simp;omega
 have ac:v.length=2:=hvxl 0 v rfl
 have hvr:∀(j:Nat) y,v[j]? =some y→∃u,(cv.toList.take (1*2))[j]? =some u∧RelD w S y u:=by
  intro j y hy
  have hj:j<2:=by rw[←ac];exact(List.getElem?_eq_some_iff.1 hy).1
  obtain⟨u,hu,hrel⟩:=hvxr 0 v j y rfl hy
  rw[Nat.zero_mul,Nat.zero_add]at hu
  exact⟨u,by rw[hvvg j (by omega)];exact hu,hrel⟩
 have hvs:∀j u,(cv.toList.take (1*2))[j]? =some u→w.cell? ⟨vb,j,none⟩=some u:=fun k u hk=>by
  have hkl:k<1*2:=by rw[←hvvl];exact(List.getElem?_eq_some_iff.1 hk).1
  rw[hvvg k hkl]at hk
  rw[To hhv'];exact hk
 generalize hvsd:cv.toList.take (1*2)=vs at hvr hvs hvvl hvone
 have hvl2:vs.length=2:=hvvl
 rcases Xe5 hM (r:=0) rfl (show(0:Nat)<2 by decide) h1 hn (by decide)with⟨h0,a,rfl⟩|⟨b,cap,cs,t,fr,rfl,hb,hh,hnc,hcs,hfr,hpl,hxl,hxr,hvl,hvg,hone⟩
 ·obtain rfl:xs=[]:=List.eq_nil_of_length_eq_zero (by omega)
  obtain rfl:i=0:=by omega
  subst h0
  refine(Pk a 0 0 vb vc [] vs w (by omega) (by omega) (by omega) rfl hvl2 (fun _=>rfl) (fun a _ j v h=>by simp at h) hvs hvone).mono ?_
  rintro e w' ⟨rfl,rfl⟩
  have hge:=grownCap_ge w (0+1) 0 133
  obtain⟨k1,k2⟩:=S3 (w:=w) (S:=S) (xs:=[]) (v:=v) (i:=0) (n:=0) (cs':=(([]++vs).toArray++Builtin.zeroCells zE.cells (grownCap w (0+1) 0 133 - (0+1)))) (vals:=[]) (vs:=vs) rfl (by omega) (by simp) ac (by simp) hvr (by
   intro k f hk hf
   obtain rfl:k=0:=by omega
   rw[if_neg (by omega),if_pos rfl,Nat.zero_mul,Nat.zero_add,Array.getElem?_append_left (by simp;omega)]
   simp)
  obtain⟨E',e1,e2⟩:=Xh2 (sz:=2) (cap:=grownCap w (0+1) 0 133) (nb:=2) hM (r:=0) rfl (show(0:Nat)<2 by decide) Xcs (Grow.alloc w.drew _).ofDrew k1 (by
   rw[Array.size_append,Gf]
   simp[Value.cells,hvl2]
   omega) (by rw[hlen];exact hge) k2
  rw[hlen]at e2
  exact⟨_,E',rfl,e1,by rw[hlen];exact e2⟩
 have hh':w.heap[b]? =some (.cells cs t fr):=hh
 have hvals:∀j u,(cs.toList.take (n*2))[j]? =some u→w.cell? ⟨b,j,none⟩=some u:=fun k u hk=>by
  have hkl:k<n*2:=by rw[←hvl];exact(List.getElem?_eq_some_iff.1 hk).1
  rw[hvg k hkl]at hk
  rw[To hh'];exact hk
 have hxr':∀(i:Nat) x (j:Nat) y,xs[i]? =some x→x[j]? =some y→∃u,(cs.toList.take (n*2))[i*2+j]? =some u∧RelD w S y u:=by
  intro q x f y hq hf
  have hqn:q<xs.length:=(List.getElem?_eq_some_iff.1 hq).1
  have af:f<2:=by rw[←hxl q x hq];exact(List.getElem?_eq_some_iff.1 hf).1
  obtain⟨u,hu,hrel⟩:=hxr q x f y hq hf
  exact⟨u,by rw[hvg _ (by omega)];exact hu,hrel⟩
 have hvgn:∀k,k<n*2→cs[k]? =(cs.toList.take (n*2))[k]? :=fun k hk=>(hvg k hk).symm
 generalize hvd:cs.toList.take (n*2)=vals at hvals hxr' hvgn hvl hone
 have hvb:vb≠b:=by
  rintro rfl
  have:=hM.inj 0 1 _ _ vb (show(0:Nat)<2 by decide) (show(1:Nat)<2 by decide) rfl (by simp) rfl (by simp) hb hbv
  cases this
 have hnew:∀{cs':Array Value} {w':World} {G:Nat},Grow w w' (.cells cs' 133 (0,0))→n+1≤G→G*2≤cs'.size→(∀k f,k<n+1→f<2→cs'[k*2+f]? =if k<i then vals[k*2+f]? else if k=i then vs[f]? else vals[(k - 1)*2+f]?)→
   ∃v' E',Ending.returned (.slice (some ⟨w.heap.size,0,none⟩) (n+1) G)=Ending.returned v'∧E'.w=w'∧OutRel (Fb w S β [.row 2 false xs,.row 2 false [v]]) (Be w S β [.row 2 false xs,.row 2 false [v]] [.row 2 false (xs.take i++v::xs.drop i)]) 2 ⟨.ref 2 0 (xs.take i++v::xs.drop i).length,[.row 2 false (xs.take i++v::xs.drop i)],[(0,.dead)]⟩ v' E':=by
  intro cs' w' G g hG hGs hc
  obtain⟨k1,k2⟩:=S3 (w:=w) (S:=S) hn hin hxl ac hxr' hvr hc
  obtain⟨E',e1,e2⟩:=Xh2 (sz:=2) (cap:=G) (nb:=2) hM (r:=0) rfl (show(0:Nat)<2 by decide) Xcs g k1 hGs (by rw[hlen];exact hG) k2
  rw[hlen]at e2
  exact⟨_,E',rfl,e1,by rw[hlen];exact e2⟩
 have hown:∀{cs':Array Value} {w':World},Wrote w w' b cs cs' t fr→n+1≤cap→(∀k f,k<n+1→f<2→cs'[k*2+f]? =if k<i then vals[k*2+f]? else if k=i then vs[f]? else vals[(k - 1)*2+f]?)→
   ∃v' E',Ending.returned (.slice (some ⟨b,0,none⟩) (n+1) cap)=Ending.returned v'∧E'.w=w'∧OutRel (Fb w S β [.row 2 false xs,.row 2 false [v]]) (Be w S β [.row 2 false xs,.row 2 false [v]] [.row 2 false (xs.take i++v::xs.drop i)]) 2 ⟨.ref 2 0 (xs.take i++v::xs.drop i).length,[.row 2 false (xs.take i++v::xs.drop i)],[(0,.dead)]⟩ v' E':=by
  intro cs' w' g hG hc
  obtain⟨k1,k2⟩:=S3 (w:=w) (S:=S) hn hin hxl ac hxr' hvr hc
  obtain⟨E',e1,e2⟩:=XcP (sz:=2) (cap:=cap) (nb:=2) hM (r:=0) rfl (show(0:Nat)<2 by decide) Xcs hb hh g k1 hcs (by rw[hlen];exact hG) k2
  rw[hlen]at e2
  exact⟨_,E',rfl,e1,by rw[hlen];exact e2⟩
 by_cases hroom:n+1≤cap
 ·by_cases hie:i=n
  ·subst hie
   refine(X3 b i cap vb vc vs w hroom hm hvl2 (fun j hj=>by rw[To hh',Array.getElem?_eq_getElem (by omega)];rfl) (fun j hj=>F2 hh' hfr (by omega)) hvs hvone).mono ?_
   rintro e w' ⟨rfl,rfl⟩
   obtain⟨c1,aa,ab⟩:=Ct b t fr vs (i*2) w cs hh' (by omega)
   refine hown aa hroom ?_
   intro k f hk hf
   rw[ab]
   by_cases h:k<i
   ·rw[if_pos h,if_neg (by omega)]
    exact hvgn _ (by omega)
   ·rw[if_neg h,if_pos (by omega),if_pos (by omega),show k*2+f - i*2=f by omega]
  ·have hdl:(vals.drop (i*2)).length=(n - i)*2:=by rw[List.length_drop,hvl];omega
   refine(XdT b n cap i vb vc vals vs w (by omega) hroom hm hvb hvl hvl2 hvals (fun j hj=>by rw[To hh',Array.getElem?_eq_getElem (by omega)];rfl) (fun j hj=>F2 hh' hfr (by omega)) hvs hone hvone tv t cv.size cs.size
    (by simp[World.shape?,hhv']) (by simp[World.shape?,hh']) (by omega) (Vg hhv' hplv) (Vg hhv' hplv)).mono ?_
   rintro e w' ⟨rfl,rfl⟩
   obtain⟨c1,aa,ab⟩:=Ct b t fr (vals.drop (i*2)) ((i+1)*2) w.drew cs hh' (by rw[hdl];omega)
   obtain⟨c2,ad,ae⟩:=Ct b t fr vs (i*2) _ c1 aa.at_ (by rw[aa.size];omega)
   refine hown ((Wrote.ofDrew aa).trans ad) hroom ?_
   intro k f hk hf
   rw[ae,ab,hdl,hvl2]
   by_cases h:k<i
   ·rw[if_pos h,if_neg (by omega),if_neg (by omega)]
    exact hvgn _ (by omega)
   ·rw[if_neg h]
    by_cases h':k=i
    ·rw[if_pos h',if_pos (by omega),show k*2+f - i*2=f by omega]
    ·rw[if_neg h',if_neg (by omega),if_pos (by omega),List.getElem?_drop,show i*2+(k*2+f - (i+1)*2)=(k - 1)*2+f by omega]
 ·have hge:=grownCap_ge w (n+1) cap 133
  by_cases hie:i=n
  ·subst hie
   refine(Pk (some ⟨b,0,none⟩) i cap vb vc vals vs w hnc (by omega) hm hvl hvl2 (fun h=>by cases h) (fun a ha j v h=>by
    obtain rfl:=Option.some.inj ha
    rw[Addr.add_lit,Nat.zero_add]
    exact hvals j v h) hvs hvone).mono ?_
   rintro e w' ⟨rfl,rfl⟩
   refine hnew (Grow.alloc w.drew _).ofDrew hge ?_ ?_
   ·rw[Array.size_append,Gf]
    simp[Value.cells,hvl2,hvl]
    omega
   ·intro k f hk hf
    rw[Array.getElem?_append_left (by simp;omega),List.getElem?_toArray]
    by_cases h:k<i
    ·rw[if_pos h,List.getElem?_append_left (by omega)]
    ·rw[if_neg h,if_pos (by omega),List.getElem?_append_right (by omega),hvl,show k*2+f - i*2=f by omega]
  ·have hdl:(vals.drop (i*2)).length=(n - i)*2:=by rw[List.length_drop,hvl];omega
   have htl:(vals.take (i*2)).length=i*2:=by rw[List.length_take,hvl];omega
   refine(Xf0 b n cap i vb vc vals vs w (by omega) hnc (by omega) hm hvl hvl2 hvals hvs hone hvone).mono ?_
   rintro e w' ⟨rfl,rfl⟩
   generalize hROW:(vals.take (i*2)).toArray++Builtin.zeroCells zE.cells (n+1 - i)++Builtin.zeroCells zE.cells (grownCap w (n+1) cap 133 - (n+1))=ROW
   have hRs:ROW.size=grownCap w (n+1) cap 133*2:=by
    rw[←hROW,Array.size_append,Array.size_append,Gf,Gf]
    simp[Value.cells,htl]
    omega
   have hR:∀k,k<i*2→ROW[k]? =vals[k]? :=by
    intro k hk
    rw[←hROW,Array.append_assoc,Array.getElem?_append_left (by simp;omega),List.getElem?_toArray,List.getElem?_take,if_pos hk]
   have g0:=(Grow.alloc w (.cells ROW 133)).drew
   obtain⟨c1,aa,ab⟩:=Ct w.heap.size 133 (0,0) vs (i*2) _ ROW g0.new (by omega)
   obtain⟨c2,ad,ae⟩:=Ct w.heap.size 133 (0,0) (vals.drop (i*2)) ((i+1)*2) _ c1 (show((w.alloc (.cells ROW 133)).drew.setCells w.heap.size (i*2) vs).drew.heap[w.heap.size]? =_ from aa.at_) (by rw[aa.size,hdl];omega)
   refine hnew (((g0.wrote aa).drew).wrote ad) hge (by rw[ad.size,aa.size,hRs];exact Nat.le_refl _) ?_
   intro k f hk hf
   rw[ae,ab,hdl,hvl2]
   by_cases h:k<i
   ·rw[if_pos h,if_neg (by omega),if_neg (by omega)]
    exact hR _ (by omega)
   ·rw[if_neg h]
    by_cases h':k=i
    ·rw[if_pos h',if_neg (by omega),if_pos (by omega),show k*2+f - i*2=f by omega]
    ·rw[if_neg h',if_pos (by omega),List.getElem?_drop,show i*2+(k*2+f - (i+1)*2)=(k - 1)*2+f by omega]
end
section
open Go Go.Proofs
set_option maxRecDepth 20000
set_option maxHeartbeats 4000000
def Xav:List (Nat×TyRow):=[ty3,ty5,ty9,Xdq,XhQ,XeB,XdK]
theorem Ys:B1 Tryz.prog Xav:=B1.of (by kernel_rfl)
theorem Ew:Setup Tryz.prog Xav:=⟨Ys,mixed⟩
open Go.RowKit
def Ig(x:Nat):Bool:=decide (97≤x∧x≤122∨48≤x∧x≤57∨x=46∨x=45)
def Bj(t:ByteArray):Bool:=t.data.toList.all (fun c=>Ig c.toNat)&&decide (1≤t.size∧t.size≤20)
theorem Lq{t:ByteArray}{j:Nat}(hj:j<t.size):t.data.toList[j]? =some t[j]:=by
 rw[Array.getElem?_toList]
 exact Array.getElem?_eq_getElem hj
theorem M1{t:ByteArray}{j:Nat}(hj:j<t.size)(h:Ig (t[j]).toNat=false):false=Bj t:=by
 symm
 unfold Bj
 rw[Bool.and_eq_false_iff]
 left
 rw[Bool.eq_false_iff]
 intro ha
 have:=List.all_eq_true.1 ha t[j] (List.mem_of_getElem? (Lq hj))
 rw[h]at this
 cases this
theorem Nk{t:ByteArray}{b:Bool}(h:∀(j:Nat) (hj:j<t.size),Ig (t[j]).toNat=true)(hb:b=decide (1≤t.size∧t.size≤20)):b=Bj t:=by
 unfold Bj
 rw[List.all_eq_true.2,hb,Bool.true_and]
 intro c hc
 obtain⟨j,hj⟩:=List.getElem?_of_mem hc
 have hl:j<t.size:=by
  have:=(List.getElem?_eq_some_iff.1 hj).1
  rwa[Array.length_toList]at this
 rw[Lq hl]at hj
 rw[←Option.some.inj hj]
 exact h j hl
theorem Ti{t:ByteArray}(h:Bj t=true):1≤t.size∧t.size≤20:=by
 unfold Bj at h
 rw[Bool.and_eq_true,decide_eq_true_eq]at h
 exact h.2
theorem S4:∀(l m:List UInt8) (acc:Nat),Lib.decFrom acc (l++m)=(Lib.decFrom acc l).bind fun a=>Lib.decFrom a m
 |[],_,_=>rfl
 |c::l,m,acc=>by
  simp only[List.cons_append,Lib.decFrom]
  cases Lib.digitVal c with
  |none=>rfl
  |some d=>exact S4 l m _
theorem T4{n:Nat}(h:n<10):Lib.digitVal (UInt8.ofNat (48+n))=some n:=by
 have e:(UInt8.ofNat (48+n)).toNat=48+n:=by rw[UInt8.toNat_ofNat',Nat.mod_eq_of_lt (by omega)]
 unfold Lib.digitVal
 rw[e,if_pos (by omega)]
 congr 1
 omega
theorem Qw(u:Nat):Lib.decFrom 0 (Lib.decDigits u)=some u:=by
 induction u using Nat.strongRecOn with
 |_ u ih=>
  by_cases h:u<10
  ·rw[Lib.decDigits,dif_pos h]
   simp only[Lib.decFrom,T4 h]
   congr 1
   omega
  ·rw[Lib.decDigits,dif_neg h,S4,ih (u/10) (by omega)]
   simp only[Option.bind_some,Lib.decFrom,T4 (show u% 10<10 by omega)]
   congr 1
   omega
def A6(t:ByteArray):Int×Bool:=match Lib.decFrom 0 t.data.toList with
 |some n=>if n≤1000000000∧By (n:Int)=t then((n:Int),true)else(0,false)
 |none=>(0,false)
theorem T5{t:ByteArray}{m:Nat}(h:Lib.decFrom 0 t.data.toList=some m):A6 t=if m≤1000000000∧By (m:Int)=t then((m:Int),true)else(0,false):=by
 unfold A6
 rw[h]
theorem XhZ{t:ByteArray}{j:Nat}(hj:j<t.size)(h:¬(48≤(t[j]).toNat∧(t[j]).toNat≤57)):(0,false)=A6 t:=by
 unfold A6
 split
 ·rename_i n hn
  obtain⟨d,hd⟩:=Lib.digit_of_decFrom _ _ _ hn j _ (Lq hj)
  unfold Lib.digitVal at hd
  rw[if_neg h]at hd
  cases hd
 ·rfl
theorem Xcq{n:Int}{t:ByteArray}(e:By n=t)(h0:0≤n)(h:n≤1000000000):1≤t.size∧t.size≤10:=by
 rw[←e]
 unfold By Lib.itoa
 rw[Bw,if_neg (by omega)]
 exact G9 9 n.toNat (by omega)
theorem Xgy{t:ByteArray}(h:10<t.size):(0,false)=A6 t:=by
 unfold A6
 split
 ·rename_i n hn
  rw[if_neg]
  rintro⟨h1,h2⟩
  have:=Xcq h2 (by omega) (by omega)
  omega
 ·rfl
theorem Xg9{n:Int}(h0:0≤n)(h:n≤1000000000):A6 (By n)=(n,true):=by
 have e:Lib.decFrom 0 (By n).data.toList=some n.toNat:=by
  unfold By Lib.itoa
  rw[Oh,if_neg (by omega)]
  exact Qw _
 rw[T5 e,if_pos ⟨by omega,by rw[Int.toNat_of_nonneg h0]⟩,Int.toNat_of_nonneg h0]
theorem Vq:∀(l:List UInt8) (acc n:Nat),Lib.decFrom acc l=some n→acc≤n
 |[],acc,n,h=>by simp only[Lib.decFrom,Option.some.injEq]at h;omega
 |c::l,acc,n,h=>by
  simp only[Lib.decFrom]at h
  split at h
  ·have:=Vq l _ n h
   omega
  ·cases h
theorem XaK:∀(l:List UInt8) (acc n:Nat),Lib.decFrom acc l=some n→n≤1000000000→Lib.parseUint10 acc l= .ok n
 |[],acc,n,h,_=>by simp only[Lib.decFrom,Option.some.injEq]at h;rw[h];rfl
 |c::l,acc,n,h,hn=>by
  simp only[Lib.decFrom,Lib.digitVal]at h
  unfold Lib.parseUint10
  by_cases hc:48≤c.toNat∧c.toNat≤57
  ·rw[if_pos hc]at h⊢
   have:=Vq l _ n h
   rw[if_neg (by omega),if_neg (by omega)]
   exact XaK l _ n h hn
  ·rw[if_neg hc]at h
   cases h
theorem Xhq{l:List UInt8}{n:Nat}(h:Lib.decFrom 0 l=some n)(hl:l≠[])(hn:n≤1000000000):Lib.atoiAll l= .ok n:=by
 cases l with
 |nil=>exact absurd rfl hl
 |cons c r=>
  obtain⟨d,hd⟩:=Lib.digit_of_decFrom _ _ _ h 0 c rfl
  unfold Lib.digitVal at hd
  have hc:48≤c.toNat∧c.toNat≤57:=by
   by_cases hc:48≤c.toNat∧c.toNat≤57
   ·exact hc
   ·rw[if_neg hc]at hd;cases hd
  have h45:¬c.toNat=45:=by omega
  unfold Lib.atoiAll
  simp only[if_neg (show¬(c.toNat=43∨c.toNat=45)by omega),Lib.parseMag,if_neg (show¬(c::r=[])by simp),XaK _ _ _ h hn]
  rw[if_neg (by omega),if_neg (by omega),if_neg h45]
theorem XfD(t:ByteArray):A6 t=match Lib.atoiAll t.data.toList with
  | .ok v=>if Bn v=true∧By v=t then(v,true)else(0,false)
  |_=>(0,false):=by
 cases hd:Lib.decFrom 0 t.data.toList with
 |some n=>
  rw[T5 hd]
  by_cases hc:n≤1000000000∧By (n:Int)=t
  ·have hne:t.data.toList≠[]:=by
    intro e
    have:=(Xcq hc.2 (by omega) (by omega)).1
    have hs:t.data.toList.length=t.size:=Array.length_toList
    rw[e]at hs
    simp at hs
    omega
   rw[if_pos hc,Xhq hd hne hc.1]
   simp only[]
   rw[if_pos ⟨by unfold Bn;exact decide_eq_true (by omega),hc.2⟩]
  ·rw[if_neg hc]
   split
   ·rename_i v hv
    rw[if_neg]
    rintro⟨h1,h2⟩
    unfold Bn at h1
    rw[decide_eq_true_eq]at h1
    have e:Lib.decFrom 0 t.data.toList=some v.toNat:=by
     rw[←h2]
     unfold By Lib.itoa
     rw[Oh,if_neg (by omega)]
     exact Qw _
    rw[hd]at e
    have e2:=Option.some.inj e
    exact hc ⟨by omega,by rw[e2,Int.toNat_of_nonneg h1.1];exact h2⟩
   ·rfl
 |none=>
  have e0:A6 t=(0,false):=by unfold A6;rw[hd]
  rw[e0]
  split
  ·rename_i v hv
   rw[if_neg]
   rintro⟨h1,h2⟩
   unfold Bn at h1
   rw[decide_eq_true_eq]at h1
   have e:Lib.decFrom 0 t.data.toList=some v.toNat:=by
    rw[←h2]
    unfold By Lib.itoa
    rw[Oh,if_neg (by omega)]
    exact Qw _
   rw[hd]at e
   cases e
  ·rfl
variable {name text oa a:ByteArray} {o l:List Al} {ob oc:Bool} {xl xo:List (List D)} {no:Nat}
theorem Nj{o:Bool}(hs:name.size≤1000000000)(hr:Bj name=o):Fn Tryz.prog 248 [S name] [] ⟨B o,[],[]⟩:=by
 refine Fn.go Ew Tryz.func248 fun P hP Q hQ=>?_
 conv=>cbv
 refine .go fun v1 ah=>?_
 conv=>cbv
 refine LoopW.lp (κ:=Int) Ew hP [] [0,6] (fun i7=>[(7,I i7)]) (fun i7=>[])
  (fun i7=>0≤i7∧i7≤name.size∧∀(j:Nat) (hj:j<name.size),j<i7.toNat→Ig (name[j]).toNat=true)
  (fun i7=>(name.size - i7).toNat) (0) ⟨by omega,by omega,fun j _ h=>by simp at h⟩ ⟨rfl,trivial⟩ rfl ?_
 rintro i7 J ⟨h0,h1,hb⟩ hJ
 conv=>cbv
 refine .lss (fun h2=>?_) fun h2=>?_
 conv=>cbv
 refine .go i7.toNat fun hjv3 v3 ad bv3=>?_
 conv=>cbv
 refine .geq (fun h4=>?_) fun h4=>?_
 conv=>cbv
 refine .leq (fun h5=>?_) fun h5=>?_
 conv=>cbv
 refine .add fun v6 ai=>?_
 conv=>cbv
 exact .go [] (v6) (hJ _ ⟨by omega,by omega,fun j hj h=>if e:j=i7.toNat then by subst e;unfold Ig;rw[decide_eq_true_eq];omega else hb j hj (by omega)⟩ mlt)
 conv=>cbv
 refine .geq (fun h6=>?_) fun h6=>?_
 conv=>cbv
 refine .leq (fun h7=>?_) fun h7=>?_
 conv=>cbv
 refine .add fun v8 aa=>?_
 conv=>cbv
 exact .go [] (v8) (hJ _ ⟨by omega,by omega,fun j hj h=>if e:j=i7.toNat then by subst e;unfold Ig;rw[decide_eq_true_eq];omega else hb j hj (by omega)⟩ mlt)
 conv=>cbv
 refine .eql (fun h8=>?_) fun h8=>?_
 conv=>cbv
 refine .add fun v9 ac=>?_
 conv=>cbv
 exact .go [] (v9) (hJ _ ⟨by omega,by omega,fun j hj h=>if e:j=i7.toNat then by subst e;unfold Ig;rw[decide_eq_true_eq];omega else hb j hj (by omega)⟩ mlt)
 conv=>cbv
 refine .eql (fun h9=>?_) fun h9=>?_
 conv=>cbv
 refine .add fun ae ag=>?_
 conv=>cbv
 exact .go [] (ae) (hJ _ ⟨by omega,by omega,fun j hj h=>if e:j=i7.toNat then by subst e;unfold Ig;rw[decide_eq_true_eq];omega else hb j hj (by omega)⟩ mlt)
 conv=>cbv
 have e:false=Bj name:=(by exact M1 (show i7.toNat<name.size by omega) (by unfold Ig;rw[decide_eq_false_iff_not];omega))
 rw[hr]at e
 subst e
 exact hQ _ _ (.b rfl rfl)
 conv=>cbv
 refine .eql (fun h7=>?_) fun h7=>?_
 conv=>cbv
 refine .add fun v8 aa=>?_
 conv=>cbv
 exact .go [] (v8) (hJ _ ⟨by omega,by omega,fun j hj h=>if e:j=i7.toNat then by subst e;unfold Ig;rw[decide_eq_true_eq];omega else hb j hj (by omega)⟩ mlt)
 conv=>cbv
 refine .eql (fun h8=>?_) fun h8=>?_
 conv=>cbv
 refine .add fun v9 ac=>?_
 conv=>cbv
 exact .go [] (v9) (hJ _ ⟨by omega,by omega,fun j hj h=>if e:j=i7.toNat then by subst e;unfold Ig;rw[decide_eq_true_eq];omega else hb j hj (by omega)⟩ mlt)
 conv=>cbv
 have e:false=Bj name:=(by exact M1 (show i7.toNat<name.size by omega) (by unfold Ig;rw[decide_eq_false_iff_not];omega))
 rw[hr]at e
 subst e
 exact hQ _ _ (.b rfl rfl)
 conv=>cbv
 refine .geq (fun h5=>?_) fun h5=>?_
 conv=>cbv
 refine .leq (fun h6=>?_) fun h6=>?_
 conv=>cbv
 refine .add fun v7 af=>?_
 conv=>cbv
 exact .go [] (v7) (hJ _ ⟨by omega,by omega,fun j hj h=>if e:j=i7.toNat then by subst e;unfold Ig;rw[decide_eq_true_eq];omega else hb j hj (by omega)⟩ mlt)
 conv=>cbv
 refine .eql (fun h7=>?_) fun h7=>?_
 conv=>cbv
 refine .add fun v8 aa=>?_
 conv=>cbv
 exact .go [] (v8) (hJ _ ⟨by omega,by omega,fun j hj h=>if e:j=i7.toNat then by subst e;unfold Ig;rw[decide_eq_true_eq];omega else hb j hj (by omega)⟩ mlt)
 conv=>cbv
 refine .eql (fun h8=>?_) fun h8=>?_
 conv=>cbv
 refine .add fun v9 ac=>?_
 conv=>cbv
 exact .go [] (v9) (hJ _ ⟨by omega,by omega,fun j hj h=>if e:j=i7.toNat then by subst e;unfold Ig;rw[decide_eq_true_eq];omega else hb j hj (by omega)⟩ mlt)
 conv=>cbv
 have e:false=Bj name:=(by exact M1 (show i7.toNat<name.size by omega) (by unfold Ig;rw[decide_eq_false_iff_not];omega))
 rw[hr]at e
 subst e
 exact hQ _ _ (.b rfl rfl)
 conv=>cbv
 refine .eql (fun h6=>?_) fun h6=>?_
 conv=>cbv
 refine .add fun v7 af=>?_
 conv=>cbv
 exact .go [] (v7) (hJ _ ⟨by omega,by omega,fun j hj h=>if e:j=i7.toNat then by subst e;unfold Ig;rw[decide_eq_true_eq];omega else hb j hj (by omega)⟩ mlt)
 conv=>cbv
 refine .eql (fun h7=>?_) fun h7=>?_
 conv=>cbv
 refine .add fun v8 aa=>?_
 conv=>cbv
 exact .go [] (v8) (hJ _ ⟨by omega,by omega,fun j hj h=>if e:j=i7.toNat then by subst e;unfold Ig;rw[decide_eq_true_eq];omega else hb j hj (by omega)⟩ mlt)
 conv=>cbv
 have e:false=Bj name:=(by exact M1 (show i7.toNat<name.size by omega) (by unfold Ig;rw[decide_eq_false_iff_not];omega))
 rw[hr]at e
 subst e
 exact hQ _ _ (.b rfl rfl)
 conv=>cbv
 refine .go fun v3 ad=>?_
 conv=>cbv
 generalize ab:Bm v3 1 20=r4
 refine .dd hP (Ex ab) ?_
 cases r4
 simp only[Bm,decide_eq_true_eq,decide_eq_false_iff_not]at ab
 conv=>cbv
 have e:false=Bj name:=(by exact Nk (fun j hj=>hb j hj (by omega)) (by symm;rw[decide_eq_false_iff_not];omega))
 rw[hr]at e
 subst e
 exact hQ _ _ (.b rfl rfl)
 simp only[Bm,decide_eq_true_eq,decide_eq_false_iff_not]at ab
 conv=>cbv
 have e:true=Bj name:=(by exact Nk (fun j hj=>hb j hj (by omega)) (by symm;rw[decide_eq_true_eq];omega))
 rw[hr]at e
 subst e
 exact hQ _ _ (.b rfl rfl)
theorem Nn{o:Bool}(hs:name.size≤1000000000)(hr:Bj name=o):Fn Tryz.prog 242 [S name] [] ⟨B o,[],[]⟩:=by
 refine Fn.go Ew Tryz.func242 fun P hP Q hQ=>?_
 conv=>cbv
 refine LoopW.lp (κ:=Int) Ew hP [] [0] (fun i3=>[(3,I i3)]) (fun i3=>[])
  (fun i3=>0≤i3∧i3≤name.size∧∀(j:Nat) (hj:j<name.size),j<i3.toNat→Ig (name[j]).toNat=true)
  (fun i3=>(name.size - i3).toNat) (0) ⟨by omega,by omega,fun j _ h=>by simp at h⟩ ⟨rfl,trivial⟩ rfl ?_
 rintro i3 J ⟨h0,h1,hb⟩ hJ
 conv=>cbv
 refine .go fun v1 ae=>?_
 conv=>cbv
 refine .lss (fun h2=>?_) fun h2=>?_
 conv=>cbv
 refine .go i3.toNat fun hjv3 v3 ad bv3=>?_
 conv=>cbv
 refine .id fun v4 af=>?_
 conv=>cbv
 generalize aa:A8 v4 97 122=r5
 refine .dd hP (Dk aa) ?_
 cases r5
 simp only[A8,decide_eq_true_eq,decide_eq_false_iff_not]at aa
 conv=>cbv
 generalize ab:A8 v4 48 57=r6
 refine .dd hP (Dk ab) ?_
 cases r6
 simp only[A8,decide_eq_true_eq,decide_eq_false_iff_not]at ab
 conv=>cbv
 refine .neq (fun h7=>?_) fun h7=>?_
 conv=>cbv
 refine .neq (fun h8=>?_) fun h8=>?_
 conv=>cbv
 have e:false=Bj name:=(by exact M1 (show i3.toNat<name.size by omega) (by unfold Ig;rw[decide_eq_false_iff_not];omega))
 rw[hr]at e
 subst e
 exact hQ _ _ (.b rfl rfl)
 conv=>cbv
 refine .add fun v9 ag=>?_
 conv=>cbv
 exact .go [] (v9) (hJ _ ⟨by omega,by omega,fun j hj h=>if e:j=i3.toNat then by subst e;unfold Ig;rw[decide_eq_true_eq];omega else hb j hj (by omega)⟩ mlt)
 conv=>cbv
 refine .add fun v8 ah=>?_
 conv=>cbv
 exact .go [] (v8) (hJ _ ⟨by omega,by omega,fun j hj h=>if e:j=i3.toNat then by subst e;unfold Ig;rw[decide_eq_true_eq];omega else hb j hj (by omega)⟩ mlt)
 simp only[A8,decide_eq_true_eq,decide_eq_false_iff_not]at ab
 conv=>cbv
 refine .add fun v7 ai=>?_
 conv=>cbv
 exact .go [] (v7) (hJ _ ⟨by omega,by omega,fun j hj h=>if e:j=i3.toNat then by subst e;unfold Ig;rw[decide_eq_true_eq];omega else hb j hj (by omega)⟩ mlt)
 simp only[A8,decide_eq_true_eq,decide_eq_false_iff_not]at aa
 conv=>cbv
 refine .add fun v6 aj=>?_
 conv=>cbv
 exact .go [] (v6) (hJ _ ⟨by omega,by omega,fun j hj h=>if e:j=i3.toNat then by subst e;unfold Ig;rw[decide_eq_true_eq];omega else hb j hj (by omega)⟩ mlt)
 conv=>cbv
 refine .go fun v3 ad=>?_
 conv=>cbv
 generalize ac:A8 v3 1 20=r4
 refine .dd hP (Dk ac) ?_
 cases r4
 simp only[A8,decide_eq_true_eq,decide_eq_false_iff_not]at ac
 conv=>cbv
 have e:false=Bj name:=(by exact Nk (fun j hj=>hb j hj (by omega)) (by symm;rw[decide_eq_false_iff_not];omega))
 rw[hr]at e
 subst e
 exact hQ _ _ (.b rfl rfl)
 simp only[A8,decide_eq_true_eq,decide_eq_false_iff_not]at ac
 conv=>cbv
 have e:true=Bj name:=(by exact Nk (fun j hj=>hb j hj (by omega)) (by symm;rw[decide_eq_true_eq];omega))
 rw[hr]at e
 subst e
 exact hQ _ _ (.b rfl rfl)
theorem O6{oa:Int}(hs:text.size≤1000000000)(hr:A6 text=(oa,ob)):Fn Tryz.prog 300 [S text] [] ⟨.tup [I oa,B ob],[],[]⟩:=by
 refine Fn.go Ew Tryz.func300 fun P hP Q hQ=>?_
 conv=>cbv
 refine .go fun v1 aj=>?_
 conv=>cbv
 refine .gtr (fun h2=>?_) fun h2=>?_
 conv=>cbv
 have e:(0,false)=A6 text:=(by exact Xgy (by omega))
 rw[hr]at e
 simp only[Prod.mk.injEq]at e
 obtain⟨rfl,rfl⟩:=e
 refine hQ _ _ ?_
 exact .many (.inl rfl) rfl rfl (.d rfl rfl (.d rfl rfl (.nil)))
 conv=>cbv
 refine LoopW.lp (κ:=Int×Int) Ew hP [] [0] (fun(i4,i5)=>[(4,I i4),(5,I i5)]) (fun(i4,i5)=>[])
  (fun(i4,i5)=>0≤i5∧i5≤text.size∧∃m:Nat,i4=m∧Lib.decFrom 0 (text.data.toList.take i5.toNat)=some m∧m<10^i5.toNat)
  (fun(i4,i5)=>(text.size - i5).toNat) (0,0) ⟨by omega,by omega,0,rfl,rfl,by simp⟩ ⟨rfl,rfl,trivial⟩ rfl ?_
 rintro⟨i4,i5⟩ J ⟨h0,h1,m,hm,hd,hlt⟩ hJ
 have hp:=Nat.pow_le_pow_right (n:=10) (by decide) (show i5.toNat≤10 by omega)
 have ac:(10:Nat)^10=10000000000:=by decide
 rw[ac]at hp
 conv=>cbv
 refine .go fun v3 ak=>?_
 conv=>cbv
 refine .lss (fun h4=>?_) fun h4=>?_
 conv=>cbv
 refine .go i5.toNat fun hjv5 v5 al bv5=>?_
 conv=>cbv
 refine .lss (fun h6=>?_) fun h6=>?_
 conv=>cbv
 have e:(0,false)=A6 text:=(by exact XhZ (show i5.toNat<text.size by omega) (by omega))
 rw[hr]at e
 simp only[Prod.mk.injEq]at e
 obtain⟨rfl,rfl⟩:=e
 refine hQ _ _ ?_
 exact .many (.inl rfl) rfl rfl (.d rfl rfl (.d rfl rfl (.nil)))
 conv=>cbv
 refine .go i5.toNat fun hjv7 v7 am bv7=>?_
 conv=>cbv
 refine .gtr (fun h8=>?_) fun h8=>?_
 conv=>cbv
 have e:(0,false)=A6 text:=(by exact XhZ (show i5.toNat<text.size by omega) (by omega))
 rw[hr]at e
 simp only[Prod.mk.injEq]at e
 obtain⟨rfl,rfl⟩:=e
 refine hQ _ _ ?_
 exact .many (.inl rfl) rfl rfl (.d rfl rfl (.d rfl rfl (.nil)))
 conv=>cbv
 refine .mul fun v9 an=>?_
 conv=>cbv
 refine .go i5.toNat fun hjv10 ao ae bv10=>?_
 conv=>cbv
 refine .id fun ap af=>?_
 conv=>cbv
 refine .add fun aq ag=>?_
 conv=>cbv
 refine .sub fun ad ah=>?_
 conv=>cbv
 refine .add fun aa ai=>?_
 conv=>cbv
 have hdt:=Lib.decFrom_take _ _ _ _ _ ((text[i5.toNat]).toNat - 48) hd (Lq (show i5.toNat<text.size by omega)) (by unfold Lib.digitVal;rw[if_pos (by omega)])
 exact .go [] (ad,aa) (hJ _ ⟨by omega,by omega,m*10+((text[i5.toNat]).toNat - 48),by omega,by rw[show aa.toNat=i5.toNat+1 by omega];exact hdt,by rw[show aa.toNat=i5.toNat+1 by omega,Nat.pow_succ];omega⟩ mlt)
 conv=>cbv
 refine .gtr (fun h5=>?_) fun h5=>?_
 conv=>cbv
 have e:(0,false)=A6 text:=(by rw[List.take_of_length_le (by rw[Array.length_toList];show text.size≤_;omega)]at hd;rw[T5 hd,if_neg (by omega)])
 rw[hr]at e
 simp only[Prod.mk.injEq]at e
 obtain⟨rfl,rfl⟩:=e
 refine hQ _ _ ?_
 exact .many (.inl rfl) rfl rfl (.d rfl rfl (.d rfl rfl (.nil)))
 conv=>cbv
 generalize ab:By i4=r6
 refine .dd hP (Xa7 (by unfold Xm;omega) ab) ?_
 conv=>cbv
 refine .neq (fun h7=>?_) fun h7=>?_
 conv=>cbv
 have e:(0,false)=A6 text:=(by rw[List.take_of_length_le (by rw[Array.length_toList];show text.size≤_;omega)]at hd;rw[T5 hd,if_neg];rintro⟨_,h⟩;exact h7 (by rw[←ab,hm];exact h))
 rw[hr]at e
 simp only[Prod.mk.injEq]at e
 obtain⟨rfl,rfl⟩:=e
 refine hQ _ _ ?_
 exact .many (.inl rfl) rfl rfl (.d rfl rfl (.d rfl rfl (.nil)))
 conv=>cbv
 have e:(i4,true)=A6 text:=(by rw[List.take_of_length_le (by rw[Array.length_toList];show text.size≤_;omega)]at hd;rw[T5 hd,if_pos ⟨by omega,by rw[←hm,ab];exact h7⟩,hm])
 rw[hr]at e
 simp only[Prod.mk.injEq]at e
 obtain⟨rfl,rfl⟩:=e
 refine hQ _ _ ?_
 exact .many (.inl rfl) rfl rfl (.d rfl rfl (.d rfl rfl (.nil)))
theorem Zz{w:World}(hG:Globs.ok w fun b=>b<w.heap.size){n:Int}{o:ByteArray}(hn:Xm n)(hr:By n=o):Calls Tryz.prog 144 #[.int .i64 n] w fun e w'=>e= .returned (.string o)∧Below w.heap.size w w':=by
 refine(Xao (n:=n) hn hr).ok.callsV hG ⟨rfl,?_⟩
 intro j y hy
 match j,hy with
 |0,hy=>cases hy;exact .d _ _ (.sc _ rfl)
theorem Xia{l:List UInt8}{v:Int}(h:Lib.atoiAll l= .ok v):Xm v:=by
 cases l with
 |nil=>cases h
 |cons c r=>
  unfold Lib.atoiAll at h
  simp only at h
  unfold Xm
  split at h
  ·cases h
  ·cases h
  ·split at h
   ·cases h
   ·split at h
    ·cases h
    ·simp only[Lib.NumEnd.ok.injEq]at h
     split at h<;>omega
set_option maxHeartbeats 1000000 in
set_option maxRecDepth 100000 in
theorem Ya{text:ByteArray}(hs:text.size≤1000000000){w:World}(hG:Globs.ok w fun b=>b<w.heap.size):Calls Tryz.prog 251 #[.string text] w fun e w'=>
  e= .returned (.tuple #[.int .i64 (A6 text).1,.bool (A6 text).2])∧Below w.heap.size w w':=by
 have hG2:∀{w:World},(Globs.ok w fun b=>b<w.heap.size)→Hr w 2:=fun h=>Xif h
 have hG3:∀{w:World},(Globs.ok w fun b=>b<w.heap.size)→Hr w 3:=fun h=>Xh9 h
 rw[XfD]
 cases ha:Lib.atoiAll text.data.toList
 ·rename_i v
  dsimp only
  have hv:=Xia ha
  have hp:=fun w=>Tryz.strconv_Atoi_ok text (by omega) v ha w
  cases hn:Bn v with
  |false=>
   simp only[Bool.false_eq_true,false_and,if_false]
   go_enter Tryz.func251,Tryz.ntmps251
   go_wp2_with (first
    |(go_at_call 305;refine(hp _).mono ?_;rintro e w1 ⟨rfl,hb⟩;have aa:Below w.heap.size w w1:=(by rcases hb with rfl|⟨t,rfl⟩;exact Below.refl _ _;exact Lib.bytesWorld_below _ _ _);clear hb;have hG1:=Hg hG aa)
    |(go_at_call 173;refine(Us hG1 hn).mono ?_;rintro e w2 ⟨rfl,hb2⟩;have hG2_:=Hg hG1 hb2))
   go_ret2
   exact⟨rfl,aa.trans (hb2.mono aa.size)⟩
  |true=>
   obtain⟨o,ho⟩:∃o,By v=o:=⟨_,rfl⟩
   by_cases he:o=text
   ·simp only[ho,he,true_and,if_true]
    subst he
    go_enter Tryz.func251,Tryz.ntmps251
    go_wp2_with (first
     |(go_at_call 305;refine(hp _).mono ?_;rintro e w1 ⟨rfl,hb⟩;have aa:Below w.heap.size w w1:=(by rcases hb with rfl|⟨t,rfl⟩;exact Below.refl _ _;exact Lib.bytesWorld_below _ _ _);clear hb;have hG1:=Hg hG aa)
     |(go_at_call 173;refine(Us hG1 hn).mono ?_;rintro e w2 ⟨rfl,hb2⟩;have hG2_:=Hg hG1 hb2)
     |(go_at_call 144;refine(Zz hG2_ hv ho).mono ?_;rintro e w3 ⟨rfl,ab⟩))
    go_ret2
    exact⟨rfl,(aa.trans (hb2.mono aa.size)).trans (ab.mono (aa.trans (hb2.mono aa.size)).size)⟩
   ·simp only[ho,he,and_false,if_false]
    have ac:=XjL he
    go_enter Tryz.func251,Tryz.ntmps251
    go_wp2_with (first
     |(go_at_call 305;refine(hp _).mono ?_;rintro e w1 ⟨rfl,hb⟩;have aa:Below w.heap.size w w1:=(by rcases hb with rfl|⟨t,rfl⟩;exact Below.refl _ _;exact Lib.bytesWorld_below _ _ _);clear hb;have hG1:=Hg hG aa)
     |(go_at_call 173;refine(Us hG1 hn).mono ?_;rintro e w2 ⟨rfl,hb2⟩;have hG2_:=Hg hG1 hb2)
     |(go_at_call 144;refine(Zz hG2_ hv ho).mono ?_;rintro e w3 ⟨rfl,ab⟩))
    go_ret2
    exact⟨rfl,(aa.trans (hb2.mono aa.size)).trans (ab.mono (aa.trans (hb2.mono aa.size)).size)⟩
 ·dsimp only
  obtain⟨ev,h1,h2⟩:=hG2 hG
  have hp:=Tryz.strconv_Atoi_syntax text (by omega) ha ev w h1 h2
  go_enter Tryz.func251,Tryz.ntmps251
  go_wp2_with (go_at_call 305;refine hp.mono ?_;rintro e w1 ⟨N,rfl,-,-,aa⟩)
  go_ret2
  exact⟨rfl,aa⟩
 ·dsimp only
  obtain⟨ev,h1,h2⟩:=hG3 hG
  have hp:=Tryz.strconv_Atoi_range text (by omega) ha ev w h1 h2
  go_enter Tryz.func251,Tryz.ntmps251
  go_wp2_with (go_at_call 305;refine hp.mono ?_;rintro e w1 ⟨N,rfl,-,-,aa⟩)
  go_ret2
  exact⟨rfl,aa⟩
theorem Yb{oa:Int}(hs:text.size≤1000000000)(hr:A6 text=(oa,ob)):Fn Tryz.prog 251 [S text] [] ⟨.tup [I oa,B ob],[],[]⟩:=by
 refine⟨Ep Tryz.func251 rfl rfl,CallOk.ofCallsT rfl rfl fun E vs hS hG hA=>?_⟩
 obtain⟨u,rfl,h1⟩:=Xil hA
 rw[N6 h1]
 have h2:=Ya hs (Globs.step hS (fun _ _=>rfl) hG)
 rw[hr]at h2
 exact h2
def If(s:ByteArray):Int:=Lib.indexByte s.data.toList 58
def Jz(s:ByteArray):ByteArray×ByteArray×Bool:=if 0≤If s then(s.extract 0 (If s).toNat,s.extract ((If s).toNat+1) s.size,true)else(s,tx [],false)
theorem Rk(c:UInt8):∀l:List UInt8,-1≤Lib.indexByte l c∧Lib.indexByte l c<l.length
 |[]=>by simp[Lib.indexByte]
 |b::l=>by
  have:=Rk c l
  unfold Lib.indexByte
  rw[List.length_cons]
  split
  ·omega
  ·split
   ·omega
   ·omega
theorem Vk{s:ByteArray}{i:Int}(e:If s=i): -1≤i∧i<s.size:=by
 rw[←e]
 exact Rk 58 s.data.toList
theorem Ip{s:ByteArray}{o:Int}(hr:If s=o):Fn Tryz.prog 330 [S s,S (tx [58])] [] ⟨I o,[],[]⟩:=by
 refine⟨Ep Tryz.func330 rfl rfl,CallOk.ofCalls fun E vs hS hA=>?_⟩
 obtain⟨u,v,rfl,h1,h2⟩:=XjX hA
 rw[N6 h1,N6 h2]
 refine(Tryz.stringslite_Index_one s 58 E.w).mono ?_
 rintro e w' ⟨rfl,rfl⟩
 refine⟨_,rfl,Below.refl _ _,?_⟩
 show RelD _ _ (.sc (.int .i64 o)) (.int .i64 (If s))
 rw[hr]
 exact .sc _ rfl
theorem Jp{ob:ByteArray}(hs:a.size≤1000000000)(hr:Jz a=(oa,ob,oc)):Fn Tryz.prog 304 [S a,S (tx [58])] [] ⟨.tup [S oa,S ob,B oc],[],[]⟩:=by
 refine Fn.go Ew Tryz.func304 fun P hP Q hQ=>?_
 conv=>cbv
 generalize aa:If a=r1
 refine .dd hP (Ip aa) ?_
 conv=>cbv
 have hb:=Vk aa
 refine .geq (fun h2=>?_) fun h2=>?_
 conv=>cbv
 refine .hi fun s3 ab=>?_
 conv=>cbv
 refine .go fun v4 ac=>?_
 conv=>cbv
 have ae:v4=1:=by rw[ac];rfl
 refine .add fun v5 af=>?_
 conv=>cbv
 refine .lo fun s6 ad=>?_
 conv=>cbv
 have e:(s3,s6,true)=Jz a:=(by unfold Jz;rw[aa,if_pos (by omega),ab,ad,show v5.toNat=r1.toNat+1 by omega])
 rw[hr]at e
 simp only[Prod.mk.injEq]at e
 obtain⟨rfl,rfl,rfl⟩:=e
 refine hQ _ _ ?_
 exact .many (.inl rfl) rfl rfl (.d rfl rfl (.d rfl rfl (.d rfl rfl (.nil))))
 conv=>cbv
 have e:(a,(tx []),false)=Jz a:=(by unfold Jz;rw[aa,if_neg (by omega)])
 rw[hr]at e
 simp only[Prod.mk.injEq]at e
 obtain⟨rfl,rfl,rfl⟩:=e
 refine hQ _ _ ?_
 exact .many (.inl rfl) rfl rfl (.d rfl rfl (.d rfl rfl (.d rfl rfl (.nil))))
theorem X6{ob:ByteArray}(hs:a.size≤1000000000)(hr:Jz a=(oa,ob,oc)):Fn Tryz.prog 250 [S a,S (tx [58])] [] ⟨.tup [S oa,S ob,B oc],[],[]⟩:=by
 refine Fn.go Ew Tryz.func250 fun P hP Q hQ=>?_
 conv=>cbv
 rcases aa:Jz a with⟨ab,ac,ad⟩
 refine .dd hP (Jp (by omega) aa) ?_
 conv=>cbv
 have e:(ab,ac,ad)=Jz a:=(by exact aa.symm)
 rw[hr]at e
 simp only[Prod.mk.injEq]at e
 obtain⟨rfl,rfl,rfl⟩:=e
 refine hQ _ _ ?_
 exact .many (.inl rfl) rfl rfl (.d rfl rfl (.d rfl rfl (.d rfl rfl (.nil))))
def C2{α:Type}(l:List α):List α:=l
theorem M0{α:Type}{c:α→List D}{l:List α}{x:List (List D)}{v:Bool}(hl:l.map c=x)(hv:v=x.isEmpty)(h:v=true):[]=l:=by
 rw[h,←hl]at hv
 cases l with
 |nil=>rfl
 |cons=>cases hv
theorem Ch(hl:l.map Ae=xl)(hn:l.length≤4000000000)(hr:C2 l=o)(ho:o.map Ae=xo):Fn Tryz.prog 176 [.d (.row 2 xl)] [] ⟨.d (.row 2 xo),[],[]⟩:=by
 refine Fn.go Ew Tryz.func176 fun P hP Q hQ=>?_
 conv=>cbv
 refine .go fun v1 ab=>?_
 conv=>cbv
 refine⟨fun h2=>?_,?_⟩
 have e:[]=C2 l:=(by unfold C2;exact M0 hl ab h2)
 rw[hr]at e
 subst e
 exact hQ _ _ (.r rfl rfl rfl (by rw[←ho];rfl))
 refine .row0 hl fun ad z3 ac aa=>?_
 conv=>cbv
 have e:l=C2 l:=(by rfl)
 rw[hr]at e
 subst e
 exact hQ _ _ (.r rfl rfl (by rw[←aa,List.length_map];first|omega|(simp;omega)) (by rw[←aa,←ho]))
theorem Jl(hl:l.map Ae=xl)(hn:l.length≤4000000000)(hr:C2 l=o)(ho:o.map Ae=xo)(hno:no=o.length):Fn Tryz.prog 176 [.d (.row 2 xl)] [] ⟨.ref 0 0 no,[.row 2 false xo],[]⟩:=by
 refine Fn.goR Ew Tryz.func176 fun P hP Q hQ=>?_
 conv=>cbv
 refine .go fun v1 aa=>?_
 conv=>cbv
 refine⟨fun h2=>?_,?_⟩
 have e:[]=C2 l:=(by unfold C2;exact M0 hl aa h2)
 rw[hr]at e
 subst e
 obtain rfl:[]=xo:=by first|(rw[←ho];done)|(rw[←ho];rfl)
 obtain rfl:0=no:=by first|omega|(rw[hno];simp;done)|(rw[hno];simp;omega)
 exact hQ _ _ (.of [1] (.inl rfl) rfl rfl rfl rfl)
 refine .row0 hl fun ab z3 ad ac=>?_
 conv=>cbv
 have e:l=C2 l:=(by rfl)
 rw[hr]at e
 subst e
 obtain rfl:z3=xo:=by rw[←ac,←ho]
 obtain rfl:ab=no:=by first|omega|(rw[hno];simp;done)|(rw[hno];simp;omega)
 exact hQ _ _ (.of [2] (.inl rfl) rfl rfl rfl rfl)
theorem Kk{l:List Bs}{o:List Bs}(hl:l.map A5=xl)(hn:l.length≤4000000000)(hr:C2 l=o)(ho:o.map A5=xo):Fn Tryz.prog 195 [.d (.row 3 xl)] [] ⟨.d (.row 3 xo),[],[]⟩:=by
 refine Fn.go Ew Tryz.func195 fun P hP Q hQ=>?_
 conv=>cbv
 refine .go fun v1 ab=>?_
 conv=>cbv
 refine⟨fun h2=>?_,?_⟩
 have e:[]=C2 l:=(by unfold C2;exact M0 hl ab h2)
 rw[hr]at e
 subst e
 exact hQ _ _ (.r rfl rfl rfl (by rw[←ho];rfl))
 refine .row0 hl fun ad z3 ac aa=>?_
 conv=>cbv
 have e:l=C2 l:=(by rfl)
 rw[hr]at e
 subst e
 exact hQ _ _ (.r rfl rfl (by rw[←aa,List.length_map];first|omega|(simp;omega)) (by rw[←aa,←ho]))
theorem Ki{l:List Bs}{o:List Bs}(hl:l.map A5=xl)(hn:l.length≤4000000000)(hr:C2 l=o)(ho:o.map A5=xo)(hno:no=o.length):Fn Tryz.prog 195 [.d (.row 3 xl)] [] ⟨.ref 0 0 no,[.row 3 false xo],[]⟩:=by
 refine Fn.goR Ew Tryz.func195 fun P hP Q hQ=>?_
 conv=>cbv
 refine .go fun v1 aa=>?_
 conv=>cbv
 refine⟨fun h2=>?_,?_⟩
 have e:[]=C2 l:=(by unfold C2;exact M0 hl aa h2)
 rw[hr]at e
 subst e
 obtain rfl:[]=xo:=by first|(rw[←ho];done)|(rw[←ho];rfl)
 obtain rfl:0=no:=by first|omega|(rw[hno];simp;done)|(rw[hno];simp;omega)
 exact hQ _ _ (.of [1] (.inl rfl) rfl rfl rfl rfl)
 refine .row0 hl fun ab z3 ad ac=>?_
 conv=>cbv
 have e:l=C2 l:=(by rfl)
 rw[hr]at e
 subst e
 obtain rfl:z3=xo:=by rw[←ac,←ho]
 obtain rfl:ab=no:=by first|omega|(rw[hno];simp;done)|(rw[hno];simp;omega)
 exact hQ _ _ (.of [2] (.inl rfl) rfl rfl rfl rfl)
theorem Iw{l:List ByteArray}{o:List ByteArray}(hl:l.map cS=xl)(hn:l.length≤4000000000)(hr:C2 l=o)(ho:o.map cS=xo):Fn Tryz.prog 196 [.d (.row 1 xl)] [] ⟨.d (.row 1 xo),[],[]⟩:=by
 refine Fn.go Ew Tryz.func196 fun P hP Q hQ=>?_
 conv=>cbv
 refine .go fun v1 ab=>?_
 conv=>cbv
 refine⟨fun h2=>?_,?_⟩
 have e:[]=C2 l:=(by unfold C2;exact M0 hl ab h2)
 rw[hr]at e
 subst e
 exact hQ _ _ (.r rfl rfl rfl (by rw[←ho];rfl))
 refine .row0 hl fun ad z3 ac aa=>?_
 conv=>cbv
 have e:l=C2 l:=(by rfl)
 rw[hr]at e
 subst e
 exact hQ _ _ (.r rfl rfl (by rw[←aa,List.length_map];first|omega|(simp;omega)) (by rw[←aa,←ho]))
theorem Ie{l:List ByteArray}{o:List ByteArray}(hl:l.map cS=xl)(hn:l.length≤4000000000)(hr:C2 l=o)(ho:o.map cS=xo)(hno:no=o.length):Fn Tryz.prog 196 [.d (.row 1 xl)] [] ⟨.ref 0 0 no,[.row 1 false xo],[]⟩:=by
 refine Fn.goR Ew Tryz.func196 fun P hP Q hQ=>?_
 conv=>cbv
 refine .go fun v1 aa=>?_
 conv=>cbv
 refine⟨fun h2=>?_,?_⟩
 have e:[]=C2 l:=(by unfold C2;exact M0 hl aa h2)
 rw[hr]at e
 subst e
 obtain rfl:[]=xo:=by first|(rw[←ho];done)|(rw[←ho];rfl)
 obtain rfl:0=no:=by first|omega|(rw[hno];simp;done)|(rw[hno];simp;omega)
 exact hQ _ _ (.of [1] (.inl rfl) rfl rfl rfl rfl)
 refine .row0 hl fun ab z3 ad ac=>?_
 conv=>cbv
 have e:l=C2 l:=(by rfl)
 rw[hr]at e
 subst e
 obtain rfl:z3=xo:=by rw[←ac,←ho]
 obtain rfl:ab=no:=by first|omega|(rw[hno];simp;done)|(rw[hno];simp;omega)
 exact hQ _ _ (.of [2] (.inl rfl) rfl rfl rfl rfl)
theorem L5{l:List Int}{o:List Int}(hl:l.map cI=xl)(hn:l.length≤4000000000)(hr:C2 l=o)(ho:o.map cI=xo):Fn Tryz.prog 231 [.d (.row 1 xl)] [] ⟨.d (.row 1 xo),[],[]⟩:=by
 refine Fn.go Ew Tryz.func231 fun P hP Q hQ=>?_
 conv=>cbv
 refine .go fun v1 ab=>?_
 conv=>cbv
 refine⟨fun h2=>?_,?_⟩
 have e:[]=C2 l:=(by unfold C2;exact M0 hl ab h2)
 rw[hr]at e
 subst e
 exact hQ _ _ (.r rfl rfl rfl (by rw[←ho];rfl))
 refine .row0 hl fun ad z3 ac aa=>?_
 conv=>cbv
 have e:l=C2 l:=(by rfl)
 rw[hr]at e
 subst e
 exact hQ _ _ (.r rfl rfl (by rw[←aa,List.length_map];first|omega|(simp;omega)) (by rw[←aa,←ho]))
theorem Ll{l:List Int}{o:List Int}(hl:l.map cI=xl)(hn:l.length≤4000000000)(hr:C2 l=o)(ho:o.map cI=xo)(hno:no=o.length):Fn Tryz.prog 231 [.d (.row 1 xl)] [] ⟨.ref 0 0 no,[.row 1 false xo],[]⟩:=by
 refine Fn.goR Ew Tryz.func231 fun P hP Q hQ=>?_
 conv=>cbv
 refine .go fun v1 aa=>?_
 conv=>cbv
 refine⟨fun h2=>?_,?_⟩
 have e:[]=C2 l:=(by unfold C2;exact M0 hl aa h2)
 rw[hr]at e
 subst e
 obtain rfl:[]=xo:=by first|(rw[←ho];done)|(rw[←ho];rfl)
 obtain rfl:0=no:=by first|omega|(rw[hno];simp;done)|(rw[hno];simp;omega)
 exact hQ _ _ (.of [1] (.inl rfl) rfl rfl rfl rfl)
 refine .row0 hl fun ab z3 ad ac=>?_
 conv=>cbv
 have e:l=C2 l:=(by rfl)
 rw[hr]at e
 subst e
 obtain rfl:z3=xo:=by rw[←ac,←ho]
 obtain rfl:ab=no:=by first|omega|(rw[hno];simp;done)|(rw[hno];simp;omega)
 exact hQ _ _ (.of [2] (.inl rfl) rfl rfl rfl rfl)
end
end Go.Proofs.YtgdmjbcllgmepaaGreatDoor.Ab
