/- What functions of the program come to, for all arguments in the given bounds. -/
import Derived.Test.YtjbmpmmffjgedaaGreatDoorCch04
import Derived.Test.YtjbmpmmffjgedaaGreatDoorCchE2
import Derived.KernelRfl
set_option linter.unusedVariables false
set_option linter.unusedSimpArgs false
namespace Go.Proofs.YtjbmpmmffjgedaaGreatDoor.Ab
section
open Go Go.Proofs
set_option maxRecDepth 20000
set_option maxHeartbeats 4000000
def XaD:List (Nat×TyRow):=[ty3,ty9,Zy,Xb9,Xb7,XfJ,Xku,XkM,XgE,Xig,Xkl]
theorem Xbr:B3 Tryz.prog XaD:=B3.of (by kernel_rfl)
theorem C9:Setup Tryz.prog XaD:=⟨Xbr,mixed⟩
def Fw(x:Ht):Int:=if A2 x.text_=true then 1 else 0
def Ep(d:Aa):Int:=H0 Fw (G0 d)
def Hk(d:Aa):Int:=Ep d
theorem Sy{d:Aa}:Hk d=H0 (fun b=>if A2 (Au d b)=true then 1 else 0) (C2 d):=Pv _ _ fun x h1 h2=>by unfold Fw;rw[h1]
variable {xbas xscaheaver xscaheastr xscaheabas xscahealin xscaend o Aq As i oacou oaat:Int} {xtex b:ByteArray} {xscaok xscamar ob:Bool} {xscarec Am:List ByteArray} {xxscarec xxscaoff Bj Be Bd Bf xoa xl:List (List D)} {xscaoff:List Int} {Ak:List Cs} {Al An:List Ad} {oa l:List Cx}
theorem Xa8(hxscarec:xscarec.map cS=xxscarec)(hxscaoff:xscaoff.map cI=xxscaoff)(hn:xtex.size<2^40)(hr:Fw (⟨xbas,xtex,⟨xscaok,⟨xscaheaver,xscaheastr,xscaheabas,xscahealin⟩,xscarec,xscaoff,xscaend,xscamar⟩⟩:Ht)=o):Fn Tryz.prog 76 [.agg [I xbas,S xtex,B xscaok,I xscaheaver,I xscaheastr,I xscaheabas,I xscahealin,.d (.row 1 xxscarec),.d (.row 1 xxscaoff),I xscaend,B xscamar]] [] ⟨I o,[],[]⟩:=by
 refine Fn.go C9 Tryz.func76 fun P hP Q hQ=>?_
 conv=>cbv
 generalize aa:A2 xtex=r1
 refine .dd hP (N7 (by omega) aa) ?_
 cases r1
 conv=>cbv
 have e:0=Fw (⟨xbas,xtex,⟨xscaok,⟨xscaheaver,xscaheastr,xscaheabas,xscahealin⟩,xscarec,xscaoff,xscaend,xscamar⟩⟩:Ht):=(by unfold Fw;simp[aa])
 rw[hr]at e
 subst e
 exact hQ _ _ (.i rfl rfl)
 conv=>cbv
 have e:1=Fw (⟨xbas,xtex,⟨xscaok,⟨xscaheaver,xscaheastr,xscaheabas,xscahealin⟩,xscarec,xscaoff,xscaend,xscamar⟩⟩:Ht):=(by unfold Fw;simp[aa])
 rw[hr]at e
 subst e
 exact hQ _ _ (.i rfl rfl)
theorem Oi(Ay:Ak.map B5=Bj)(Av:Al.map Ae=Be)(A3:An.map Ae=Bd)(A5:Am.map cS=Bf)(hd:okD ⟨Ak,Al,An,Am,Aq,As⟩)(hr:Ep (⟨Ak,Al,An,Am,Aq,As⟩:Aa)=o):Fn Tryz.prog 75 [.agg [.d (.row 3 Bj),.d (.row 2 Be),.d (.row 2 Bd),.d (.row 1 Bf),I Aq,I As],.clo 76 []] [] ⟨I o,[],[]⟩:=by
 refine Fn.go C9 Tryz.func75 fun P hP Q hQ=>?_
 conv=>cbv
 generalize ao:G0 (⟨Ak,Al,An,Am,Aq,As⟩:Aa)=l1
 generalize ap:l1.map XaP=a6
 refine .dd hP (Sd Ay Av A3 A5 hd ao ap) ?_
 conv=>cbv
 refine .go ap fun v2 a7=>?_
 conv=>cbv
 refine LoopW.lp (κ:=Int×Int) C9 hP [] [1,9,10] (fun(i5,ag)=>[(5,I i5),(11,I ag)]) (fun(i5,ag)=>[])
  (fun(i5,ag)=>0≤ag∧ag≤l1.length∧(0*ag≤i5∧i5≤1*ag)∧i5=H0 Fw (l1.take ag.toNat))
  (fun(i5,ag)=>(l1.length - ag).toNat) (0,0) ⟨by omega,by omega,by omega,rfl⟩ ⟨rfl,rfl,trivial⟩ rfl ?_
 rintro⟨i5,ag⟩ J ⟨h0,h1,hb,hx⟩ hJ
 have a2:=Ju ao
 conv=>cbv
 refine .lss (fun h3=>?_) fun h3=>?_
 conv=>cbv
 refine .goX ag.toNat ap fun aw ⟨al,ak,⟨aj,⟨aa,ab,ac,ad⟩,ae,af,ah,ai⟩⟩ fe4 ax hfe4=>?_
 replace hfe4:[.sc (.int .i64 al),.sc (.string ak),.sc (.bool aj),.sc (.int .i64 aa),.sc (.int .i64 ab),.sc (.int .i64 ac),.sc (.int .i64 ad),.row 1 (ae.map cS),.row 1 (af.map cI),.sc (.int .i64 ah),.sc (.bool ai)]=fe4:=hfe4
 generalize am:ae.map cS=aq at hfe4
 generalize an:af.map cI=ar at hfe4
 subst hfe4
 conv=>cbv
 have hm:=If ao (x:=⟨al,ak,⟨aj,⟨aa,ab,ac,ad⟩,ae,af,ah,ai⟩⟩) (by rw[ax];exact List.getElem_mem _)
 obtain⟨ay,az,s9,a1⟩:=hm
 simp only[]at ay az a1
 have hz:=Dg hd ay.symm
 generalize au:Fw (⟨al,ak,⟨aj,⟨aa,ab,ac,ad⟩,ae,af,ah,ai⟩⟩:Ht)=r5
 refine .dd hP (Xa8 am an (by omega) au) ?_
 conv=>cbv
 have h5:r5=(if A2 ak=true then 1 else 0):=au.symm
 have h5b:0≤r5∧r5≤1:=by rw[h5];split<;>omega
 refine .add fun v6 a8=>?_
 conv=>cbv
 refine .add fun v7 ba=>?_
 conv=>cbv
 exact .go [] (v6,v7) (hJ _ ⟨by omega,by omega,by omega,by rw[show v7.toNat=ag.toNat+1 by omega,Dl aw,←hx,←ax,au];omega⟩ mlt)
 conv=>cbv
 have e:i5=Ep (⟨Ak,Al,An,Am,Aq,As⟩:Aa):=(by unfold Ep;rw[ao,hx,List.take_of_length_le (by omega)])
 rw[hr]at e
 subst e
 exact hQ _ _ (.i rfl rfl)
theorem Xe6(Ay:Ak.map B5=Bj)(Av:Al.map Ae=Be)(A3:An.map Ae=Bd)(A5:Am.map cS=Bf)(hd:okD ⟨Ak,Al,An,Am,Aq,As⟩)(hr:Hk (⟨Ak,Al,An,Am,Aq,As⟩:Aa)=o):Fn Tryz.prog 19 [.agg [.d (.row 3 Bj),.d (.row 2 Be),.d (.row 2 Bd),.d (.row 1 Bf),I Aq,I As]] [] ⟨I o,[],[]⟩:=by
 refine Fn.go C9 Tryz.func19 fun P hP Q hQ=>?_
 conv=>cbv
 generalize aa:Ep (⟨Ak,Al,An,Am,Aq,As⟩:Aa)=r1
 refine .dd hP (Oi Ay Av A3 A5 hd aa) ?_
 conv=>cbv
 have e:r1=Hk (⟨Ak,Al,An,Am,Aq,As⟩:Aa):=(by unfold Hk;exact aa.symm)
 rw[hr]at e
 subst e
 exact hQ _ _ (.i rfl rfl)
theorem Xe2(Ay:Ak.map B5=Bj)(Av:Al.map Ae=Be)(A3:An.map Ae=Bd)(A5:Am.map cS=Bf)(hd:okD ⟨Ak,Al,An,Am,Aq,As⟩)(hr:Hk (⟨Ak,Al,An,Am,Aq,As⟩:Aa)=o):Fn Tryz.prog 27 [.agg [.d (.row 3 Bj),.d (.row 2 Be),.d (.row 2 Bd),.d (.row 1 Bf),I Aq,I As]] [] ⟨I o,[],[]⟩:=by
 refine Fn.go C9 Tryz.func27 fun P hP Q hQ=>?_
 conv=>cbv
 generalize ac:C2 (⟨Ak,Al,An,Am,Aq,As⟩:Aa)=l1
 generalize ad:l1.map cI=ai
 refine .dd hP (Pq Ay Av A3 A5 hd ac ad) ?_
 conv=>cbv
 refine LoopW.lp (κ:=Int×Int) C9 hP [] [1,4] (fun(i3,i5)=>[(3,I i3),(5,I i5)]) (fun(i3,i5)=>[])
  (fun(i3,i5)=>0≤i5∧i5≤l1.length∧(0≤i3∧i3≤i5)∧i3=H0 (fun b=>if A2 (Au (⟨Ak,Al,An,Am,Aq,As⟩:Aa) b)=true then 1 else 0) (l1.take i5.toNat))
  (fun(i3,i5)=>(l1.length - i5).toNat) (0,0) ⟨by omega,by omega,by omega,rfl⟩ ⟨rfl,rfl,trivial⟩ rfl ?_
 rintro⟨i3,i5⟩ J ⟨h0,h1,hb,hx⟩ hJ
 have ah:=Fi ac
 conv=>cbv
 refine .go ad fun v2 aj=>?_
 conv=>cbv
 refine .lss (fun h3=>?_) fun h3=>?_
 conv=>cbv
 refine .go i5.toNat ad fun ab e4 af=>?_
 conv=>cbv
 generalize aa:Au (⟨Ak,Al,An,Am,Aq,As⟩:Aa) e4=r5
 refine .dd hP (Mm Ay Av A3 A5 hd aa) ?_
 conv=>cbv
 have z5:=Dg hd aa
 generalize ae:A2 r5=r6
 refine .dd hP (Ro (by omega) ae) ?_
 cases r6
 conv=>cbv
 refine .add fun v7 ag=>?_
 conv=>cbv
 exact .go [] (i3,v7) (hJ _ ⟨by omega,by omega,by omega,by rw[show v7.toNat=i5.toNat+1 by omega,Dl ab,←hx,←af,aa,ae];simp⟩ mlt)
 conv=>cbv
 refine .add fun v7 ag=>?_
 conv=>cbv
 refine .add fun v8 ak=>?_
 conv=>cbv
 exact .go [] (v7,v8) (hJ _ ⟨by omega,by omega,by omega,by rw[show v8.toNat=i5.toNat+1 by omega,Dl ab,←hx,←af,aa,ae];simp;omega⟩ mlt)
 conv=>cbv
 have e:i3=Hk (⟨Ak,Al,An,Am,Aq,As⟩:Aa):=(by rw[Sy,ac,hx,List.take_of_length_le (by omega)])
 rw[hr]at e
 subst e
 exact hQ _ _ (.i rfl rfl)
theorem Ls{b:ByteArray}:0≤(Ac b).head_.base_∧(Ac b).head_.base_≤1000000000:=by
 unfold Ac
 split
 ·rename_i h e
  have h2:=(Cu e).2.2
  obtain⟨v,st,bs,lk⟩:=h
  have:=Dw h2
  show 0≤bs∧bs≤1000000000
  omega
 ·exact⟨Int.le_refl _,by show(0:Int)≤1000000000;omega⟩
theorem W4:∀(k:Nat) {h:Az} {b:ByteArray} {n:Nat} {p:Int},(b.size - p).toNat≤k→0≤p∧p≤b.size→(Ek h b n p).2.1.length=(Ek h b n p).1.length
 |k,h,b,n,p,hk,hp=>by
  cases hm:Db h.version_ (h.base_+n) b p
  ·rcases hf:Ap h.version_ (h.base_+n) b p with⟨r,q,ok⟩
   cases ok
   ·rw[H5 hm hf];rfl
   ·have h2:=E7 hf
    rw[H9 hm hf]
    cases k with
    |zero=>omega
    |succ k=>
     have ih:=W4 k (h:=h) (b:=b) (n:=n+1) (p:=q) (by omega) (by omega)
     rw[List.length_cons,List.length_cons,ih]
  ·rw[H3 hm];rfl
theorem Jl{b:ByteArray}:(Ac b).offsets_.length=(Ac b).records_.length:=by
 unfold Ac
 split
 ·rename_i h e
  have h2:=Cu e
  exact W4 _ (h:=h) (b:=b) (n:=0) (p:=24) (Nat.le_refl _) (by omega)
 ·rfl
theorem Xfr{d:Aa}{l:List Int}(e:C2 d=l){x:Int}(hx:x∈l):0≤x∧x≤1000000000:=by
 rw[←e]at hx
 obtain⟨y,hy,rfl⟩:=List.mem_map.1 hx
 obtain⟨_,_,s,h3⟩:=If rfl hy
 obtain⟨hh,g1,g2,g3,g4,g5⟩:=Nj h3
 exact⟨g4,g5⟩
def Ft(b:ByteArray):List Cx×Bool:=if A2 b=true then(A9 (Ac b).head_.stride_ (Ac b).offsets_,true)else([],false)
def rat(s:K0)(i:Int):Int:=if s.head_.base_≤i∧i≤s.head_.base_+s.records_.length - 1 then i - s.head_.base_ else -1
def Jg(l:List Cx)(i:Int):Nat→Cx×Bool
 |0=>(⟨0,0⟩,false)
 |k+1=>if(l.getD k ⟨0,0⟩).count_≤i then(l.getD k ⟨0,0⟩,true)else Jg l i k
def Dn(l:List Cx)(i:Int):Cx×Bool:=Jg l i l.length
def C8(b:ByteArray)(i:Int):Int:=
 if A2 b=true∧(Ac b).head_.base_≤i∧i - (Ac b).head_.base_<(Ac b).records_.length then
  i - (Ac b).head_.base_ - (Dn (A9 (Ac b).head_.stride_ (Ac b).offsets_) (i - (Ac b).head_.base_)).1.count_+1 else 0
def El(b:ByteArray)(i:Int):ByteArray×Bool:=
 if A2 b=true∧(Ac b).head_.base_≤i∧i - (Ac b).head_.base_<(Ac b).records_.length then((Ac b).records_.getD (i - (Ac b).head_.base_).toNat (tx []),true)else(tx [],false)
theorem XcR{l:List Cx}{i:Int}{m:Int}(hm:0≤m)(h:∀p∈l,0≤p.count_∧p.count_≤m):∀k,k≤l.length→0≤(Jg l i k).1.count_∧(Jg l i k).1.count_≤m
 |0,_=>⟨Int.le_refl _,hm⟩
 |k+1,hk=>by
  rw[Jg]
  split
  ·show 0≤(l.getD k ⟨0,0⟩).count_∧_
   rw[←gD (show k<l.length by omega)]
   exact h _ (List.getElem_mem _)
  ·exact XcR hm h k (by omega)
theorem T8{l:List Cx}{i:Int}(hl:(l.getD 0 ⟨0,0⟩).count_≤i):∀k,1≤k→(Jg l i k).2=true
 |k+1,_=>by
  rw[Jg]
  split
  ·rfl
  ·cases k with
   |zero=>rename_i h;exact absurd hl h
   |succ k=>exact T8 hl (k+1) (by omega)
theorem W3{s:Int}{offs:List Int}:∀p∈A9 s offs,0≤p.count_∧p.count_≤offs.length:=by
 unfold A9
 split
 ·simp
 ·intro p hp
  unfold Ws at hp
  obtain⟨i,hi,rfl⟩:=List.mem_map.1 hp
  have aa:=List.mem_range.1 (List.mem_filter.1 hi).1
  exact⟨by show 0≤(i:Int);omega,by show(i:Int)≤_;omega⟩
theorem Wh{s:Int}{offs:List Int}(hs:1≤s)(ho:1≤offs.length):1≤(A9 s offs).length∧((A9 s offs).getD 0 ⟨0,0⟩).count_=0:=by
 unfold A9
 rw[if_neg (by omega)]
 obtain⟨n,hn⟩:∃n,offs.length=n+1:=⟨offs.length - 1,by omega⟩
 rw[hn]
 unfold Ws
 rw[List.range_succ_eq_map,List.filter_cons,if_pos (by simp)]
 exact⟨by simp,rfl⟩
theorem Lx{s:Nat}(hs:1≤s){offs:List Int}{i:Nat}:∀(n:Nat),1≤n→∃c:Nat,(Jg (Ws s offs n) (i:Int) (Ws s offs n).length).1.count_=(c:Int)∧c% s=0∧c≤min i (n - 1)∧min i (n - 1)<c+s
 |0,h=>by omega
 |n+1,_=>by
  have key:∀(l:List Cx) (p:Cx) (k:Nat),k≤l.length→Jg (l++[p]) (i:Int) k=Jg l (i:Int) k:=by
   intro l p k
   induction k with
   |zero=>intro _;rfl
   |succ k ih=>
    intro hk
    rw[Jg,Jg,ih (by omega)]
    have e:(l++[p]).getD k ⟨0,0⟩=l.getD k ⟨0,0⟩:=by
     rw[←gD (show k<(l++[p]).length by rw[List.length_append];omega),←gD (show k<l.length by omega),List.getElem_append_left]
    rw[e]
  have last:∀(l:List Cx) (p:Cx),Jg (l++[p]) (i:Int) (l++[p]).length=if p.count_≤(i:Int)then(p,true)else Jg l (i:Int) l.length:=by
   intro l p
   have hl:(l++[p]).length=l.length+1:=by rw[List.length_append];rfl
   have e:(l++[p]).getD l.length ⟨0,0⟩=p:=by
    rw[←gD (show l.length<(l++[p]).length by omega)]
    simp
   rw[hl,Jg,e,key l p _ (Nat.le_refl _)]
  rw[Ni]
  by_cases hm:n% s=0
  ·rw[if_pos hm,last]
   by_cases hi:n≤i
   ·rw[if_pos (by show(n:Int)≤_;omega)]
    exact⟨n,rfl,hm,by omega,by omega⟩
   ·rw[if_neg (by show¬(n:Int)≤_;omega)]
    obtain⟨c,h1,h2,h3,h4⟩:=Lx hs (offs:=offs) (i:=i) n (by omega)
    exact⟨c,h1,h2,by omega,by omega⟩
  ·rw[if_neg hm,List.append_nil]
   have hn:1≤n:=by
    rcases Nat.eq_zero_or_pos n with h|h
    ·rw[h,Nat.zero_mod]at hm;exact absurd rfl hm
    ·exact h
   obtain⟨c,h1,h2,h3,h4⟩:=Lx hs (offs:=offs) (i:=i) n hn
   refine⟨c,h1,h2,by omega,?_⟩
   by_cases hc:min i n<c+s
   ·simpa using hc
   ·have e:n=c+s:=by omega
    exfalso
    apply hm
    rw[e,Nat.add_mod_right,h2]
theorem O4{b:ByteArray}{i o:Int}(hs:b.size≤1000000000)(e:C8 b i=o): -4096≤o∧o≤4096:=by
 rw[←e]
 unfold C8
 split
 ·rename_i g
  rcases h:A0 b with⟨⟨x,s,c,d⟩,ok⟩
  cases ok
  ·have e:(Ac b).records_=[]:=by unfold Ac;rw[h]
   rw[e]at g
   have:=g.2.2
   have:=g.2.1
   simp at*
   omega
  ·have hd:=Dw (Cu h).2.2
   have e:(Ac b).head_=⟨x,s,c,d⟩:=by unfold Ac;rw[h]
   have hlen:=Jl (b:=b)
   rw[e]at g⊢
   simp only[]at g⊢
   have g2:=g.2.1
   have g3:=g.2.2
   obtain⟨k,hk⟩:∃k:Nat,i - c=(k:Int):=⟨(i - c).toNat,by omega⟩
   rw[hk]at g3⊢
   unfold A9
   rw[if_neg (by omega)]
   obtain⟨q,h1,h2,h3,h4⟩:=Lx (s:=s.toNat) (by omega) (offs:=(Ac b).offsets_) (i:=k) (Ac b).offsets_.length (by omega)
   unfold Dn
   rw[h1]
   omega
 ·omega
theorem XaF{b:ByteArray}:By b=if A2 b=true then((Ac b).head_,(Ac b).records_,true)else(⟨0,0,0,0⟩,[],false):=by
 unfold A2 By
 split
 ·rfl
 ·rfl
theorem XfR{b:ByteArray}(h:A2 b=true):(Ac b).ok_=true∧Ci (Ac b).head_=true:=by
 unfold A2 By at h
 split at h
 ·rename_i hh
  refine⟨hh.1,?_⟩
  have h1:=hh.1
  unfold Ac at h1⊢
  split at h1
  ·rename_i h2 e
   exact(Cu e).2.2
  ·cases h1
 ·cases h
theorem Xiq(hn:b.size<2^40)(hr:Ft b=(oa,ob))(hoa:oa.map I4=xoa):Fn Tryz.prog 161 [S b] [] ⟨.tup [.d (.row 2 xoa),B ob],[],[]⟩:=by
 refine Fn.go C9 Tryz.func161 fun P hP Q hQ=>?_
 conv=>cbv
 generalize ae:A2 b=r1
 refine .dd hP (N7 (by omega) ae) ?_
 cases r1
 conv=>cbv
 have e:([],false)=Ft b:=(by unfold Ft;rw[ae];simp)
 rw[hr]at e
 simp only[Prod.mk.injEq]at e
 obtain⟨rfl,rfl⟩:=e
 refine hQ _ _ ?_
 exact .many (.inl rfl) rfl rfl (.ref rfl rfl (by rw[←hoa];rfl) (.d rfl rfl (.nil)))
 conv=>cbv
 rcases af:Ac b with⟨aq,⟨ah,ab,ai,aj⟩,ag,ac,ao,ap⟩
 generalize ad:ag.map cS=am
 generalize aa:ac.map cI=an
 refine .dd hP (Lo (by omega) af ad aa) ?_
 conv=>cbv
 have zb:=Ls (b:=b)
 have zl:=Dh (b:=b)
 have zo:=Jl (b:=b)
 rw[af]at zb zl zo
 simp only[]at zb zl zo
 generalize ak:A9 ab ac=l3
 generalize al:l3.map I4=ar
 refine .dd hP (Wv aa (by omega) ak al) ?_
 conv=>cbv
 have e:(l3,true)=Ft b:=(by unfold Ft;rw[ae,af,if_pos rfl,ak])
 rw[hr]at e
 simp only[Prod.mk.injEq]at e
 obtain⟨rfl,rfl⟩:=e
 refine hQ _ _ ?_
 exact .many (.inl rfl) rfl rfl (.d rfl (Xgn al hoa) (.d rfl rfl (.nil)))
theorem Xij(hn:b.size<2^40)(hr:Ft b=(oa,ob))(hoa:oa.map I4=xoa):Fn Tryz.prog 166 [S b] [] ⟨.tup [.d (.row 2 xoa),B ob],[],[]⟩:=by
 refine Fn.go C9 Tryz.func166 fun P hP Q hQ=>?_
 conv=>cbv
 generalize ae:A2 b=r1
 refine .dd hP (Ro (by omega) ae) ?_
 cases r1
 conv=>cbv
 have e:([],false)=Ft b:=(by unfold Ft;rw[ae];simp)
 rw[hr]at e
 simp only[Prod.mk.injEq]at e
 obtain⟨rfl,rfl⟩:=e
 refine hQ _ _ ?_
 exact .many (.inl rfl) rfl rfl (.ref rfl rfl (by rw[←hoa];rfl) (.d rfl rfl (.nil)))
 conv=>cbv
 rcases af:Ac b with⟨aq,⟨ah,ab,ai,aj⟩,ag,ac,ao,ap⟩
 generalize ad:ag.map cS=am
 generalize aa:ac.map cI=an
 refine .dd hP (Jt (by omega) af ad aa) ?_
 conv=>cbv
 have zb:=Ls (b:=b)
 have zl:=Dh (b:=b)
 have zo:=Jl (b:=b)
 rw[af]at zb zl zo
 simp only[]at zb zl zo
 generalize ak:A9 ab ac=l3
 generalize al:l3.map I4=ar
 refine .dd hP (Xj aa (by omega) ak al) ?_
 conv=>cbv
 have e:(l3,true)=Ft b:=(by unfold Ft;rw[ae,af,if_pos rfl,ak])
 rw[hr]at e
 simp only[Prod.mk.injEq]at e
 obtain⟨rfl,rfl⟩:=e
 refine hQ _ _ ?_
 exact .many (.inl rfl) rfl rfl (.d rfl (Xgn al hoa) (.d rfl rfl (.nil)))
theorem XgK{sok:Bool}{sheaver:Int}{sheastr:Int}{sheabas:Int}{shealin:Int}{srec:List ByteArray}{xsrec:List (List D)}{soff:List Int}{xsoff:List (List D)}{send:Int}{smar:Bool}(hsrec:srec.map cS=xsrec)(hsoff:soff.map cI=xsoff)(hb:0≤sheabas∧sheabas≤1000000000)(hn:srec.length<2^40)(hr:rat (⟨sok,⟨sheaver,sheastr,sheabas,shealin⟩,srec,soff,send,smar⟩:K0) i=o):Fn Tryz.prog 163 [.agg [B sok,I sheaver,I sheastr,I sheabas,I shealin,.d (.row 1 xsrec),.d (.row 1 xsoff),I send,B smar],I i] [] ⟨I o,[],[]⟩:=by
 refine Fn.go C9 Tryz.func163 fun P hP Q hQ=>?_
 conv=>cbv
 refine .go hsrec fun v1 ac=>?_
 conv=>cbv
 refine .add fun v2 ad=>?_
 conv=>cbv
 refine .sub fun v3 ae=>?_
 conv=>cbv
 generalize aa:Cq i sheabas v3=r4
 refine .dd hP (Je aa) ?_
 cases r4
 simp only[Cq,decide_eq_true_eq,decide_eq_false_iff_not]at aa
 conv=>cbv
 have e:(-1)=rat (⟨sok,⟨sheaver,sheastr,sheabas,shealin⟩,srec,soff,send,smar⟩:K0) i:=(by unfold rat;rw[if_neg (by simp only[];omega)])
 rw[hr]at e
 subst e
 exact hQ _ _ (.i rfl rfl)
 simp only[Cq,decide_eq_true_eq,decide_eq_false_iff_not]at aa
 conv=>cbv
 refine .sub fun v5 ab=>?_
 conv=>cbv
 have e:v5=rat (⟨sok,⟨sheaver,sheastr,sheabas,shealin⟩,srec,soff,send,smar⟩:K0) i:=(by unfold rat;rw[if_pos (by simp only[];omega)];exact ab)
 rw[hr]at e
 subst e
 exact hQ _ _ (.i rfl rfl)
theorem Xfj(hl:l.map I4=xl)(hn:l.length<2^40)(hr:Dn l i=(⟨oacou,oaat⟩,ob)):Fn Tryz.prog 164 [.d (.row 2 xl),I i] [] ⟨.tup [.agg [I oacou,I oaat],B ob],[],[]⟩:=by
 refine Fn.go C9 Tryz.func164 fun P hP Q hQ=>?_
 conv=>cbv
 refine .go hl fun v1 ai=>?_
 conv=>cbv
 refine .sub fun v2 aj=>?_
 conv=>cbv
 refine LoopW.lp (κ:=Int) C9 hP [] [0,1,4] (fun i6=>[(6,I i6)]) (fun i6=>[])
  (fun i6=>-1≤i6∧i6<l.length∧Dn l i=Jg l i (i6+1).toNat)
  (fun i6=>(i6+1).toNat) (v2) ⟨by omega,by omega,by unfold Dn;congr 1;omega⟩ ⟨rfl,trivial⟩ rfl ?_
 rintro i6 J ⟨h0,h1,hp⟩ hJ
 conv=>cbv
 refine .geq (fun h3=>?_) fun h3=>?_
 conv=>cbv
 refine .go i6.toNat hl fun ab ⟨ag,ah⟩ ac=>?_
 conv=>cbv
 refine .leq (fun h5=>?_) fun h5=>?_
 conv=>cbv
 refine .go i6.toNat hl fun ad ⟨aa,ae⟩ af=>?_
 conv=>cbv
 have e:((⟨aa,ae⟩:Cx),true)=Dn l i:=(by rw[hp,show(i6+1).toNat=i6.toNat+1 by omega,Jg,←gD ad,←af,if_pos (by have:=ac.trans af.symm;simp only[Cx.mk.injEq]at this;simp only[];omega)])
 rw[hr]at e
 simp only[Prod.mk.injEq,Cx.mk.injEq]at e
 obtain⟨⟨rfl,rfl⟩,rfl⟩:=e
 refine hQ _ _ ?_
 exact .many (.inl rfl) rfl rfl (.agg (.d rfl rfl (.d rfl rfl (.nil))) (.d rfl rfl (.nil)))
 conv=>cbv
 refine .sub fun v6 ak=>?_
 conv=>cbv
 have e6:(i6+1).toNat=i6.toNat+1:=by omega
 exact .go [] (v6) (hJ _ ⟨by omega,by omega,by rw[hp,e6,Jg,if_neg (by rw[←gD ab,←ac];simp only[];omega),show(v6+1).toNat=i6.toNat by omega]⟩ mlt)
 conv=>cbv
 have e:((⟨0,0⟩:Cx),false)=Dn l i:=(by rw[hp,show(i6+1).toNat=0 by omega];rfl)
 rw[hr]at e
 simp only[Prod.mk.injEq,Cx.mk.injEq]at e
 obtain⟨⟨rfl,rfl⟩,rfl⟩:=e
 refine hQ _ _ ?_
 exact .many (.inl rfl) rfl rfl (.agg (.d rfl rfl (.d rfl rfl (.nil))) (.d rfl rfl (.nil)))
theorem Xe1(hl:l.map I4=xl)(hn:l.length<2^40)(hr:Dn l i=(⟨oacou,oaat⟩,ob)):Fn Tryz.prog 167 [.d (.row 2 xl),I i] [] ⟨.tup [.agg [I oacou,I oaat],B ob],[],[]⟩:=by
 refine Fn.go C9 Tryz.func167 fun P hP Q hQ=>?_
 conv=>cbv
 refine .go hl fun v1 ai=>?_
 conv=>cbv
 refine .sub fun v2 aj=>?_
 conv=>cbv
 refine LoopW.lp (κ:=Int) C9 hP [] [0,1,4] (fun i6=>[(6,I i6)]) (fun i6=>[])
  (fun i6=>-1≤i6∧i6<l.length∧Dn l i=Jg l i (i6+1).toNat)
  (fun i6=>(i6+1).toNat) (v2) ⟨by omega,by omega,by unfold Dn;congr 1;omega⟩ ⟨rfl,trivial⟩ rfl ?_
 rintro i6 J ⟨h0,h1,hp⟩ hJ
 conv=>cbv
 refine .geq (fun h3=>?_) fun h3=>?_
 conv=>cbv
 refine .go i6.toNat hl fun ab ⟨ag,ah⟩ ac=>?_
 conv=>cbv
 refine .leq (fun h5=>?_) fun h5=>?_
 conv=>cbv
 refine .go i6.toNat hl fun ad ⟨aa,ae⟩ af=>?_
 conv=>cbv
 have e:((⟨aa,ae⟩:Cx),true)=Dn l i:=(by rw[hp,show(i6+1).toNat=i6.toNat+1 by omega,Jg,←gD ad,←af,if_pos (by have:=ac.trans af.symm;simp only[Cx.mk.injEq]at this;simp only[];omega)])
 rw[hr]at e
 simp only[Prod.mk.injEq,Cx.mk.injEq]at e
 obtain⟨⟨rfl,rfl⟩,rfl⟩:=e
 refine hQ _ _ ?_
 exact .many (.inl rfl) rfl rfl (.agg (.d rfl rfl (.d rfl rfl (.nil))) (.d rfl rfl (.nil)))
 conv=>cbv
 refine .sub fun v6 ak=>?_
 conv=>cbv
 have e6:(i6+1).toNat=i6.toNat+1:=by omega
 exact .go [] (v6) (hJ _ ⟨by omega,by omega,by rw[hp,e6,Jg,if_neg (by rw[←gD ab,←ac];simp only[];omega),show(v6+1).toNat=i6.toNat by omega]⟩ mlt)
 conv=>cbv
 have e:((⟨0,0⟩:Cx),false)=Dn l i:=(by rw[hp,show(i6+1).toNat=0 by omega];rfl)
 rw[hr]at e
 simp only[Prod.mk.injEq,Cx.mk.injEq]at e
 obtain⟨⟨rfl,rfl⟩,rfl⟩:=e
 refine hQ _ _ ?_
 exact .many (.inl rfl) rfl rfl (.agg (.d rfl rfl (.d rfl rfl (.nil))) (.d rfl rfl (.nil)))
theorem XfD{b:ByteArray}{l:List Cx}{ok:Bool}(e:Ft b=(l,ok)):l.length≤(Ac b).offsets_.length:=by
 unfold Ft at e
 split at e
 ·obtain⟨rfl,rfl⟩:=Prod.mk.inj e
  exact Gq
 ·obtain⟨rfl,rfl⟩:=Prod.mk.inj e
  simp
theorem XeE{b:ByteArray}{l:List Cx}{ok:Bool}(e:Ft b=(l,ok)):A2 b=ok:=by
 unfold Ft at e
 split at e
 ·obtain⟨rfl,rfl⟩:=Prod.mk.inj e;assumption
 ·rename_i hh;obtain⟨rfl,rfl⟩:=Prod.mk.inj e;simpa using hh
theorem W7{b:ByteArray}{l:List Cx}(e:Ft b=(l,true)):l=A9 (Ac b).head_.stride_ (Ac b).offsets_:=by
 unfold Ft at e
 split at e
 ·exact(Prod.mk.inj e).1.symm
 ·cases(Prod.mk.inj e).2
theorem rat_t{s:K0}{i k:Int}(e:rat s i=k)(hb:0≤s.head_.base_):(0≤k∧k=i - s.head_.base_∧s.head_.base_≤i∧i - s.head_.base_<s.records_.length)∨(k= -1∧¬(s.head_.base_≤i∧i - s.head_.base_<s.records_.length)):=by
 unfold rat at e
 split at e
 ·exact .inl ⟨by omega,by omega,by omega,by omega⟩
 ·exact .inr ⟨by omega,by omega⟩
theorem Nk{b:ByteArray}{i:Int}(h:¬(A2 b=true∧(Ac b).head_.base_≤i∧i - (Ac b).head_.base_<(Ac b).records_.length)):0=C8 b i:=(if_neg h).symm
theorem XeG(hn:b.size<2^40)(hi:i<9223372036854775808)(hr:C8 b i=o):Fn Tryz.prog 85 [S b,I i] [] ⟨I o,[],[]⟩:=by
 refine Fn.go C9 Tryz.func85 fun P hP Q hQ=>?_
 conv=>cbv
 rcases aj:Ft b with⟨aa,ax⟩
 generalize am:aa.map I4=a1
 refine .dd hP (Xiq (by omega) aj am) ?_
 conv=>cbv
 rcases ae:Ac b with⟨ap,⟨ah,ab,ac,ai⟩,ak,ad,an,ao⟩
 generalize af:ak.map cS=ar
 generalize ag:ad.map cI=au
 refine .dd hP (Lo (by omega) ae af ag) ?_
 conv=>cbv
 have zb:=Ls (b:=b)
 have zl:=Dh (b:=b)
 have zo:=Jl (b:=b)
 rw[ae]at zb zl zo
 simp only[]at zb zl zo
 generalize aq:rat (⟨ap,⟨ah,ab,ac,ai⟩,ak,ad,an,ao⟩:K0) i=r3
 refine .dd hP (XgK af ag zb (by omega) aq) ?_
 conv=>cbv
 have hk:=rat_t aq zb.1
 simp only[]at hk
 have hso:=XeE aj
 have hpl:=XfD aj
 rw[ae]at hpl
 simp only[]at hpl
 rcases al:Dn aa r3 with⟨⟨aw,ay⟩,az⟩
 refine .dd hP (Xfj am (by omega) al) ?_
 conv=>cbv
 cases ax
 conv=>cbv
 have e:0=C8 b i:=(by refine Nk ?_;rw[hso];rintro⟨q,_⟩;cases q)
 rw[hr]at e
 subst e
 exact hQ _ _ (.i rfl rfl)
 conv=>cbv
 refine .lss (fun h5=>?_) fun h5=>?_
 conv=>cbv
 have e:0=C8 b i:=(by refine Nk ?_;rw[ae];simp only[];rintro⟨_,q⟩;omega)
 rw[hr]at e
 subst e
 exact hQ _ _ (.i rfl rfl)
 conv=>cbv
 cases az
 conv=>cbv
 have hle:=W7 aj
 rw[ae]at hle
 simp only[]at hle
 have hsl:=XfR hso
 rw[ae]at hsl
 simp only[]at hsl
 have hst:=(Dw hsl.2).2.1
 have hpf:=Wh (s:=ab) (offs:=ad) (by omega) (by omega)
 rw[←hle]at hpf
 have hfd:=T8 (l:=aa) (i:=r3) (by omega) aa.length (by omega)
 have hpe:Dn aa r3=Jg aa r3 aa.length:=rfl
 rw[←hpe,al]at hfd
 have e:0=C8 b i:=(by cases hfd)
 rw[hr]at e
 subst e
 exact hQ _ _ (.i rfl rfl)
 conv=>cbv
 have hle:=W7 aj
 rw[ae]at hle
 simp only[]at hle
 have hpb:=XcR (l:=aa) (i:=r3) (m:=ad.length) (by omega) (fun p hp=>by rw[hle]at hp;exact W3 p hp) _ (Nat.le_refl _)
 have hpe:Dn aa r3=Jg aa r3 aa.length:=rfl
 rw[←hpe,al]at hpb
 simp only[]at hpb
 refine .sub fun v6 a2=>?_
 conv=>cbv
 refine .add fun v7 a6=>?_
 conv=>cbv
 have e:v7=C8 b i:=(by unfold C8;rw[ae,if_pos (by simp only[];exact⟨hso,by omega⟩)];simp only[];rw[←hle,show i - ac=r3 by omega,al];simp only[];omega)
 rw[hr]at e
 subst e
 exact hQ _ _ (.i rfl rfl)
theorem XaY{oa:ByteArray}(hn:b.size<2^40)(hi:i<9223372036854775808)(hr:El b i=(oa,ob)):Fn Tryz.prog 165 [S b,I i] [] ⟨.tup [S oa,B ob],[],[]⟩:=by
 refine Fn.go C9 Tryz.func165 fun P hP Q hQ=>?_
 conv=>cbv
 rcases ac:By b with⟨⟨ad,ae,aa,af⟩,ag,ah⟩
 generalize ab:ag.map cS=aj
 refine .dd hP (Sl (by omega) ac ab) ?_
 conv=>cbv
 have hq:=ac.symm.trans XaF
 have zb:=Ls (b:=b)
 have zl:=Dh (b:=b)
 cases ah
 conv=>cbv
 have hso:A2 b=false:=by
  cases hs:A2 b
  ·rfl
  ·rw[hs,if_pos rfl]at hq;cases(Prod.mk.inj (Prod.mk.inj hq).2).2
 have e:((tx []),false)=El b i:=(by unfold El;rw[if_neg];rw[hso];rintro⟨q,_⟩;cases q)
 rw[hr]at e
 simp only[Prod.mk.injEq]at e
 obtain⟨rfl,rfl⟩:=e
 refine hQ _ _ ?_
 exact .many (.inl rfl) rfl rfl (.d rfl rfl (.d rfl rfl (.nil)))
 conv=>cbv
 refine .lss (fun h2=>?_) fun h2=>?_
 conv=>cbv
 have hso:A2 b=true:=by
  cases hs:A2 b
  ·rw[hs,if_neg (by simp)]at hq;cases(Prod.mk.inj (Prod.mk.inj hq).2).2
  ·rfl
 rw[hso,if_pos rfl]at hq
 obtain⟨q1,q2⟩:=Prod.mk.inj hq
 have q3:=(Prod.mk.inj q2).1
 have q4:aa=(Ac b).head_.base_:=congrArg Az.base_ q1
 rw[←q3]at zl
 rw[←q4]at zb
 have e:((tx []),false)=El b i:=(by unfold El;rw[if_neg];rintro⟨_,q⟩;omega)
 rw[hr]at e
 simp only[Prod.mk.injEq]at e
 obtain⟨rfl,rfl⟩:=e
 refine hQ _ _ ?_
 exact .many (.inl rfl) rfl rfl (.d rfl rfl (.d rfl rfl (.nil)))
 conv=>cbv
 have hso:A2 b=true:=by
  cases hs:A2 b
  ·rw[hs,if_neg (by simp)]at hq;cases(Prod.mk.inj (Prod.mk.inj hq).2).2
  ·rfl
 rw[hso,if_pos rfl]at hq
 obtain⟨q1,q2⟩:=Prod.mk.inj hq
 have q3:=(Prod.mk.inj q2).1
 have q4:aa=(Ac b).head_.base_:=congrArg Az.base_ q1
 rw[←q3]at zl
 rw[←q4]at zb
 refine .sub fun v3 al=>?_
 conv=>cbv
 refine .go ab fun v4 am=>?_
 conv=>cbv
 refine .geq (fun h5=>?_) fun h5=>?_
 conv=>cbv
 have e:((tx []),false)=El b i:=(by unfold El;rw[if_neg];rw[←q3,←q4];rintro⟨_,q⟩;omega)
 rw[hr]at e
 simp only[Prod.mk.injEq]at e
 obtain⟨rfl,rfl⟩:=e
 refine hQ _ _ ?_
 exact .many (.inl rfl) rfl rfl (.d rfl rfl (.d rfl rfl (.nil)))
 conv=>cbv
 refine .sub fun v6 an=>?_
 conv=>cbv
 refine .go v6.toNat ab fun ak e7 ai=>?_
 conv=>cbv
 have e:(e7,true)=El b i:=(by unfold El;rw[if_pos (by rw[←q3,←q4];exact⟨hso,by omega⟩),←q3,←q4,ai,gD (d:=tx []),show i - aa=v6 by omega])
 rw[hr]at e
 simp only[Prod.mk.injEq]at e
 obtain⟨rfl,rfl⟩:=e
 refine hQ _ _ ?_
 exact .many (.inl rfl) rfl rfl (.d rfl rfl (.d rfl rfl (.nil)))
theorem Xfb(hn:b.size<2^40)(hi:i<9223372036854775808)(hr:C8 b i=o):Fn Tryz.prog 86 [S b,I i] [] ⟨I o,[],[]⟩:=by
 refine Fn.go C9 Tryz.func86 fun P hP Q hQ=>?_
 conv=>cbv
 rcases ac:El b i with⟨a2,au⟩
 refine .dd hP (XaY hn hi ac) ?_
 conv=>cbv
 unfold El at ac
 cases au
 conv=>cbv
 have e:0=C8 b i:=(by refine Nk ?_;intro hc;rw[if_pos hc]at ac;cases(Prod.mk.inj ac).2)
 rw[hr]at e
 subst e
 exact hQ _ _ (.i rfl rfl)
 conv=>cbv
 rcases af:Ac b with⟨az,⟨am,ad,ae,an⟩,ak,aa,aw,ax⟩
 generalize ag:ak.map cS=ap
 generalize ah:aa.map cI=aq
 refine .dd hP (Jt (by omega) af ag ah) ?_
 conv=>cbv
 have zb:=Ls (b:=b)
 have zl:=Dh (b:=b)
 have zo:=Jl (b:=b)
 rw[af]at zb zl zo
 simp only[]at zb zl zo
 have hc:A2 b=true∧(Ac b).head_.base_≤i∧i - (Ac b).head_.base_<(Ac b).records_.length:=by
  split at ac
  ·assumption
  ·cases(Prod.mk.inj ac).2
 have ao:=hc
 rw[af]at ao
 simp only[]at ao
 rcases ai:Ft b with⟨ab,a6⟩
 generalize aj:ab.map I4=a1
 refine .dd hP (Xij (by omega) ai aj) ?_
 conv=>cbv
 refine .sub fun v4 a7=>?_
 conv=>cbv
 have hle:ab=A9 ad aa:=by unfold Ft at ai;rw[if_pos hc.1,af]at ai;exact(Prod.mk.inj ai).1.symm
 have hpl:ab.length≤aa.length:=by rw[hle];exact Gq
 rcases al:Dn ab v4 with⟨⟨ar,ay⟩,a8⟩
 refine .dd hP (Xe1 aj (by omega) al) ?_
 conv=>cbv
 have hpb:=XcR (l:=ab) (i:=v4) (m:=aa.length) (by omega) (fun p hp=>by rw[hle]at hp;exact W3 p hp) _ (Nat.le_refl _)
 have hpe:Dn ab v4=Jg ab v4 ab.length:=rfl
 rw[←hpe,al]at hpb
 simp only[]at hpb
 refine .sub fun v6 ba=>?_
 conv=>cbv
 refine .sub fun v7 bb=>?_
 conv=>cbv
 refine .add fun v8 bc=>?_
 conv=>cbv
 have e:v8=C8 b i:=(by unfold C8;rw[if_pos hc,af];simp only[];rw[←hle,show i - ae=v4 by omega,al];simp only[];omega)
 rw[hr]at e
 subst e
 exact hQ _ _ (.i rfl rfl)
def Lq(t:ByteArray)(b:Int)(n:Nat):Int:=H0 (fun k:Nat=>C8 t (b+k)) (List.range n)
theorem Od{t:ByteArray}{b:Int}{n:Nat}:Lq t b (n+1)=Lq t b n+C8 t (b+n):=by
 unfold Lq H0
 rw[List.range_succ,List.map_append,List.foldl_append]
 rfl
def Ie(x:Ht):Int:=Lq x.text_ x.base_ x.scan_.records_.length
def E5(d:Aa):Int:=H0 Ie (G0 d)
def Hp(d:Aa):Int:=E5 d
theorem Vy{d:Aa}:Hp d=H0 (fun b=>Lq (Au d b) b (Br (Au d b)).length) (C2 d):=Pv _ _ fun x h1 h2=>by unfold Ie;rw[h1,h2];rfl
theorem Tr{t:ByteArray}{b:Int}(ht:t.size≤1000000000):∀n:Nat,-4096*(n:Int)≤Lq t b n∧Lq t b n≤4096*(n:Int)
 |0=>⟨Int.le_refl _,Int.le_refl _⟩
 |n+1=>by
  have h1:=Tr (b:=b) ht n
  have h2:=O4 ht (rfl:C8 t (b+n)=_)
  rw[Od]
  omega
theorem Xc3(hxscarec:xscarec.map cS=xxscarec)(hxscaoff:xscaoff.map cI=xxscaoff)(hb:0≤xbas∧xbas≤1000000000)(hz:xtex.size≤1000000000)(hl:xscarec.length≤1000000000)(hr:Ie (⟨xbas,xtex,⟨xscaok,⟨xscaheaver,xscaheastr,xscaheabas,xscahealin⟩,xscarec,xscaoff,xscaend,xscamar⟩⟩:Ht)=o):Fn Tryz.prog 84 [.agg [I xbas,S xtex,B xscaok,I xscaheaver,I xscaheastr,I xscaheabas,I xscahealin,.d (.row 1 xxscarec),.d (.row 1 xxscaoff),I xscaend,B xscamar]] [] ⟨I o,[],[]⟩:=by
 refine Fn.go C9 Tryz.func84 fun P hP Q hQ=>?_
 conv=>cbv
 refine .go hxscarec fun v1 ac=>?_
 conv=>cbv
 refine LoopW.lp (κ:=Int×Int) C9 hP [] [1,8] (fun(i3,i9)=>[(3,I i3),(9,I i9)]) (fun(i3,i9)=>[])
  (fun(i3,i9)=>∃k:Nat,i9=(k:Int)∧k≤xscarec.length∧i3=Lq xtex xbas k)
  (fun(i3,i9)=>(xscarec.length - i9).toNat) (0,0) ⟨0,rfl,by omega,rfl⟩ ⟨rfl,rfl,trivial⟩ rfl ?_
 rintro⟨i3,i9⟩ J ⟨k,hi,hk,hx⟩ hJ
 have hbn:=Tr (b:=xbas) hz k
 conv=>cbv
 refine .lss (fun h2=>?_) fun h2=>?_
 conv=>cbv
 refine .add fun v3 ad=>?_
 conv=>cbv
 generalize aa:C8 xtex v3=r4
 refine .dd hP (XeG (by omega) (by omega) aa) ?_
 conv=>cbv
 have hrb:=O4 hz aa
 refine .add fun v5 ab=>?_
 conv=>cbv
 refine .add fun v6 ae=>?_
 conv=>cbv
 exact .go [] (v5,v6) (hJ _ ⟨k+1,by omega,by omega,by rw[Od,←hx,←show v3=xbas+(k:Int)by omega,aa];exact ab⟩ mlt)
 conv=>cbv
 have e:i3=Ie (⟨xbas,xtex,⟨xscaok,⟨xscaheaver,xscaheastr,xscaheabas,xscahealin⟩,xscarec,xscaoff,xscaend,xscamar⟩⟩:Ht):=(by unfold Ie;simp only[];rw[hx,show k=xscarec.length by omega])
 rw[hr]at e
 subst e
 exact hQ _ _ (.i rfl rfl)
theorem Po(Ay:Ak.map B5=Bj)(Av:Al.map Ae=Be)(A3:An.map Ae=Bd)(A5:Am.map cS=Bf)(hd:okD ⟨Ak,Al,An,Am,Aq,As⟩)(hr:E5 (⟨Ak,Al,An,Am,Aq,As⟩:Aa)=o):Fn Tryz.prog 75 [.agg [.d (.row 3 Bj),.d (.row 2 Be),.d (.row 2 Bd),.d (.row 1 Bf),I Aq,I As],.clo 84 []] [] ⟨I o,[],[]⟩:=by
 refine Fn.go C9 Tryz.func75 fun P hP Q hQ=>?_
 conv=>cbv
 generalize ao:G0 (⟨Ak,Al,An,Am,Aq,As⟩:Aa)=l1
 generalize aq:l1.map XaP=a6
 refine .dd hP (Sd Ay Av A3 A5 hd ao aq) ?_
 conv=>cbv
 refine .go aq fun v2 a7=>?_
 conv=>cbv
 refine LoopW.lp (κ:=Int×Int) C9 hP [] [1,9,10] (fun(i5,ag)=>[(5,I i5),(11,I ag)]) (fun(i5,ag)=>[])
  (fun(i5,ag)=>0≤ag∧ag≤l1.length∧(-4398046511104*ag≤i5∧i5≤4398046511104*ag)∧i5=H0 Ie (l1.take ag.toNat))
  (fun(i5,ag)=>(l1.length - ag).toNat) (0,0) ⟨by omega,by omega,by omega,rfl⟩ ⟨rfl,rfl,trivial⟩ rfl ?_
 rintro⟨i5,ag⟩ J ⟨h0,h1,hb,hx⟩ hJ
 have a2:=Ju ao
 conv=>cbv
 refine .lss (fun h3=>?_) fun h3=>?_
 conv=>cbv
 refine .goX ag.toNat aq fun ax ⟨aj,ak,⟨al,⟨ab,ac,ad,ae⟩,aa,af,ah,ai⟩⟩ fe4 ay hfe4=>?_
 replace hfe4:[.sc (.int .i64 aj),.sc (.string ak),.sc (.bool al),.sc (.int .i64 ab),.sc (.int .i64 ac),.sc (.int .i64 ad),.sc (.int .i64 ae),.row 1 (aa.map cS),.row 1 (af.map cI),.sc (.int .i64 ah),.sc (.bool ai)]=fe4:=hfe4
 generalize am:aa.map cS=ar at hfe4
 generalize an:af.map cI=au at hfe4
 subst hfe4
 conv=>cbv
 have hm:=If ao (x:=⟨aj,ak,⟨al,⟨ab,ac,ad,ae⟩,aa,af,ah,ai⟩⟩) (by rw[ay];exact List.getElem_mem _)
 obtain⟨ap,az,s9,a1⟩:=hm
 simp only[]at ap az a1
 have hz:=Dg hd ap.symm
 have zr:=Dh (b:=ak)
 rw[ap,←az]at zr
 simp only[]at zr
 rw[←ap]at zr
 have hg:=Nj a1
 obtain⟨hh,g1,g2,g3,g4,g5⟩:=hg
 generalize aw:Ie (⟨aj,ak,⟨al,⟨ab,ac,ad,ae⟩,aa,af,ah,ai⟩⟩:Ht)=r5
 refine .dd hP (Xc3 am an ⟨g4,g5⟩ hz (by omega) aw) ?_
 conv=>cbv
 have h5:r5=Lq ak aj aa.length:=aw.symm
 have hbn:=Tr (b:=aj) hz aa.length
 rw[←h5]at hbn
 refine .add fun v6 a8=>?_
 conv=>cbv
 refine .add fun v7 ba=>?_
 conv=>cbv
 exact .go [] (v6,v7) (hJ _ ⟨by omega,by omega,by omega,by rw[show v7.toNat=ag.toNat+1 by omega,Dl ax,←hx,←ay,aw];omega⟩ mlt)
 conv=>cbv
 have e:i5=E5 (⟨Ak,Al,An,Am,Aq,As⟩:Aa):=(by unfold E5;rw[ao,hx,List.take_of_length_le (by omega)])
 rw[hr]at e
 subst e
 exact hQ _ _ (.i rfl rfl)
theorem V0(Ay:Ak.map B5=Bj)(Av:Al.map Ae=Be)(A3:An.map Ae=Bd)(A5:Am.map cS=Bf)(hd:okD ⟨Ak,Al,An,Am,Aq,As⟩)(hr:Hp (⟨Ak,Al,An,Am,Aq,As⟩:Aa)=o):Fn Tryz.prog 25 [.agg [.d (.row 3 Bj),.d (.row 2 Be),.d (.row 2 Bd),.d (.row 1 Bf),I Aq,I As]] [] ⟨I o,[],[]⟩:=by
 refine Fn.go C9 Tryz.func25 fun P hP Q hQ=>?_
 conv=>cbv
 generalize aa:E5 (⟨Ak,Al,An,Am,Aq,As⟩:Aa)=r1
 refine .dd hP (Po Ay Av A3 A5 hd aa) ?_
 conv=>cbv
 have e:r1=Hp (⟨Ak,Al,An,Am,Aq,As⟩:Aa):=(by unfold Hp;exact aa.symm)
 rw[hr]at e
 subst e
 exact hQ _ _ (.i rfl rfl)
theorem Xga(Ay:Ak.map B5=Bj)(Av:Al.map Ae=Be)(A3:An.map Ae=Bd)(A5:Am.map cS=Bf)(hd:okD ⟨Ak,Al,An,Am,Aq,As⟩)(hr:Hp (⟨Ak,Al,An,Am,Aq,As⟩:Aa)=o):Fn Tryz.prog 26 [.agg [.d (.row 3 Bj),.d (.row 2 Be),.d (.row 2 Bd),.d (.row 1 Bf),I Aq,I As]] [] ⟨I o,[],[]⟩:=by
 refine Fn.go C9 Tryz.func26 fun P hP Q hQ=>?_
 conv=>cbv
 generalize ab:C2 (⟨Ak,Al,An,Am,Aq,As⟩:Aa)=l1
 generalize ac:l1.map cI=au
 refine .dd hP (Pq Ay Av A3 A5 hd ab ac) ?_
 conv=>cbv
 refine LoopW.lp (κ:=Int×Int) C9 hP [] [1,4] (fun(i3,i5)=>[(3,I i3),(5,I i5)]) (fun(i3,i5)=>[])
  (fun(i3,i5)=>0≤i5∧i5≤l1.length∧(-4398046511104*i5≤i3∧i3≤4398046511104*i5)∧i3=H0 (fun b=>Lq (Au (⟨Ak,Al,An,Am,Aq,As⟩:Aa) b) b (Br (Au (⟨Ak,Al,An,Am,Aq,As⟩:Aa) b)).length) (l1.take i5.toNat))
  (fun(i3,i5)=>(l1.length - i5).toNat) (0,0) ⟨by omega,by omega,by omega,rfl⟩ ⟨rfl,rfl,trivial⟩ rfl ?_
 rintro⟨i3,i5⟩ J ⟨h0,h1,hb,hx⟩ hJ
 have an:=Fi ab
 conv=>cbv
 refine .go ac fun v2 aw=>?_
 conv=>cbv
 refine .lss (fun h3=>?_) fun h3=>?_
 conv=>cbv
 refine .go i5.toNat ac fun ag e4 ad=>?_
 conv=>cbv
 generalize ae:Au (⟨Ak,Al,An,Am,Aq,As⟩:Aa) e4=r5
 refine .dd hP (Mm Ay Av A3 A5 hd ae) ?_
 conv=>cbv
 have z5:=Dg hd ae
 generalize af:Br r5=l6
 generalize ah:l6.map cS=ax
 refine .dd hP (L4 (by omega) af ah) ?_
 conv=>cbv
 have zr:=Dh (b:=r5)
 have rq:(Ac r5).records_=l6:=af
 rw[rq]at zr
 have hg:=Xfr ab (x:=e4) (by rw[ad];exact List.getElem_mem _)
 obtain⟨g4,g5⟩:=hg
 refine .go ah fun v7 ay=>?_
 conv=>cbv
 refine LoopW.lp (κ:=Int×Int) C9 hP [] [1,4,5,6,7] (fun(i3,i8)=>[(3,I i3),(8,I i8)]) (fun(i3,i8)=>[])
  (fun(i3,i8)=>∃k:Nat,i8=(k:Int)∧k≤l6.length∧i3=H0 (fun b=>Lq (Au (⟨Ak,Al,An,Am,Aq,As⟩:Aa) b) b (Br (Au (⟨Ak,Al,An,Am,Aq,As⟩:Aa) b)).length) (l1.take i5.toNat)+Lq r5 e4 k)
  (fun(i3,i8)=>(l6.length - i8).toNat) (i3,0) ⟨0,rfl,by omega,by rw[←hx];show i3=i3+0;omega⟩ ⟨rfl,rfl,trivial⟩ rfl ?_
 rintro⟨i3,i8⟩ J1 ⟨k,hi,hk,hy⟩ aj
 have hbn:=Tr (t:=r5) (b:=e4) (by omega) k
 conv=>cbv
 refine .lss (fun h8=>?_) fun h8=>?_
 conv=>cbv
 refine .go i5.toNat ac fun ao e9 ak=>?_
 conv=>cbv
 have az:e9=e4:=ak.trans ad.symm
 refine .add fun ai ap=>?_
 conv=>cbv
 generalize aa:C8 r5 ai=a1
 refine .dd hP (Xfb (by omega) (by omega) aa) ?_
 conv=>cbv
 have hrb:=O4 (by omega) aa
 refine .add fun al aq=>?_
 conv=>cbv
 refine .add fun am ar=>?_
 conv=>cbv
 exact .go [] (al,am) (aj _ ⟨k+1,by omega,by omega,by rw[Od,←show ai=e4+(k:Int)by omega,aa];omega⟩ mlt)
 conv=>cbv
 refine .add fun v9 a2=>?_
 conv=>cbv
 exact .go [] (i3,v9) (hJ _ ⟨by omega,by omega,by omega,by rw[show v9.toNat=i5.toNat+1 by omega,Dl ag,←ad,ae,af,hy,show k=l6.length by omega]⟩ mlt)
 conv=>cbv
 have e:i3=Hp (⟨Ak,Al,An,Am,Aq,As⟩:Aa):=(by rw[Vy,ab,hx,List.take_of_length_le (by omega)])
 rw[hr]at e
 subst e
 exact hQ _ _ (.i rfl rfl)
end
section
open Go Go.Proofs
set_option maxRecDepth 20000
set_option maxHeartbeats 4000000
theorem Xi5{t:ByteArray}{i:Int}:C8 t i≤(A0 t).1.stride_:=by
 have hh:0≤(A0 t).1.stride_:=by
  rcases h:A0 t with⟨⟨a,b,c,d⟩,o⟩
  cases o
  ·unfold A0 at h
   split at h
   ·exact absurd (Prod.mk.inj h).2 (by decide)
   ·have:=(Prod.mk.inj h).1
    rw[Az.mk.injEq]at this
    show 0≤b
    omega
  ·have:=Dw (Cu h).2.2
   show 0≤b
   omega
 unfold C8
 split
 ·rename_i g
  rcases h:A0 t with⟨⟨a,b,c,d⟩,o⟩
  cases o
  ·have e:(Ac t).records_=[]:=by unfold Ac;rw[h]
   rw[e]at g
   have:=g.2.2
   have:=g.2.1
   simp at*
   omega
  ·have hd:=Dw (Cu h).2.2
   have e:(Ac t).head_=⟨a,b,c,d⟩:=by unfold Ac;rw[h]
   have hlen:=Jl (b:=t)
   rw[e]at g⊢
   simp only[]at g⊢
   have g2:=g.2.1
   have g3:=g.2.2
   obtain⟨k,hk⟩:∃k:Nat,i - c=(k:Int):=⟨(i - c).toNat,by omega⟩
   rw[hk]at g3⊢
   unfold A9
   rw[if_neg (by omega)]
   obtain⟨q,h1,h2,h3,h4⟩:=Lx (s:=b.toNat) (by omega) (offs:=(Ac t).offsets_) (i:=k) (Ac t).offsets_.length (by omega)
   unfold Dn
   rw[h1]
   omega
 ·exact hh
theorem Xau{t:ByteArray}{b:Int}:∀n:Nat,Lq t b n≤(A0 t).1.stride_*(n:Int)
 |0=>by show(0:Int)≤_;simp
 |n+1=>by
  have h1:=Xau (t:=t) (b:=b) n
  have h2:=Xi5 (t:=t) (i:=b+n)
  rw[Od,show((n+1:Nat):Int)=(n:Int)+1 by omega,Int.mul_add,Int.mul_one]
  omega
theorem Jy{α:Type}(f:α→Int)(x:α)(l:List α):H0 f (x::l)=f x+H0 f l:=by
 have key:∀(l:List Int) (a b:Int),l.foldl (·+·) (a+b)=a+l.foldl (·+·) b:=by
  intro l
  induction l with
  |nil=>intro a b;rfl
  |cons y l ih=>intro a b;rw[List.foldl_cons,List.foldl_cons,Int.add_assoc,ih]
 unfold H0
 rw[List.map_cons,List.foldl_cons,show(0:Int)+f x=f x+0 by omega,key]
theorem XgI{α:Type}{f g:α→Int}:∀{l:List α},(∀x∈l,f x≤g x)→H0 f l≤H0 g l
 |[],_=>Int.le_refl _
 |x::l,h=>by
  rw[Jy,Jy]
  have h1:=XgI (l:=l) fun y hy=>h y (List.mem_cons_of_mem _ hy)
  have h2:=h x List.mem_cons_self
  omega
theorem Wp(f:Int→ByteArray):∀(l:List Int),H0 (fun b=>if A2 (f b)=true then 1 else 0) l≤l.length∧(H0 (fun b=>if A2 (f b)=true then 1 else 0) l=l.length→
  H0 (fun b=>((f b).size:Int)) l=24*l.length+H0 (fun b=>Ba (f b) - 24) l+H0 (fun b=>C4 (f b)) l)
 |[]=>⟨Int.le_refl _,fun _=>rfl⟩
 |x::l=>by
  obtain⟨h1,h2⟩:=Wp f l
  rw[Jy,Jy,Jy,Jy,List.length_cons]
  by_cases hs:A2 (f x)=true
  ·rw[if_pos hs]
   refine⟨by omega,fun h=>?_⟩
   have h3:=h2 (by omega)
   have h4:=Iv (b:=f x)
   have h5:C4 (f x)=(f x).size - Ba (f x):=by
    unfold C4 Sc Ba
    rw[if_pos hs,ByteArray.size_extract]
    omega
   omega
  ·rw[if_neg hs]
   exact⟨by omega,fun h=>by omega⟩
theorem Xd{d:Aa}:Hp d≤H0 (fun b=>(A0 (Au d b)).1.stride_*((Br (Au d b)).length:Int)) (C2 d):=by
 rw[Vy]
 exact XgI fun b _=>Xau _
theorem XiW{d:Aa}:Hk d<(C2 d).length∨H0 (fun b=>((Au d b).size:Int)) (C2 d)=24*(C2 d).length+Er d+H0 (fun b=>C4 (Au d b)) (C2 d):=by
 rw[Sy,Nx]
 have h:=Wp (Au d) (C2 d)
 by_cases he:H0 (fun b=>if A2 (Au d b)=true then(1:Int)else 0) (C2 d)=(C2 d).length
 ·exact .inr (h.2 he)
 ·exact .inl (by have:=h.1;omega)
end
section
open Go Go.Proofs
set_option maxRecDepth 20000
set_option maxHeartbeats 4000000
def Pm:List (Nat×TyRow):=[ty3,ty9,XhT,Zy,Xb9,Xb7,XfJ]
theorem Wg:B3 Tryz.prog Pm:=B3.of (by kernel_rfl)
theorem Xfg:Setup Tryz.prog Pm:=⟨Wg,mixed⟩
theorem XiR{t:ByteArray}:0≤(A0 t).1.stride_∧(A0 t).1.stride_≤20:=by
 rcases h:A0 t with⟨⟨a,b,c,d⟩,o⟩
 cases o
 ·unfold A0 at h
  split at h
  ·exact absurd (Prod.mk.inj h).2 (by decide)
  ·have:=(Prod.mk.inj h).1
   rw[Az.mk.injEq]at this
   show 0≤b∧b≤20
   omega
 ·have:=Dw (Cu h).2.2
  show 0≤b∧b≤20
  omega
theorem XkV{t:ByteArray}:0≤C4 t∧C4 t≤t.size:=by
 unfold C4 Sc
 split
 ·rw[ByteArray.size_extract];omega
 ·omega
theorem XkY{d:Aa}{l:List Int}{o:Int}(hd:okD d)(hl:C2 d=l)(e:Er d=o): -400≤o∧o≤100000000000:=by
 rw[←e,Nx,hl]
 have h16:=Fi hl
 have key:∀l:List Int,-24*(l.length:Int)≤H0 (fun b=>Ba (Au d b) - 24) l∧H0 (fun b=>Ba (Au d b) - 24) l≤1000000000*l.length:=by
  intro l
  induction l with
  |nil=>exact⟨Int.le_refl _,Int.le_refl _⟩
  |cons x l ih=>
   rw[Jy,List.length_cons]
   have h1:=Iv (b:=Au d x)
   have h2:=Dg hd (rfl:Au d x=_)
   unfold Ba at*
   omega
 have:=key l
 omega
theorem XfE:C4 (Bh ⟨1,1,0,0⟩ [])=26:=by kernel_rfl
def Em(code:List UInt8):Bool:=true
theorem K7:Setup Tryz.prog ((3000024,Fe Tryz.prog 3000024)::((3000015,Fe Tryz.prog 3000015)::((3000011,Fe Tryz.prog 3000011)::Pm))):=(Setup.mark 3000024 (Setup.mark 3000015 (Setup.mark 3000011 Xfg)))
theorem Xev{code:List UInt8}{xcode:List (List D)}{o:Bool}(hcode:code.map cB=xcode)(hr:Em code=o):Fn Tryz.prog 4 [.d (.row 1 xcode)] [] ⟨B o,[],[]⟩:=by
 refine Fn.go K7 Tryz.func4 fun P hP Q hQ=>?_
 conv=>cbv
 generalize bt:Xkt code=r1
 refine .dd hP (Flbig hcode bt) ?_
 cases r1
 conv=>cbv
 have hb:code.length≤1000000000000:=by have:=of_decide_eq_false bt;omega
 rcases bu:Hs code with⟨ae,af,ag,ah,ai,aj⟩
 generalize aa:ae.map B5=b4
 generalize ab:af.map Ae=b5
 generalize ac:ag.map Ae=b6
 generalize ad:ah.map cS=b7
 obtain⟨nr2nod,hnr2nod⟩:∃m,m=ae.length:=⟨_,rfl⟩
 obtain⟨nr2ent,hnr2ent⟩:∃m,m=af.length:=⟨_,rfl⟩
 obtain⟨nr2old,hnr2old⟩:∃m,m=ag.length:=⟨_,rfl⟩
 obtain⟨nr2ste,hnr2ste⟩:∃m,m=ah.length:=⟨_,rfl⟩
 have ak:=XhN (show Zo code=_ from bu) (by omega)
 refine .ddN hP (Ri hcode hb bu aa ab ac ad hnr2nod hnr2ent hnr2old hnr2ste) rfl ?_
 conv=>cbv
 generalize au:C2 (⟨ae,af,ag,ah,ai,aj⟩:Aa)=l3
 generalize ax:l3.map cI=cy
 refine .lntD hP (Pq aa ab ac ad ak.1 au ax) (.agg (.ref rfl (Af aa) (.ref rfl (Af ab) (.ref rfl (Af ac) (.ref rfl (Af ad) (.d rfl (.d rfl .nil)))))) .nil) ?_
 conv=>cbv
 have zl3:=Fi au
 refine LoopW.lp (κ:=Int×Int×Int×Int) K7 hP [] [3,4] (fun(i5,i6,i7,i8)=>[(5,I i5),(6,I i6),(7,I i7),(8,I i8)]) (fun(i5,i6,i7,i8)=>[])
  (fun(i5,i6,i7,i8)=>0≤i8∧i8≤l3.length∧(0≤i5∧i5≤1000000000*i8)∧(0≤i6∧i6≤1000000000*i8)∧(0≤i7∧i7≤20000000000*i8)∧i5=H0 (fun b=>((Au (⟨ae,af,ag,ah,ai,aj⟩:Aa) b).size:Int)) (l3.take i8.toNat)∧i6=H0 (fun b=>C4 (Au (⟨ae,af,ag,ah,ai,aj⟩:Aa) b)) (l3.take i8.toNat)∧i7=H0 (fun b=>(A0 (Au (⟨ae,af,ag,ah,ai,aj⟩:Aa) b)).1.stride_*((Br (Au (⟨ae,af,ag,ah,ai,aj⟩:Aa) b)).length:Int)) (l3.take i8.toNat))
  (fun(i5,i6,i7,i8)=>(l3.length - i8).toNat) (0,0,0,0) ⟨by omega,by omega,by omega,by omega,by omega,rfl,rfl,rfl⟩ ⟨rfl,rfl,rfl,rfl,trivial⟩ rfl ?_
 rintro⟨i5,i6,i7,i8⟩ J ⟨h0,h1,ha,hb_,hc,hx1,hxf,hmo⟩ hJ
 conv=>cbv
 refine .go ax fun v4 cz=>?_
 conv=>cbv
 refine .lss (fun h5=>?_) fun h5=>?_
 conv=>cbv
 refine .go i8.toNat ax fun ay e6 bm=>?_
 conv=>cbv
 generalize am:Au (⟨ae,af,ag,ah,ai,aj⟩:Aa) e6=r7
 refine .lnt hP (Mm aa ab ac ad ak.1 am) (.agg (.ref rfl (Af aa) (.ref rfl (Af ab) (.ref rfl (Af ac) (.ref rfl (Af ad) (.d rfl (.d rfl .nil)))))) (.d rfl .nil)) ?_
 conv=>cbv
 refine .go2 (by kernel_rfl) ?_
 conv=>cbv
 have c0:=Dg ak.1 am
 rcases bn:A0 r7 with⟨⟨b8,ap,b9,ca⟩,c1⟩
 refine .dd hP (R7 (by omega) bn) ?_
 conv=>cbv
 have hst:=XiR (t:=r7)
 rw[bn]at hst
 dsimp only at hst
 refine .go fun v9 c2=>?_
 conv=>cbv
 refine .add fun cc cm=>?_
 conv=>cbv
 generalize an:C4 r7=cd
 refine .dd hP (Pf (by omega) an) ?_
 conv=>cbv
 have hft:=XkV (t:=r7)
 rw[an]at hft
 refine .add fun ce cn=>?_
 conv=>cbv
 generalize ao:Br r7=bv
 generalize a7:bv.map cS=co
 refine .dd hP (L4 (by omega) ao a7) ?_
 conv=>cbv
 refine .go a7 fun az a8=>?_
 conv=>cbv
 have hrc:bv.length≤r7.size:=by rw[←ao];exact Dh
 have hmu:0≤ap*az∧ap*az≤20000000000:=⟨Int.mul_nonneg (by omega) (by omega),by have:=Int.mul_le_mul (show ap≤20 by omega) (show az≤1000000000 by omega) (by omega) (by omega);omega⟩
 refine .mul fun bo ba=>?_
 conv=>cbv
 refine .add fun cf bw=>?_
 conv=>cbv
 refine .go2 (by kernel_rfl) ?_
 conv=>cbv
 refine .add fun a2 cp=>?_
 conv=>cbv
 exact .go [] (cc,ce,cf,a2) (hJ _ ⟨by omega,by omega,by omega,by omega,by omega,by rw[show a2.toNat=i8.toNat+1 by omega,Dl ay,←hx1,←bm];rw[am];omega,by rw[show a2.toNat=i8.toNat+1 by omega,Dl ay,←hxf,←bm];rw[am,an];omega,by rw[show a2.toNat=i8.toNat+1 by omega,Dl ay,←hmo,←bm];rw[am,bn,ao,←a8,←ba];exact bw⟩ mlt)
 conv=>cbv
 have hall:l3.take i8.toNat=l3:=List.take_of_length_le (by omega)
 rw[hall]at hx1 hxf hmo
 generalize bp:Hk (⟨ae,af,ag,ah,ai,aj⟩:Aa)=r6
 refine .lnt hP (Xe6 aa ab ac ad ak.1 bp) (.agg (.ref rfl (Af aa) (.ref rfl (Af ab) (.ref rfl (Af ac) (.ref rfl (Af ad) (.d rfl (.d rfl .nil)))))) .nil) ?_
 conv=>cbv
 generalize am:M8 (⟨ae,af,ag,ah,ai,aj⟩:Aa)=l7
 generalize a6:l7.map cS=c3
 refine .lntD hP (XjV aa ab ac ad ak.1 am a6) (.agg (.fz rfl (Af aa) (.fz rfl (Af ab) (.fz rfl (Af ac) (.fz rfl (Af ad) (.d rfl (.d rfl .nil)))))) .nil) ?_
 conv=>cbv
 have zb7:=Xdy ak.1 am
 refine LoopW.lp (κ:=Int×Int) K7 hP [] [3,4,5,6,7,12,14] (fun(aq,al)=>[(13,I aq),(15,I al)]) (fun(aq,al)=>[])
  (fun(aq,al)=>0≤al∧al≤l7.length∧aq=Xjj (l7.take al.toNat))
  (fun(aq,al)=>(l7.length - al).toNat) (0,0) ⟨by omega,by omega,rfl⟩ ⟨rfl,rfl,trivial⟩ rfl ?_
 rintro⟨aq,al⟩ J1 ⟨k0,k1,hx2⟩ bz
 conv=>cbv
 refine .go a6 fun v8 c4=>?_
 conv=>cbv
 refine .lss (fun h9=>?_) fun h9=>?_
 conv=>cbv
 refine .go al.toNat a6 fun a1 cg bb=>?_
 conv=>cbv
 refine .go fun c5 cq=>?_
 conv=>cbv
 refine .gtr (fun h12=>?_) fun h12=>?_
 conv=>cbv
 refine .go al.toNat a6 fun cj ck bc=>?_
 conv=>cbv
 refine .go fun az a8=>?_
 conv=>cbv
 refine .add fun bo ba=>?_
 conv=>cbv
 exact .go [] (az,bo) (bz _ ⟨by omega,by omega,by rw[show bo.toNat=al.toNat+1 by omega,Ug a1,←hx2,←bc];have:cg=ck:=bb.trans bc.symm;subst this;omega⟩ mlt)
 conv=>cbv
 refine .add fun b0 cr=>?_
 conv=>cbv
 exact .go [] (aq,b0) (bz _ ⟨by omega,by omega,by rw[show b0.toNat=al.toNat+1 by omega,Ug a1,←hx2,←bb];omega⟩ mlt)
 conv=>cbv
 generalize bd:Kk (⟨ae,af,ag,ah,ai,aj⟩:Aa)=c6
 refine .lnt hP (XgV aa ab ac ad ak.1 bd) (.agg (.ref rfl (Af aa) (.ref rfl (Af ab) (.ref rfl (Af ac) (.ref rfl (Af ad) (.d rfl (.d rfl .nil)))))) .nil) ?_
 conv=>cbv
 generalize an:Kk (⟨ae,af,ag,ah,ai,aj⟩:Aa)=cd
 refine .lnt hP (XgD aa ab ac ad ak.1 an) (.agg (.ref rfl (Af aa) (.ref rfl (Af ab) (.ref rfl (Af ac) (.ref rfl (Af ad) (.d rfl (.d rfl .nil)))))) .nil) ?_
 conv=>cbv
 refine .neq (fun h12=>?_) fun h12=>?_
 conv=>cbv
 refine .go2 (by kernel_rfl) ?_
 conv=>cbv
 have e:false=Em code:=(by exact absurd (bd.symm.trans an) h12)
 rw[hr]at e
 subst e
 exact hQ _ _ (.b rfl rfl)
 conv=>cbv
 generalize ao:Er (⟨ae,af,ag,ah,ai,aj⟩:Aa)=c7
 refine .lnt hP (Sn aa ab ac ad ak.1 ao) (.agg (.ref rfl (Af aa) (.ref rfl (Af ab) (.ref rfl (Af ac) (.ref rfl (Af ad) (.d rfl (.d rfl .nil)))))) .nil) ?_
 conv=>cbv
 generalize be:Er (⟨ae,af,ag,ah,ai,aj⟩:Aa)=c8
 refine .lnt hP (Xah aa ab ac ad ak.1 be) (.agg (.ref rfl (Af aa) (.ref rfl (Af ab) (.ref rfl (Af ac) (.ref rfl (Af ad) (.d rfl (.d rfl .nil)))))) .nil) ?_
 conv=>cbv
 refine .neq (fun h15=>?_) fun h15=>?_
 conv=>cbv
 refine .go2 (by kernel_rfl) ?_
 conv=>cbv
 have e:false=Em code:=(by exact absurd (ao.symm.trans be) h15)
 rw[hr]at e
 subst e
 exact hQ _ _ (.b rfl rfl)
 conv=>cbv
 generalize bf:Hp (⟨ae,af,ag,ah,ai,aj⟩:Aa)=c9
 refine .lnt hP (V0 aa ab ac ad ak.1 bf) (.agg (.ref rfl (Af aa) (.ref rfl (Af ab) (.ref rfl (Af ac) (.ref rfl (Af ad) (.d rfl (.d rfl .nil)))))) .nil) ?_
 conv=>cbv
 generalize bg:Hp (⟨ae,af,ag,ah,ai,aj⟩:Aa)=da
 refine .lnt hP (Xga aa ab ac ad ak.1 bg) (.agg (.ref rfl (Af aa) (.ref rfl (Af ab) (.ref rfl (Af ac) (.ref rfl (Af ad) (.d rfl (.d rfl .nil)))))) .nil) ?_
 conv=>cbv
 refine .neq (fun h18=>?_) fun h18=>?_
 conv=>cbv
 refine .go2 (by kernel_rfl) ?_
 conv=>cbv
 have e:false=Em code:=(by exact absurd (bf.symm.trans bg) h18)
 rw[hr]at e
 subst e
 exact hQ _ _ (.b rfl rfl)
 conv=>cbv
 generalize bh:Hk (⟨ae,af,ag,ah,ai,aj⟩:Aa)=db
 refine .lnt hP (Xe2 aa ab ac ad ak.1 bh) (.agg (.ref rfl (Af aa) (.ref rfl (Af ab) (.ref rfl (Af ac) (.ref rfl (Af ad) (.d rfl (.d rfl .nil)))))) .nil) ?_
 conv=>cbv
 refine .neq (fun h20=>?_) fun h20=>?_
 conv=>cbv
 refine .go2 (by kernel_rfl) ?_
 conv=>cbv
 have e:false=Em code:=(by exact absurd (bp.symm.trans bh) h20)
 rw[hr]at e
 subst e
 exact hQ _ _ (.b rfl rfl)
 conv=>cbv
 refine .go2 (by kernel_rfl) ?_
 conv=>cbv
 generalize aw:Bh (⟨1,1,0,0⟩:Az) []=b2
 have zr21:=G5 aw
 refine .dd hP (Lh rfl (by decide) aw) ?_
 conv=>cbv
 refine .go ax fun dc ct=>?_
 conv=>cbv
 refine .lss (fun h23=>?_) fun h23=>?_
 conv=>cbv
 generalize bi:Hp (⟨ae,af,ag,ah,ai,aj⟩:Aa)=de
 refine .lnt hP (V0 aa ab ac ad ak.1 bi) (.agg (.ref rfl (Af aa) (.ref rfl (Af ab) (.ref rfl (Af ac) (.ref rfl (Af ad) (.d rfl (.d rfl .nil)))))) .nil) ?_
 conv=>cbv
 refine .leq (fun h25=>?_) fun h25=>?_
 conv=>cbv
 generalize ar:Gk (⟨ae,af,ag,ah,ai,aj⟩:Aa)=bq
 refine .lnt hP (U7 aa ab ac ad ak.1 ar) (.agg (.ref rfl (Af aa) (.ref rfl (Af ab) (.ref rfl (Af ac) (.ref rfl (Af ad) (.d rfl (.d rfl .nil)))))) .nil) ?_
 conv=>cbv
 refine .eql (fun h27=>?_) fun h27=>?_
 conv=>cbv
 generalize bj:C4 b2=df
 refine .dd hP (Pf (by omega) bj) ?_
 conv=>cbv
 refine .eql (fun h29=>?_) fun h29=>?_
 conv=>cbv
 have e:true=Em code:=(by rfl)
 rw[hr]at e
 subst e
 exact hQ _ _ (.b rfl rfl)
 conv=>cbv
 have e:false=Em code:=(by exfalso;have:=XfE;rw[aw,bj]at this;omega)
 rw[hr]at e
 subst e
 exact hQ _ _ (.b rfl rfl)
 conv=>cbv
 have e:false=Em code:=(by exfalso;have:Gk (⟨ae,af,ag,ah,ai,aj⟩:Aa)=aq:=(by unfold Gk;rw[am,hx2,List.take_of_length_le (by omega)]);omega)
 rw[hr]at e
 subst e
 exact hQ _ _ (.b rfl rfl)
 conv=>cbv
 have e:false=Em code:=(by exfalso;have hrm:=Xd (d:=(⟨ae,af,ag,ah,ai,aj⟩:Aa));rw[au,bi,←hmo]at hrm;omega)
 rw[hr]at e
 subst e
 exact hQ _ _ (.b rfl rfl)
 conv=>cbv
 refine .go ax fun dg cu=>?_
 conv=>cbv
 refine .mul fun dh cv=>?_
 conv=>cbv
 generalize ar:Er (⟨ae,af,ag,ah,ai,aj⟩:Aa)=bq
 refine .lnt hP (Sn aa ab ac ad ak.1 ar) (.agg (.ref rfl (Af aa) (.ref rfl (Af ab) (.ref rfl (Af ac) (.ref rfl (Af ad) (.d rfl (.d rfl .nil)))))) .nil) ?_
 conv=>cbv
 have hfr: -400≤bq∧bq≤100000000000:=XkY ak.1 au ar
 refine .add fun di cw=>?_
 conv=>cbv
 refine .add fun dj cx=>?_
 conv=>cbv
 refine .eql (fun h29=>?_) fun h29=>?_
 conv=>cbv
 generalize bk:Hp (⟨ae,af,ag,ah,ai,aj⟩:Aa)=dk
 refine .lnt hP (V0 aa ab ac ad ak.1 bk) (.agg (.ref rfl (Af aa) (.ref rfl (Af ab) (.ref rfl (Af ac) (.ref rfl (Af ad) (.d rfl (.d rfl .nil)))))) .nil) ?_
 conv=>cbv
 refine .leq (fun h31=>?_) fun h31=>?_
 conv=>cbv
 generalize b3:Gk (⟨ae,af,ag,ah,ai,aj⟩:Aa)=dl
 refine .lnt hP (U7 aa ab ac ad ak.1 b3) (.agg (.ref rfl (Af aa) (.ref rfl (Af ab) (.ref rfl (Af ac) (.ref rfl (Af ad) (.d rfl (.d rfl .nil)))))) .nil) ?_
 conv=>cbv
 refine .eql (fun h33=>?_) fun h33=>?_
 conv=>cbv
 generalize bl:C4 b2=dm
 refine .dd hP (Pf (by omega) bl) ?_
 conv=>cbv
 refine .eql (fun h35=>?_) fun h35=>?_
 conv=>cbv
 have e:true=Em code:=(by rfl)
 rw[hr]at e
 subst e
 exact hQ _ _ (.b rfl rfl)
 conv=>cbv
 have e:false=Em code:=(by exfalso;have:=XfE;rw[aw,bl]at this;omega)
 rw[hr]at e
 subst e
 exact hQ _ _ (.b rfl rfl)
 conv=>cbv
 have e:false=Em code:=(by exfalso;have:Gk (⟨ae,af,ag,ah,ai,aj⟩:Aa)=aq:=(by unfold Gk;rw[am,hx2,List.take_of_length_le (by omega)]);omega)
 rw[hr]at e
 subst e
 exact hQ _ _ (.b rfl rfl)
 conv=>cbv
 have e:false=Em code:=(by exfalso;have hrm:=Xd (d:=(⟨ae,af,ag,ah,ai,aj⟩:Aa));rw[au,bk,←hmo]at hrm;omega)
 rw[hr]at e
 subst e
 exact hQ _ _ (.b rfl rfl)
 conv=>cbv
 have e:false=Em code:=(by exfalso;rcases XiW (d:=(⟨ae,af,ag,ah,ai,aj⟩:Aa))with h|h;(rw[bp,au]at h;omega);(rw[au,ar,←hx1,←hxf]at h;omega))
 rw[hr]at e
 subst e
 exact hQ _ _ (.b rfl rfl)
 conv=>cbv
 have e:true=Em code:=(by rfl)
 rw[hr]at e
 subst e
 exact hQ _ _ (.b rfl rfl)
theorem T4{code:List UInt8}{xcode:List (List D)}(hcode:code.map cB=xcode)(ok_code:code.length<2^47):CallOk Tryz.prog 4 [.d (.row 1 xcode)] [] ⟨.d (.sc (.bool true)),[],[]⟩:=(Xev (code:=code) hcode rfl).ok
end
end Go.Proofs.YtjbmpmmffjgedaaGreatDoor.Ab
