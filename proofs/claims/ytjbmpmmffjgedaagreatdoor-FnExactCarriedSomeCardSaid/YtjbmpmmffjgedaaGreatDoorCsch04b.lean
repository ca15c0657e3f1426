/- What functions come to. -/
import Derived.Test.YtjbmpmmffjgedaaGreatDoorCsch10
import Derived.Below
import Derived.ProofKit
import Derived.Test.YtjbmpmmffjgedaaGreatDoorCsZ9
import Derived.Lib.AtoiErrMem
import Derived.Lib.SlicesS
import Derived.Lib.ItoaNum
import Derived.Lib.AppendIntMem
import Derived.Shelf.Spec.SlicesInsertGrow
set_option linter.unusedVariables false
set_option linter.unusedSimpArgs false
set_option maxHeartbeats 4000000
set_option maxRecDepth 20000
namespace Go.Proofs.YtjbmpmmffjgedaaGreatDoor.Ab
section
open Go Go.Proofs
def Xbf:List (Nat×TyRow):=[ty3,ty5,ty9,XiA]
theorem XaR:B8 Tryz.prog Xbf:=B8.of (by kernel_rfl)
theorem XeG:Setup Tryz.prog Xbf:=⟨XaR,mixed⟩
open Go.RowKit
theorem CallOk.callsV{P:Program}{f:FuncId}{as0:List AV}{val:Value}(h:CallOk P f as0 [] ⟨.d (.sc val),[],[]⟩){w:World}(hG:Globs.ok w fun b=>b<w.heap.size){vs:Array Value}
  (hA:XcC (B1 w (fun b=>b<w.heap.size) (fun _=>none) [] []) as0 vs):Calls P f vs w fun e w'=>e= .returned val∧Below w.heap.size w w':=by
 have hM:Mem (F3 w (fun b=>b<w.heap.size) (fun _=>none) []) (B1 w (fun b=>b<w.heap.size) (fun _=>none) [] []):={
  os:=rfl
  output:=rfl
  tape:=rfl
  size:=Nat.le_refl _
  keep:=fun _ _ _=>rfl
  shape:=fun _ _ h=>h
  s0:=fun _ h=>h
  slt:=fun _ h=>h
  glob:=hG
  snew:=fun _ h=>.inl h
  blt:=fun r b h=>absurd h (Nat.not_lt_zero r)
  bown:=fun r R b h=>absurd h (Nat.not_lt_zero r)
  bkeep:=fun r R h=>absurd h (Nat.not_lt_zero r)
  inj:=fun r r' R R' b h=>absurd h (Nat.not_lt_zero r)
  roots:=fun r R h=>absurd h (Nat.not_lt_zero r)}
 refine(h _ _ _ _ hM hA).mono ?_
 rintro e w' ⟨v,E',rfl,rfl,o⟩
 refine⟨?_,⟨o.mem.os,o.mem.tape,o.mem.output,o.mem.size,fun b hb=>o.mem.keep b hb (fun hn=>?_)⟩⟩
 ·have:=o.rel
  have h2:=P1 this
  rw[h2]
 ·obtain⟨r,R,h1,-⟩:=hn
  simp at h1
theorem Ij{w w':World}(hG:Globs.ok w fun b=>b<w.heap.size)(hb:Below w.heap.size w w'):Globs.ok w' fun b=>b<w'.heap.size:=
 Globs.step (fun b h=>Nat.lt_of_lt_of_le h hb.size) (fun b h=>hb.block b h) hG
def Co(n:Int):ByteArray:=if 0≤n∧n≤1000000000 then A0 n++tx [46,116,109,112]else tx []
theorem Xc1{n:Int}{o:ByteArray}(e:Co n=o):o.size≤17:=by
 rw[←e]
 unfold Co
 split
 ·rw[ByteArray.size_append]
  have:=Iw (n:=n) rfl
  have:(tx [46,116,109,112]).size=4:=rfl
  omega
 ·simp[B3]
def U6(c:UInt8):Nat:=if 48≤c.toNat∧c.toNat≤57 then c.toNat - 48 else if 97≤c.toNat∧c.toNat≤102 then c.toNat - 87 else 16
def Pj:Nat→List UInt8→Option Nat
 |acc,[]=>some acc
 |acc,c::l=>if U6 c<16 then Pj (16*acc+U6 c) l else none
theorem Wd:∀(l:List UInt8) (acc:Nat) (c:UInt8),Pj acc (l++[c])=(Pj acc l).bind fun a=>if U6 c<16 then some (16*a+U6 c)else none
 |[],acc,c=>by
  show(if U6 c<16 then Pj _ []else none)=_
  rfl
 |b::l,acc,c=>by
  rw[List.cons_append,Pj,Pj]
  split
  ·exact Wd l _ c
  ·rfl
theorem Xge(n:Nat):U6 (dig n)=n% 16:=by
 have key:∀i:Fin 16,U6 (dig i.val)=i.val:=by decide
 have:=key ⟨n% 16,Nat.mod_lt _ (by omega)⟩
 rw[Xcz]at this
 exact this
theorem Xe:∀(k n:Nat),n<16^k→Pj 0 (Zt k n)=some n
 |0,n,h=>by
  have:n=0:=by simpa using h
  subst this;rfl
 |k+1,n,h=>by
  rw[Zt,Wd,Xe k (n/16) (by rw[Nat.pow_succ]at h;omega),Option.bind_some,Xge,if_pos (Nat.mod_lt _ (by omega))]
  congr 1
  omega
def mid(name:ByteArray):List UInt8:=(name.data.toList.drop 1).take 8
def Wg(name:ByteArray):Int×Int:=
 match Pj 0 (mid name)with
 |some n=>if name.size=13∧A0 (n:Int)=name then(1,(n:Int))else if name.size=17∧Co (n:Int)=name then(2,(n:Int))else(0,0)
 |none=>(0,0)
theorem Xj9{n:Int}(h:0≤n∧n≤1000000000):A0 n=tx (115::(Zt 8 n.toNat++[46,115,101,103])):=if_pos h
theorem XiS{n:Int}(h:0≤n∧n≤1000000000):(A0 n).size=13:=by
 rw[Xj9 h,B3,List.length_cons,List.length_append,Rf];rfl
theorem XlY{n:Int}{l:List UInt8}:mid (tx (115::(Zt 8 n.toNat++l)))=Zt 8 n.toNat:=by
 unfold mid tx
 show((115::(Zt 8 n.toNat++l)).drop 1).take 8=_
 rw[List.drop_succ_cons,List.drop_zero,List.take_left' (Rf 8 n.toNat)]
theorem XlD{n:Int}{l:List UInt8}(h:0≤n∧n≤1000000000):Pj 0 (mid (tx (115::(Zt 8 n.toNat++l))))=some n.toNat:=by
 rw[XlY,Xe 8 n.toNat (by omega)]
theorem XdS{n:Int}(h:0≤n∧n≤1000000000):Wg (A0 n)=(1,n):=by
 have hh:Pj 0 (mid (A0 n))=some n.toNat:=by rw[Xj9 h];exact XlD h
 unfold Wg
 rw[hh]
 dsimp only
 rw[Int.toNat_of_nonneg h.1,if_pos ⟨XiS h,rfl⟩]
theorem Xky{n:Int}{name:ByteArray}(e:A0 n=name)(h:name.size≠0):0≤n∧n≤1000000000:=by
 rcases Decidable.em (0≤n∧n≤1000000000)with h1|h1
 ·exact h1
 ·exfalso;apply h;rw[←e];unfold A0;rw[if_neg h1];rfl
theorem CallOk.ofCallsT{P:Program}{f:FuncId}{as0:List AV}{v1 v2:Value}(o1:v1.oneCell'=true)(o2:v2.oneCell'=true)(h:∀(E:Env) (vs:Array Value),(∀b,E.S b→b<E.w.heap.size)→Globs.ok E.w E.S→XcC E as0 vs→Calls P f vs E.w fun e w'=>e= .returned (.tuple #[v1,v2])∧Below E.w.heap.size E.w w'):CallOk P f as0 [] ⟨.tup [.d (.sc v1),.d (.sc v2)],[],[]⟩:=by
 intro w S β vs hM hA
 refine(h (B1 w S β [] []) vs hM.slt hM.glob hA).mono ?_
 rintro e w' ⟨he,hb⟩
 have hb:Below w.heap.size w w':=hb
 have st:Step (B1 w S β [] []) {B1 w S β [] []with w:=w'}:=⟨fun r R hR=>⟨R,hR,.inr rfl⟩,fun _ h=>h,fun _ _=>rfl,fun _ h=>h,fun b hS=>hb.block b (hM.slt b hS),fun b s hs=>Mt hb hs⟩
 refine⟨.tuple #[v1,v2],{B1 w S β [] []with w:=w'},he,rfl,?_,st,?_,?_,hb.size,.tup _ _ rfl ?_⟩
 ·exact{
   os:=hb.os.trans hM.os
   output:=hb.output.trans hM.output
   tape:=hb.tape.trans hM.tape
   size:=hb.size
   keep:=fun b hlt hn=>hb.block b hlt
   shape:=fun b s hs=>Mt hb hs
   s0:=hM.s0
   slt:=fun b hS=>Nat.lt_of_lt_of_le (hM.slt b hS) hb.size
   glob:=Globs.step st.S st.heap hM.glob
   snew:=hM.snew
   blt:=fun r b hp hβ=>absurd hp (Nat.not_lt_zero r)
   bown:=fun r R b hp=>absurd hp (Nat.not_lt_zero r)
   bkeep:=fun r R hlt hp=>absurd hp (Nat.not_lt_zero r)
   inj:=fun r r' R R' b hp=>absurd hp (Nat.not_lt_zero r)
   roots:=fun r R hp=>absurd hp (Nat.not_lt_zero r)}
 ·rfl
 ·intro r
  constructor
  ·exact fun h=>.inl h
  ·rintro(h|⟨_,h⟩)
   ·exact h
   ·exact absurd h (by simp)
 ·intro j y hy
  match j,hy with
  |0,hy=>cases hy;exact .d _ _ (.sc _ o1)
  |1,hy=>cases hy;exact .d _ _ (.sc _ o2)
variable {n:Int} {o:ByteArray}
theorem XfQ(hr:Co n=o):Fn Tryz.prog 205 [I n] [] ⟨S o,[],[]⟩:=by
 refine Fn.go XeG Tryz.func205 fun P hP Q hQ=>?_
 conv=>cbv
 generalize aa:Bp n=r1
 refine .dd hP (Fm aa) ?_
 cases r1
 simp only[Bp,decide_eq_true_eq,decide_eq_false_iff_not]at aa
 conv=>cbv
 have e:(tx [])=Co n:=(by unfold Co;rw[if_neg (by omega)])
 rw[hr]at e
 subst e
 exact hQ _ _ (.s rfl rfl)
 simp only[Bp,decide_eq_true_eq,decide_eq_false_iff_not]at aa
 conv=>cbv
 generalize ab:A0 n=r2
 refine .dd hP (Mc ab) ?_
 conv=>cbv
 have ad:=Iw (n:=n) (by assumption)
 refine .litR 4 fun s3 ac ae=>?_
 conv=>cbv
 have e:s3=Co n:=(by unfold Co;rw[if_pos (by omega),ac,←ab];rfl)
 rw[hr]at e
 subst e
 exact hQ _ _ (.s rfl rfl)
theorem XfM(hr:Co n=o):Fn Tryz.prog 193 [I n] [] ⟨S o,[],[]⟩:=by
 refine Fn.go XeG Tryz.func193 fun P hP Q hQ=>?_
 conv=>cbv
 generalize aa:A0 n=r1
 refine .dd hP (Mw aa) ?_
 conv=>cbv
 refine .eql (fun h2=>?_) fun h2=>?_
 conv=>cbv
 have e:(tx [])=Co n:=(by unfold Co;rw[if_neg];intro hh;have:=XiS hh;rw[aa,h2]at this;cases this)
 rw[hr]at e
 subst e
 exact hQ _ _ (.s rfl rfl)
 conv=>cbv
 have ac:=Iw aa
 refine .litR 4 fun s3 ab ad=>?_
 conv=>cbv
 have e:s3=Co n:=(by unfold Co;rw[if_pos,ab,←aa];rfl;exact Xky aa (fun h0=>h2 (by apply ByteArray.ext;exact Array.eq_empty_of_size_eq_zero h0)))
 rw[hr]at e
 subst e
 exact hQ _ _ (.s rfl rfl)
end
section
open Go Go.Proofs
open Go.RowKit
theorem Xly{a b:ByteArray}(h:¬a=b):(a.toList==b.toList)=false:=by
 rw[Bool.eq_false_iff]
 exact fun hh=>h ((Lib.bytes_beq_iff _ _).1 hh)
theorem Vv{w:World}(hG:Globs.ok w fun b=>b<w.heap.size){n:Int}{o:Bool}(hr:Bp n=o):Calls Tryz.prog 230 #[.int .i64 n] w fun e w'=>e= .returned (.bool o)∧Below w.heap.size w w':=by
 refine(Fm (n:=n) hr).ok.callsV hG ⟨rfl,?_⟩
 intro j y hy
 match j,hy with
 |0,hy=>cases hy;exact .d _ _ (.sc _ rfl)
end
section
open Go Go.Proofs
def Xef:List (Nat×TyRow):=[ty3,ty9,Xcu,Xal,XiA,Xjy,ty92,ty96,XiQ]
theorem Xda:B8 Tryz.prog Xef:=B8.of (by kernel_rfl)
theorem Ii:Setup Tryz.prog Xef:=⟨Xda,mixed⟩
def D0(d:Aa)(base:Int):ByteArray:=(Gb d (A0 base)).1
def D5(b:ByteArray)(base link:Int):Bool:=(Ch b).2&&decide ((Ch b).1.base_=base)&&decide ((Ch b).1.link_=link)
def H6(link:Int)(r:ByteArray):Int:=Gg link (A5 r.size 4++r)
def F0(link:Int)(l:List ByteArray):Int:=l.foldl H6 link
def Dr(b:ByteArray):List ByteArray:=(Bu b).records_
def Im(b:ByteArray):Int:=F0 (Bu b).head_.link_ (Bu b).records_
def H7(d:Aa):Nat→Int→Int→List F6
 |0,_,_=>[]
 |k+1,base,sum=>if D5 (D0 d base) base sum=true∧Dr (D0 d base)≠[]then
   ⟨base,D0 d base,Bu (D0 d base)⟩::H7 d k (base+(Dr (D0 d base)).length) (F0 sum (Dr (D0 d base)))else[]
def Ek(d:Aa):List F6:=H7 d 16 0 0
def Lu(d:Aa):List Int:=(Ek d).map (·.base_)
theorem Ok{d:Aa}{b:Int}{t:ByteArray}(hd:okD d)(e:D0 d b=t):t.size≤1000000000:=by
 rw[←e]
 exact XcX (ok:=(Gb d (A0 b)).2) hd rfl
theorem Rm{t:ByteArray}{b s:Int}(h:D5 t b s=true):∃hh,Ch t=(hh,true)∧hh.base_=b∧hh.link_=s∧0≤b∧b≤1000000000:=by
 unfold D5 at h
 simp only[Bool.and_eq_true,decide_eq_true_eq]at h
 rcases e:Ch t with⟨hh,ok⟩
 rw[e]at h
 obtain⟨⟨h1,h2⟩,h3⟩:=h
 simp only[]at h1 h2 h3
 subst h1
 have h4:=(Hi e).2.2
 obtain⟨v,st,bs,lk⟩:=hh
 have h5:=H5 h4
 exact⟨_,rfl,h2,h3,by simp only[]at h2;omega,by simp only[]at h2;omega⟩
theorem Xb4{t:ByteArray}{hh:Cd}(e:Ch t=(hh,true)):(Bu t).head_=hh∧(Bu t).ok_=true:=by unfold Bu;rw[e];exact⟨rfl,rfl⟩
theorem Wu{t:ByteArray}{b s:Int}(h:D5 t b s=true):Im t=F0 s (Dr t):=by
 obtain⟨hh,h1,h2,h3,_⟩:=Rm h
 unfold Im Dr
 rw[(Xb4 h1).1,h3]
theorem Rx{t:ByteArray}{b s:Int}{l:List ByteArray}(h:D5 t b s=true)(e:Dr t=l):Im t=F0 s l:=by rw[Wu h,e]
theorem Qs{d:Aa}{k:Nat}{b s:Int}{t:ByteArray}(h1:D0 d b=t)(h2:D5 t b s=false∨Dr t=[]):H7 d k b s=[]:=by
 cases k with
 |zero=>rfl
 |succ k=>
  rw[H7,h1,if_neg]
  rintro⟨h3,h4⟩
  rcases h2 with h2|h2
  ·rw[h2]at h3;cases h3
  ·exact h4 h2
theorem Wn{d:Aa}{k:Nat}{b s:Int}{t:ByteArray}(h1:D0 d b=t)(h2:D5 t b s=true)(h3:Dr t≠[]):H7 d (k+1) b s=⟨b,t,Bu t⟩::H7 d k (b+(Dr t).length) (F0 s (Dr t)):=by
 rw[H7,h1,if_pos ⟨h2,h3⟩]
theorem Oz{d:Aa}:∀{k:Nat} {b s:Int},(H7 d k b s).length≤k
 |0,_,_=>Nat.le_refl _
 |k+1,b,s=>by
  rw[H7]
  split
  ·rw[List.length_cons];exact Nat.succ_le_succ Oz
  ·exact Nat.zero_le _
theorem Xc{d:Aa}:∀{k:Nat} {b s:Int},∀x∈H7 d k b s,x.text_=D0 d x.base_∧x.scan_=Bu (D0 d x.base_)∧∃s',D5 (D0 d x.base_) x.base_ s'=true
 |0,_,_,x,hx=>by simp[H7]at hx
 |k+1,b,s,x,hx=>by
  rw[H7]at hx
  split at hx
  ·rename_i h
   rw[List.mem_cons]at hx
   rcases hx with rfl|hx
   ·exact⟨rfl,rfl,s,h.1⟩
   ·exact Xc x hx
  ·simp at hx
theorem XfC{d:Aa}{l:List F6}(e:Ek d=l):l.length≤16:=by rw[←e];exact Oz
theorem XfD{d:Aa}{l:List Int}(e:Lu d=l):l.length≤16:=by rw[←e];unfold Lu;rw[List.length_map];exact Oz
theorem Xk{d:Aa}{l:List F6}(e:Ek d=l){x:F6}(hx:x∈l):x.text_=D0 d x.base_∧x.scan_=Bu (D0 d x.base_)∧∃s',D5 (D0 d x.base_) x.base_ s'=true:=by rw[←e]at hx;exact Xc x hx
theorem Xev:∀(k:Nat) {h:Cd} {b:ByteArray} {n:Nat} {p:Int},(b.size - p).toNat≤k→0≤p∧p≤b.size→∀r∈(Is h b n p).1,r.size≤60
 |k,h,b,n,p,hk,hp=>by
  cases hm:Ex h.version_ (h.base_+n) b p
  ·rcases hf:Be h.version_ (h.base_+n) b p with⟨r,q,ok⟩
   cases ok
   ·rw[Od hm hf];simp
   ·have h2:=Ia hf
    rw[Oy hm hf]
    cases k with
    |zero=>omega
    |succ k=>
     have ih:=Xev k (h:=h) (b:=b) (n:=n+1) (p:=q) (by omega) (by omega)
     intro x hx
     rcases List.mem_cons.1 hx with rfl|hx
     ·omega
     ·exact ih x hx
  ·rw[Oe hm];simp
theorem Xew{b:ByteArray}:∀r∈(Bu b).records_,r.size≤60:=by
 unfold Bu
 split
 ·rename_i h e
  have h2:=Hi e
  exact Xev _ (h:=h) (b:=b) (n:=0) (p:=24) (Nat.le_refl _) (by omega)
 ·simp
theorem XiW{α β:Type}{f:α→β}{l:List α}{k:Nat}(h:k<l.length):(l.take (k+1)).map f=(l.take k).map f++[f l[k]]:=by rw[List.take_succ_eq_append_getElem h,List.map_append];rfl
variable {Ae:List Bg} {Bv Bq Bn Br xo:List (List D)} {Al Ak:List Ad} {Ag:List ByteArray} {At Ap base o link:Int} {b r:ByteArray}
theorem XiE{o:ByteArray}(An:Ae.map Bi=Bv)(Am:Al.map Ac=Bq)(Aq:Ak.map Ac=Bn)(As:Ag.map cS=Br)(hd:okD ⟨Ae,Al,Ak,Ag,At,Ap⟩)(hr:D0 (⟨Ae,Al,Ak,Ag,At,Ap⟩:Aa) base=o):Fn Tryz.prog 202 [.agg [.d (.row 3 Bv),.d (.row 2 Bq),.d (.row 2 Bn),.d (.row 1 Br),I At,I Ap],I base] [] ⟨S o,[],[]⟩:=by
 refine Fn.go Ii Tryz.func202 fun P hP Q hQ=>?_
 conv=>cbv
 generalize aa:A0 base=r1
 refine .dd hP (Mc aa) ?_
 conv=>cbv
 rcases ab:Gb (⟨Ae,Al,Ak,Ag,At,Ap⟩:Aa) r1 with⟨ac,ad⟩
 refine .dd hP (Xfz An Am Aq As hd ab) ?_
 conv=>cbv
 have e:ac=D0 (⟨Ae,Al,Ak,Ag,At,Ap⟩:Aa) base:=(by unfold D0;rw[aa,ab])
 rw[hr]at e
 subst e
 exact hQ _ _ (.s rfl rfl)
theorem Xel{o:ByteArray}(An:Ae.map Bi=Bv)(Am:Al.map Ac=Bq)(Aq:Ak.map Ac=Bn)(As:Ag.map cS=Br)(hd:okD ⟨Ae,Al,Ak,Ag,At,Ap⟩)(hr:D0 (⟨Ae,Al,Ak,Ag,At,Ap⟩:Aa) base=o):Fn Tryz.prog 15 [.agg [.d (.row 3 Bv),.d (.row 2 Bq),.d (.row 2 Bn),.d (.row 1 Br),I At,I Ap],I base] [] ⟨S o,[],[]⟩:=by
 refine Fn.go Ii Tryz.func15 fun P hP Q hQ=>?_
 conv=>cbv
 generalize aa:A0 base=r1
 refine .dd hP (Mw aa) ?_
 conv=>cbv
 rcases ab:Gb (⟨Ae,Al,Ak,Ag,At,Ap⟩:Aa) r1 with⟨ac,ad⟩
 refine .dd hP (Xfm An Am Aq As hd ab) ?_
 conv=>cbv
 have e:ac=D0 (⟨Ae,Al,Ak,Ag,At,Ap⟩:Aa) base:=(by unfold D0;rw[aa,ab])
 rw[hr]at e
 subst e
 exact hQ _ _ (.s rfl rfl)
theorem XiC{o:Bool}(hs:b.size<2^47)(hr:D5 b base link=o):Fn Tryz.prog 203 [S b,I base,I link] [] ⟨B o,[],[]⟩:=by
 refine Fn.go Ii Tryz.func203 fun P hP Q hQ=>?_
 conv=>cbv
 rcases aa:Ch b with⟨⟨ab,ac,ad,ae⟩,af⟩
 refine .dd hP (Xu (by omega) aa) ?_
 conv=>cbv
 cases af
 conv=>cbv
 have e:false=D5 b base link:=(by unfold D5;rw[aa];rfl)
 rw[hr]at e
 subst e
 exact hQ _ _ (.b rfl rfl)
 conv=>cbv
 refine .eql (fun h2=>?_) fun h2=>?_
 conv=>cbv
 refine .eql (fun h3=>?_) fun h3=>?_
 conv=>cbv
 have e:true=D5 b base link:=(by unfold D5;rw[aa];simp[h2,h3])
 rw[hr]at e
 subst e
 exact hQ _ _ (.b rfl rfl)
 conv=>cbv
 have e:false=D5 b base link:=(by unfold D5;rw[aa];simp[h2,h3])
 rw[hr]at e
 subst e
 exact hQ _ _ (.b rfl rfl)
 conv=>cbv
 have e:false=D5 b base link:=(by unfold D5;rw[aa];simp[h2])
 rw[hr]at e
 subst e
 exact hQ _ _ (.b rfl rfl)
theorem Xfi(hb:r.size<2^40)(hr:H6 link r=o):Fn Tryz.prog 246 [I link,S r] [] ⟨I o,[],[]⟩:=by
 refine Fn.go Ii Tryz.func246 fun P hP Q hQ=>?_
 conv=>cbv
 refine .go fun v1 ac=>?_
 conv=>cbv
 generalize aa:A5 v1 4=r2
 have zr2:=Cl aa
 refine .dd hP (Fo (by omega) aa) ?_
 conv=>cbv
 refine .go fun s3 ad ae=>?_
 conv=>cbv
 generalize ab:Gg link s3=r4
 have zr4:=Ou ab
 refine .dd hP (Xaz (by omega) ab) ?_
 conv=>cbv
 have e:r4=H6 link r:=(by subst_vars;rfl)
 rw[hr]at e
 subst e
 exact hQ _ _ (.i rfl rfl)
theorem Xjj{o:Bool}(hs:b.size<2^47)(hr:D5 b base link=o):Fn Tryz.prog 66 [S b,I base,I link] [] ⟨B o,[],[]⟩:=by
 refine Fn.go Ii Tryz.func66 fun P hP Q hQ=>?_
 conv=>cbv
 rcases aa:Ch b with⟨⟨ab,ac,ad,ae⟩,af⟩
 refine .dd hP (Sd (by omega) aa) ?_
 conv=>cbv
 cases af
 conv=>cbv
 have e:false=D5 b base link:=(by unfold D5;rw[aa];rfl)
 rw[hr]at e
 subst e
 exact hQ _ _ (.b rfl rfl)
 conv=>cbv
 refine .eql (fun h2=>?_) fun h2=>?_
 conv=>cbv
 refine .eql (fun h3=>?_) fun h3=>?_
 conv=>cbv
 have e:true=D5 b base link:=(by unfold D5;rw[aa];simp[h2,h3])
 rw[hr]at e
 subst e
 exact hQ _ _ (.b rfl rfl)
 conv=>cbv
 have e:false=D5 b base link:=(by unfold D5;rw[aa];simp[h2,h3])
 rw[hr]at e
 subst e
 exact hQ _ _ (.b rfl rfl)
 conv=>cbv
 have e:false=D5 b base link:=(by unfold D5;rw[aa];simp[h2])
 rw[hr]at e
 subst e
 exact hQ _ _ (.b rfl rfl)
theorem XfA(hb:r.size<2^40)(hr:H6 link r=o):Fn Tryz.prog 146 [I link,S r] [] ⟨I o,[],[]⟩:=by
 refine Fn.go Ii Tryz.func146 fun P hP Q hQ=>?_
 conv=>cbv
 refine .go fun v1 ac=>?_
 conv=>cbv
 generalize aa:A5 v1 4=r2
 have zr2:=Cl aa
 refine .dd hP (Fi (by omega) aa) ?_
 conv=>cbv
 refine .go fun s3 ad ae=>?_
 conv=>cbv
 generalize ab:Gg link s3=r4
 have zr4:=Ou ab
 refine .dd hP (Xbg (by omega) ab) ?_
 conv=>cbv
 have e:r4=H6 link r:=(by subst_vars;rfl)
 rw[hr]at e
 subst e
 exact hQ _ _ (.i rfl rfl)
theorem XhC{l:List ByteArray}{xl:List (List D)}(hl:l.map cS=xl)(hn:l.length<2^40)(hb:∀r∈l,r.size≤60)(hr:F0 link l=o):Fn Tryz.prog 204 [I link,.d (.row 1 xl)] [] ⟨I o,[],[]⟩:=by
 refine Fn.go Ii Tryz.func204 fun P hP Q hQ=>?_
 conv=>cbv
 refine .go hl fun v1 ad=>?_
 conv=>cbv
 refine LoopW.lp (κ:=Int×Int) Ii hP [] [7,8] (fun(i0,i9)=>[(0,I i0),(9,I i9)]) (fun(i0,i9)=>[])
  (fun(i0,i9)=>0≤i9∧i9≤l.length∧i0=F0 link (l.take i9.toNat))
  (fun(i0,i9)=>(l.length - i9).toNat) (link,0) ⟨by omega,by omega,rfl⟩ ⟨rfl,rfl,trivial⟩ rfl ?_
 rintro⟨i0,i9⟩ J ⟨h0,h1,hx⟩ hJ
 conv=>cbv
 refine .lss (fun h2=>?_) fun h2=>?_
 conv=>cbv
 refine .go i9.toNat hl fun aa e3 ab=>?_
 conv=>cbv
 have zb:=hb e3 (ab▸List.getElem_mem _)
 generalize ac:H6 i0 e3=r4
 refine .dd hP (Xfi (by omega) ac) ?_
 conv=>cbv
 refine .add fun v5 ae=>?_
 conv=>cbv
 exact .go [] (r4,v5) (hJ _ ⟨by omega,by omega,by rw[show v5.toNat=i9.toNat+1 by omega,List.take_succ_eq_append_getElem aa,F0,List.foldl_append,←ab];show r4=H6 (F0 link (l.take i9.toNat)) e3;rw[←hx,ac]⟩ mlt)
 conv=>cbv
 have e:i0=F0 link l:=(by rw[hx,List.take_of_length_le (by omega)])
 rw[hr]at e
 subst e
 exact hQ _ _ (.i rfl rfl)
theorem Xc0{o:List ByteArray}(hs:b.size<2^47)(hr:Dr b=o)(ho:o.map cS=xo):Fn Tryz.prog 18 [S b] [] ⟨.d (.row 1 xo),[],[]⟩:=by
 refine Fn.go Ii Tryz.func18 fun P hP Q hQ=>?_
 conv=>cbv
 rcases ai:Bu b with⟨an,⟨ae,af,ag,ah⟩,ab,ad,al,am⟩
 generalize aa:ab.map cS=aj
 generalize ac:ad.map cI=ak
 refine .dd hP (Sb (by omega) ai aa ac) ?_
 conv=>cbv
 have e:ab=Dr b:=(by unfold Dr;rw[ai])
 rw[hr]at e
 subst e
 exact hQ _ _ (.d rfl (by rw[←aa,←ho]))
theorem Xdf(hs:b.size<2^40)(hr:Im b=o):Fn Tryz.prog 67 [S b] [] ⟨I o,[],[]⟩:=by
 refine Fn.go Ii Tryz.func67 fun P hP Q hQ=>?_
 conv=>cbv
 rcases ae:Bu b with⟨aq,⟨ag,ah,ai,aa⟩,ab,af,ao,ap⟩
 generalize ac:ab.map cS=am
 generalize ad:af.map cI=an
 refine .dd hP (Sb (by omega) ae ac ad) ?_
 conv=>cbv
 refine LoopW.lp (κ:=Int×Int) Ii hP [] [3] (fun(i4,i5)=>[(4,I i4),(5,I i5)]) (fun(i4,i5)=>[])
  (fun(i4,i5)=>0≤i5∧i5≤ab.length∧i4=F0 aa (ab.take i5.toNat))
  (fun(i4,i5)=>(ab.length - i5).toNat) (aa,0) ⟨by omega,by omega,rfl⟩ ⟨rfl,rfl,trivial⟩ rfl ?_
 rintro⟨i4,i5⟩ J ⟨h0,h1,hx⟩ hJ
 have zs:=Xew (b:=b)
 have zl:=Lq (b:=b)
 rw[ae]at zs zl
 simp only[]at zs zl
 conv=>cbv
 refine .go ac fun v2 ar=>?_
 conv=>cbv
 refine .lss (fun h3=>?_) fun h3=>?_
 conv=>cbv
 refine .go i5.toNat ac fun aj e4 ak=>?_
 conv=>cbv
 have zb:=zs e4 (ak▸List.getElem_mem _)
 generalize al:H6 i4 e4=r5
 refine .dd hP (XfA (by omega) al) ?_
 conv=>cbv
 refine .add fun v6 au=>?_
 conv=>cbv
 exact .go [] (r5,v6) (hJ _ ⟨by omega,by omega,by rw[show v6.toNat=i5.toNat+1 by omega,List.take_succ_eq_append_getElem aj,F0,List.foldl_append,←ak];show r5=H6 (F0 aa (ab.take i5.toNat)) e4;rw[←hx,al]⟩ mlt)
 conv=>cbv
 have e:i4=Im b:=(by unfold Im;rw[ae,hx,List.take_of_length_le (by omega)])
 rw[hr]at e
 subst e
 exact hQ _ _ (.i rfl rfl)
theorem Xk8{o:List Int}(An:Ae.map Bi=Bv)(Am:Al.map Ac=Bq)(Aq:Ak.map Ac=Bn)(As:Ag.map cS=Br)(hd:okD ⟨Ae,Al,Ak,Ag,At,Ap⟩)(hr:Lu (⟨Ae,Al,Ak,Ag,At,Ap⟩:Aa)=o)(ho:o.map cI=xo):Fn Tryz.prog 14 [.agg [.d (.row 3 Bv),.d (.row 2 Bq),.d (.row 2 Bn),.d (.row 1 Br),I At,I Ap]] [] ⟨.d (.row 1 xo),[],[]⟩:=by
 refine Fn.go Ii Tryz.func14 fun P hP Q hQ=>?_
 conv=>cbv
 refine LoopW.lp (κ:=Int×Int×(List (List D))×Nat) Ii hP [2] [1] (fun(i4,i5,ac,aa)=>[(3,.ref 3 0 aa),(4,I i4),(5,I i5)]) (fun(i4,i5,ac,aa)=>[(3,.row 1 false ac)])
  (fun(i4,i5,ac,aa)=>∃(w3:List Int),w3.map cI=ac∧aa=w3.length∧(w3.length≤16∧0≤i4∧i4≤2000000000)∧Lu (⟨Ae,Al,Ak,Ag,At,Ap⟩:Aa)=w3++(H7 (⟨Ae,Al,Ak,Ag,At,Ap⟩:Aa) (16 - w3.length) i4 i5).map (·.base_))
  (fun(i4,i5,ac,aa)=>16 - aa) (0,0,[],0) ⟨[],rfl,rfl,by simp,rfl⟩ ⟨rfl,rfl,rfl,trivial⟩ rfl ?_
 rintro⟨i4,i5,ac,aa⟩ J ⟨w3,ab,an,hb,hI⟩ hJ
 conv=>cbv
 refine .go fun v1 ap=>?_
 conv=>cbv
 refine .lss (fun h2=>?_) fun h2=>?_
 conv=>cbv
 generalize ae:D0 (⟨Ae,Al,Ak,Ag,At,Ap⟩:Aa) i4=r3
 refine .dd hP (Xel An Am Aq As hd ae) ?_
 conv=>cbv
 have z3:=Ok hd ae
 generalize ad:Dr r3=l4
 generalize ah:l4.map cS=aq
 refine .dd hP (Xc0 (by omega) ad ah) ?_
 conv=>cbv
 refine .go ah fun v5 ag=>?_
 conv=>cbv
 refine .eql (fun h6=>?_) fun h6=>?_
 conv=>cbv
 have e:w3=Lu (⟨Ae,Al,Ak,Ag,At,Ap⟩:Aa):=(by rw[hI,Qs ae (.inr (by rw[ad];exact List.eq_nil_of_length_eq_zero (by omega)))];simp)
 rw[hr]at e
 subst e
 exact hQ _ _ (.r rfl rfl (by rw[←ab,List.length_map];first|omega|(simp;omega)) (by rw[←ab,←ho]))
 conv=>cbv
 generalize af:D5 r3 i4 i5=r7
 refine .dd hP (Xjj (by omega) af) ?_
 cases r7
 conv=>cbv
 have e:w3=Lu (⟨Ae,Al,Ak,Ag,At,Ap⟩:Aa):=(by rw[hI,Qs ae (.inl af)];simp)
 rw[hr]at e
 subst e
 exact hQ _ _ (.r rfl rfl (by rw[←ab,List.length_map];first|omega|(simp;omega)) (by rw[←ab,←ho]))
 conv=>cbv
 have hg:=Rm af
 obtain⟨hh,g1,g2,g3,g4,g5⟩:=hg
 have hne:l4≠[]:=by intro e;rw[e]at ag;simp at ag;exact h6 ag
 have zr:=Lq (b:=r3)
 have rq:(Bu r3).records_=l4:=ad
 rw[rq]at zr
 refine .one i4 ab rfl fun ak z8 ao al=>?_
 conv=>cbv
 generalize ai:Im r3=r9
 refine .dd hP (Xdf (by omega) ai) ?_
 conv=>cbv
 refine .add fun am aj=>?_
 conv=>cbv
 exact .go [5] (am,r9,z8,ak) (hJ _ ⟨_,al,Lx,by rw[List.length_append];simp;omega,by rw[hI,show 16 - w3.length=(15 - w3.length)+1 by omega,Wn ae af (by rw[ad];exact hne),ad,List.map_cons,List.append_assoc,List.length_append,←Rx af ad,ai,←ag,←aj];simp only[List.length_singleton];rw[show 16 - (w3.length+1)=15 - w3.length by omega];rfl⟩ mlt)
 conv=>cbv
 have e:w3=Lu (⟨Ae,Al,Ak,Ag,At,Ap⟩:Aa):=(by rw[hI,show 16 - w3.length=0 by omega];simp[H7])
 rw[hr]at e
 subst e
 exact hQ _ _ (.r rfl rfl (by rw[←ab,List.length_map];first|omega|(simp;omega)) (by rw[←ab,←ho]))
end
section
open Go Go.Proofs
def Xk9{α:Type}(f:α→Int)(l:List α):Int:=(l.map f).foldl (·+·) 0
theorem Xa8{α:Type}{f:α→Int}{l:List α}{k:Nat}(h:k<l.length):Xk9 f (l.take (k+1))=Xk9 f (l.take k)+f l[k]:=by unfold Xk9;rw[XiW h,List.foldl_append];rfl
def I5{α:Type}[DecidableEq α](a b:List α):Bool:=decide (a=b)
end
section
open Go Go.Proofs
end
section
open Go Go.Proofs
theorem Xiq{α:Type}{p:α→Bool}{l:List α}{i:Int}(e:S1 p l=i)(h:i≠-1):0≤i∧i<l.length∧l.take i.toNat=(l.take (i+1).toNat).filter (fun x=>!p x):=by
 have hb:=Xd5 e
 have h0:0≤i:=by omega
 obtain⟨hi,hp⟩:=Mn e h0
 refine⟨h0,hb.2,?_⟩
 rw[show(i+1).toNat=i.toNat+1 by omega,List.take_succ_eq_append_getElem hi,List.filter_append]
 have h1:(l.take i.toNat).filter (fun x=>!p x)=l.take i.toNat:=by
  rw[List.filter_eq_self]
  intro x hx
  obtain⟨j,hj,rfl⟩:=List.getElem_of_mem hx
  have aa:j<i.toNat:=by have:=hj;rw[List.length_take]at this;omega
  rw[List.getElem_take]
  have e2:l.findIdx p=i.toNat:=by
   unfold S1 at e
   split at e<;>omega
  have:=List.not_of_lt_findIdx (p:=p) (xs:=l) (i:=j) (by omega)
  simpa using this
 rw[h1]
 simp[hp]
theorem XgG{α:Type}{p:α→Bool}{l w:List α}{i j:Nat}(hj:j<l.length)(hij:i<j)(hl:w.length=l.length)(h1:w.take i=(l.take j).filter (fun x=>!p x))(h2:w.drop j=l.drop j)(hp:p l[j]=false):
  (w.set i l[j]).take (i+1)=(l.take (j+1)).filter (fun x=>!p x)∧(w.set i l[j]).drop (j+1)=l.drop (j+1):=by
 constructor
 ·rw[List.take_succ_eq_append_getElem (by rw[List.length_set];omega),List.take_set_of_le (Nat.le_refl i),h1,List.take_succ_eq_append_getElem hj,List.filter_append]
  simp[hp]
 ·rw[List.drop_set_of_lt (by omega),←List.drop_drop,←List.drop_drop,h2]
theorem XhB{α:Type}{p:α→Bool}{l w:List α}{i j:Nat}(hj:j<l.length)(h1:w.take i=(l.take j).filter (fun x=>!p x))(h2:w.drop j=l.drop j)(hp:p l[j]=true):
  w.take i=(l.take (j+1)).filter (fun x=>!p x)∧w.drop (j+1)=l.drop (j+1):=by
 constructor
 ·rw[List.take_succ_eq_append_getElem hj,List.filter_append,h1]
  simp[hp]
 ·rw[←List.drop_drop,←List.drop_drop,h2]
theorem Xl5{α:Type}{l w:List α}{j:Nat}(hj:j<w.length)(aa:j<l.length)(h2:w.drop j=l.drop j):w[j]=l[j]:=by
 have:=congrArg (·[0]?) h2
 simpa[hj,aa]using this
theorem XlC{α:Type}{c:α→List D}{w o:List α}{z:α}{i n:Nat}{x:List (List D)}(hn:n=w.length - i)(hi:i≤w.length)(ho:w.take i=o)(h:(w.take i++(List.replicate n z++w.drop (i+n))).map c=x):i=o.length∧(o++List.replicate (w.length - o.length) z).map c=x:=by
 have h1:i=o.length:=by rw[←ho,List.length_take];omega
 refine⟨h1,?_⟩
 rw[←h,ho,List.drop_of_length_le (by omega),List.append_nil,hn,h1]
end
section
open Go Go.Proofs
def Xa0:List (Nat×TyRow):=[ty3,ty4,ty9,Xcu,Xjy,ty92]
theorem Xcq:B8 Tryz.prog Xa0:=B8.of (by kernel_rfl)
theorem Xex:Setup Tryz.prog Xa0:=⟨Xcq,mixed⟩
def B2(b:ByteArray)(v:Int):ByteArray:=
 if(Bu b).ok_=true∧(0≤v∧v≤2)then(if 0<v then Ck ⟨v,(Bu b).head_.stride_,(Bu b).head_.base_,(Bu b).head_.link_⟩ (Bu b).records_ else Ck (Bu b).head_ (Bu b).records_)else tx []
theorem Pt{b:ByteArray}{v:Int}{o:ByteArray}(e:B2 b v=o):o.size≤200000:=by
 rw[←e]
 unfold B2
 split
 ·split
  ·exact Gr rfl
  ·exact Gr rfl
 ·simp[B3]
variable {b o:ByteArray} {version:Int}
theorem XfP(hn:b.size<2^40)(hr:B2 b version=o):Fn Tryz.prog 125 [S b,I version] [] ⟨S o,[],[]⟩:=by
 refine Fn.go Xex Tryz.func125 fun P hP Q hQ=>?_
 conv=>cbv
 rcases ag:Bu b with⟨am,⟨af,aa,ab,ac⟩,ae,ak,ap,aq⟩
 generalize ad:ae.map cS=an
 generalize aj:ak.map cI=ao
 refine .dd hP (W2 (by omega) ag ad aj) ?_
 conv=>cbv
 have zl:=Lq (b:=b)
 rw[ag]at zl
 simp only[]at zl
 cases am
 conv=>cbv
 have e:(tx [])=B2 b version:=(by unfold B2;rw[ag];simp only[];rw[if_neg];rintro⟨q,_⟩;cases q)
 rw[hr]at e
 subst e
 exact hQ _ _ (.s rfl rfl)
 conv=>cbv
 refine .neq (fun h2=>?_) fun h2=>?_
 conv=>cbv
 generalize al:Dt version=r3
 refine .dd hP (Mx al) ?_
 cases r3
 simp only[Dt,decide_eq_true_eq,decide_eq_false_iff_not]at al
 conv=>cbv
 have e:(tx [])=B2 b version:=(by unfold B2;rw[ag];simp only[];rw[if_neg];rintro⟨_,q⟩;omega)
 rw[hr]at e
 subst e
 exact hQ _ _ (.s rfl rfl)
 simp only[Dt,decide_eq_true_eq,decide_eq_false_iff_not]at al
 conv=>cbv
 refine .neq (fun h4=>?_) fun h4=>?_
 conv=>cbv
 generalize ah:Ck (⟨version,aa,ab,ac⟩:Cd) ae=r5
 have zr5:=Gr ah
 refine .dd hP (Oh ad (by omega) ah) ?_
 conv=>cbv
 have e:r5=B2 b version:=(by unfold B2;rw[ag];simp only[];rw[if_pos ⟨trivial,by omega⟩,if_pos (by omega)];exact ah.symm)
 rw[hr]at e
 subst e
 exact hQ _ _ (.s rfl rfl)
 conv=>cbv
 generalize ah:Ck (⟨af,aa,ab,ac⟩:Cd) ae=r5
 have zr5:=Gr ah
 refine .dd hP (Oh ad (by omega) ah) ?_
 conv=>cbv
 have e:r5=B2 b version:=(by exact absurd h4 h2)
 rw[hr]at e
 subst e
 exact hQ _ _ (.s rfl rfl)
 conv=>cbv
 refine .neq (fun h3=>?_) fun h3=>?_
 conv=>cbv
 generalize ai:Ck (⟨version,aa,ab,ac⟩:Cd) ae=r4
 have zr4:=Gr ai
 refine .dd hP (Oh ad (by omega) ai) ?_
 conv=>cbv
 have e:r4=B2 b version:=(by exact absurd h2 h3)
 rw[hr]at e
 subst e
 exact hQ _ _ (.s rfl rfl)
 conv=>cbv
 generalize ai:Ck (⟨af,aa,ab,ac⟩:Cd) ae=r4
 have zr4:=Gr ai
 refine .dd hP (Oh ad (by omega) ai) ?_
 conv=>cbv
 have e:r4=B2 b version:=(by unfold B2;rw[ag];simp only[];rw[if_pos ⟨trivial,by omega⟩,if_neg (by omega)];exact ai.symm)
 rw[hr]at e
 subst e
 exact hQ _ _ (.s rfl rfl)
theorem XfR(hn:b.size<2^40)(hr:B2 b version=o):Fn Tryz.prog 114 [S b,I version] [] ⟨S o,[],[]⟩:=by
 refine Fn.go Xex Tryz.func114 fun P hP Q hQ=>?_
 conv=>cbv
 rcases ag:Bu b with⟨al,⟨ah,aa,ab,ac⟩,ae,aj,ao,ap⟩
 generalize ad:ae.map cS=am
 generalize ai:aj.map cI=an
 refine .dd hP (Sb (by omega) ag ad ai) ?_
 conv=>cbv
 have zl:=Lq (b:=b)
 rw[ag]at zl
 simp only[]at zl
 cases al
 conv=>cbv
 have e:(tx [])=B2 b version:=(by unfold B2;rw[ag];simp only[];rw[if_neg];rintro⟨q,_⟩;cases q)
 rw[hr]at e
 subst e
 exact hQ _ _ (.s rfl rfl)
 conv=>cbv
 generalize ak:Bm version 0 2=r2
 refine .dd hP (Ec ak) ?_
 cases r2
 simp only[Bm,decide_eq_true_eq,decide_eq_false_iff_not]at ak
 conv=>cbv
 have e:(tx [])=B2 b version:=(by unfold B2;rw[ag];simp only[];rw[if_neg];rintro⟨_,q⟩;omega)
 rw[hr]at e
 subst e
 exact hQ _ _ (.s rfl rfl)
 simp only[Bm,decide_eq_true_eq,decide_eq_false_iff_not]at ak
 conv=>cbv
 refine .gtr (fun h3=>?_) fun h3=>?_
 conv=>cbv
 generalize af:Ck (⟨version,aa,ab,ac⟩:Cd) ae=r4
 have zr4:=Gr af
 refine .dd hP (Xx ad (by omega) af) ?_
 conv=>cbv
 have e:r4=B2 b version:=(by unfold B2;rw[ag];simp only[];rw[if_pos ⟨trivial,by omega⟩,if_pos (by omega)];exact af.symm)
 rw[hr]at e
 subst e
 exact hQ _ _ (.s rfl rfl)
 conv=>cbv
 generalize af:Ck (⟨ah,aa,ab,ac⟩:Cd) ae=r4
 have zr4:=Gr af
 refine .dd hP (Xx ad (by omega) af) ?_
 conv=>cbv
 have e:r4=B2 b version:=(by unfold B2;rw[ag];simp only[];rw[if_pos ⟨trivial,by omega⟩,if_neg (by omega)];exact af.symm)
 rw[hr]at e
 subst e
 exact hQ _ _ (.s rfl rfl)
end
section
open Go Go.Proofs
def Xeq:List (Nat×TyRow):=[ty3,ty9,Xcu,Xal,XiA,ty48,ty96,W0,XgX,XiQ]
theorem Xc6:B8 Tryz.prog Xeq:=B8.of (by kernel_rfl)
theorem Xg7:Setup Tryz.prog Xeq:=⟨Xc6,mixed⟩
def Cx(base:Int)(text:ByteArray):List TOp:=[⟨2,Co base,tx [],tx []⟩,⟨3,Co base,tx [],text⟩,⟨4,Co base,tx [],tx []⟩,⟨5,Co base,A0 base,tx []⟩,⟨6,tx [],tx [],tx []⟩]
theorem Km{α:Type}{p:α→Bool}{l:List α}{k:Nat}(h:k<l.length):(l.take (k+1)).filter p=(l.take k).filter p++(if p l[k]then[l[k]]else[]):=by
 rw[List.take_succ_eq_append_getElem h,List.filter_append,List.filter_cons,List.filter_nil]
variable {base:Int} {text:ByteArray} {o:List TOp} {xo:List (List D)}
theorem Xf9(hr:Cx base text=o)(ho:o.map eOp=xo):Fn Tryz.prog 124 [I base,S text] [] ⟨.d (.row 4 xo),[],[]⟩:=by
 refine Fn.go Xg7 Tryz.func124 fun P hP Q hQ=>?_
 conv=>cbv
 generalize aa:Co base=r1
 refine .dd hP (XfQ aa) ?_
 conv=>cbv
 generalize ab:A0 base=r2
 refine .dd hP (Mc ab) ?_
 conv=>cbv
 have e:[(⟨2,r1,tx [],tx []⟩:TOp),(⟨3,r1,tx [],text⟩:TOp),(⟨4,r1,tx [],tx []⟩:TOp),(⟨5,r1,r2,tx []⟩:TOp),(⟨6,tx [],tx [],tx []⟩:TOp)]=Cx base text:=(by unfold Cx;rw[aa,ab])
 rw[hr]at e
 subst e
 exact hQ _ _ (.r rfl rfl rfl (by rw[←ho];rfl))
theorem Xfk(hr:Cx base text=o)(ho:o.map eOp=xo):Fn Tryz.prog 113 [I base,S text] [] ⟨.d (.row 4 xo),[],[]⟩:=by
 refine Fn.go Xg7 Tryz.func113 fun P hP Q hQ=>?_
 conv=>cbv
 generalize aa:Co base=r1
 refine .dd hP (XfM aa) ?_
 conv=>cbv
 generalize ab:A0 base=r2
 refine .dd hP (Mw ab) ?_
 conv=>cbv
 have e:[(⟨2,r1,tx [],tx []⟩:TOp),(⟨3,r1,tx [],text⟩:TOp),(⟨4,r1,tx [],tx []⟩:TOp),(⟨5,r1,r2,tx []⟩:TOp),(⟨6,tx [],tx [],tx []⟩:TOp)]=Cx base text:=(by unfold Cx;rw[aa,ab])
 rw[hr]at e
 subst e
 exact hQ _ _ (.r rfl rfl rfl (by rw[←ho];rfl))
end
section
open Go Go.Proofs
def XbJ:List (Nat×TyRow):=[ty3,ty5,ty9,Xle,XiA]
theorem Xci:B8 Tryz.prog XbJ:=B8.of (by kernel_rfl)
theorem Rn:Setup Tryz.prog XbJ:=⟨Xci,mixed⟩
def fig(x:Int):UInt8:=UInt8.ofNat (if x<10 then 48+x.toNat else 87+x.toNat)
def Ff(x:Int):Int:=(if x<10 then 48+x else 97+x - 10)% 256
theorem Xgz{x:Int}(h:0≤x∧x<16):((fig x).toNat:Int)=Ff x:=by
 unfold fig Ff
 split
 ·rw[UInt8.toNat_ofNat',Nat.mod_eq_of_lt (by omega)];omega
 ·rw[UInt8.toNat_ofNat',Nat.mod_eq_of_lt (by omega)];omega
theorem Xe4{x r:Int}(hr:Ff x=r)(h:0≤x∧x<16):[D.sc (.int .u8 r)]=cB (fig x):=by
 show _=[D.sc (.int .u8 ((fig x).toNat:Int))]
 rw[Xgz h,hr]
theorem fig10(n:Nat):fig ((n% 10:Nat):Int)=UInt8.ofNat (48+n% 10):=by
 unfold fig
 rw[if_pos (by omega),Int.toNat_natCast]
theorem H9:∀(k u:Nat),u<10^ (k+1)→1≤(Lib.decDigits u).length∧(Lib.decDigits u).length≤k+1
 |0,u,h=>by rw[Lib.decDigits,dif_pos (by simpa using h)];simp
 |k+1,u,h=>by
  by_cases hn:u<10
  ·rw[Lib.decDigits,dif_pos hn];simp
  ·rw[Lib.decDigits,dif_neg hn]
   have:=H9 k (u/10) (by rw[Nat.pow_succ]at h;omega)
   simp;omega
def XgP(n:Nat):List UInt8:=if n=0 then[]else Lib.decDigits n
theorem Qt{n:Nat}(h:n≠0):XgP n=XgP (n/10)++[fig ((n% 10:Nat):Int)]:=by
 unfold XgP
 rw[if_neg h,Lib.decDigits,fig10]
 split
 ·rw[if_pos (by omega),Nat.mod_eq_of_lt (by omega)];rfl
 ·rw[if_neg (by omega)]
theorem Xeh{u:Nat}(h:u≤9223372036854775808):(XgP u).length≤19:=by
 unfold XgP
 split
 ·simp
 ·exact(H9 18 u (by omega)).2
abbrev Xae(n:Int):Prop:=-9223372036854775808≤n∧n≤9223372036854775807
def Ci(n:Int):ByteArray:=tx (Lib.itoa n)
def XlR(n:Int):ByteArray:=Ci n
theorem Xh7(n:Int)(h:n≠0):Lib.itoa n=(if n<0 then[45]else[])++XgP n.natAbs:=by
 unfold Lib.itoa XgP
 rw[if_neg (show¬n.natAbs=0 by omega)]
 split
 ·rfl
 ·rw[show n.toNat=n.natAbs by omega];rfl
theorem XjG{n:Int}(h:Xae n):1≤(Lib.itoa n).length∧(Lib.itoa n).length≤20:=by
 unfold Xae at h
 unfold Lib.itoa
 split
 ·have:=H9 18 n.natAbs (by omega)
  simp;omega
 ·have:=H9 18 n.toNat (by omega)
  omega
theorem Ss{n:Int}{o:ByteArray}(e:Ci n=o)(h:Xae n):1≤o.size∧o.size≤20:=by
 rw[←e]
 unfold Ci
 rw[B3]
 exact XjG h
theorem ArW.quoT{K:Int→Prop}{a:Int}(h:∀v,v=a.tdiv 10→K v)(hr: -9223372036854775808≤a∧a<9223372036854775808:=by omega):ArW .quo .i64 .i64 a 10 K:=by
 refine⟨a.tdiv 10,?_,h _ rfl⟩
 show(if(10:Int)=0 then none else some (Value.int .i64 (IntKind.i64.wrap (a.tdiv 10))))=_
 rw[if_neg (by decide),Nc]
 rcases Int.le_total 0 a with h0|h0
 ·rw[Int.tdiv_eq_ediv_of_nonneg h0];omega
 ·have:a.tdiv 10= -((-a)/10):=by rw[←Int.tdiv_eq_ediv_of_nonneg (by omega),Int.neg_tdiv];omega
  omega
theorem ArW.remT{K:Int→Prop}{k:IntKind}{a:Int}(h:∀v,v=a.tmod 10→K v):ArW .rem k k a 10 K:=by
 refine⟨a.tmod 10,?_,h _ rfl⟩
 show(if k=k then(if(10:Int)=0 then none else some (Value.int k (a.tmod 10)))else none)=_
 rw[if_pos rfl,if_neg (by decide)]
theorem Xlv{a:Int}{q:Nat}(h:a= -(q:Int)):a.tdiv 10= -((q/10:Nat):Int):=by
 subst h
 rw[Int.neg_tdiv,Int.tdiv_eq_ediv_of_nonneg (by omega)]
 omega
theorem Xlw{a:Int}{q:Nat}(h:a= -(q:Int)):a.tmod 10= -((q% 10:Nat):Int):=by
 subst h
 rw[Int.neg_tmod,Int.tmod_eq_emod_of_nonneg (by omega)]
 omega
theorem Xme{a:Int}{q:Nat}(h:a=(q:Int)):a.tdiv 10=((q/10:Nat):Int):=by
 subst h
 rw[Int.tdiv_eq_ediv_of_nonneg (by omega)]
 omega
theorem Xlm{a:Int}{q:Nat}(h:a=(q:Int)):a.tmod 10=((q% 10:Nat):Int):=by
 subst h
 rw[Int.tmod_eq_emod_of_nonneg (by omega)]
 omega
variable {n:Int} {o:ByteArray}
theorem Wy(hn:Xae n)(hr:XlR n=o):Fn Tryz.prog 242 [I n] [] ⟨S o,[],[]⟩:=by
 refine⟨Fg Tryz.func242 rfl rfl,CallOk.ofCallsG fun E vs hS hG hA=>?_⟩
 obtain⟨u,rfl,h1⟩:=XkK hA
 rw[P1 h1]
 have ht:=XkH hG
 refine(Tryz.strconv_Itoa n hn.1 hn.2 E.w ht).mono ?_
 rintro e w' ⟨rfl,k,os,rfl⟩
 exact⟨_,rfl,Lib.below_grow _ _ (Nat.le_refl _) k os,by rw[←hr];exact .sc _ rfl⟩
theorem Mq{x:Int}{o:Int}(hx:0≤x∧x<16)(hr:Ff x=o):Fn Tryz.prog 189 [I x] [] ⟨.d (.sc (.int .u8 o)),[],[]⟩:=by
 refine Fn.go Rn Tryz.func189 fun P hP Q hQ=>?_
 conv=>cbv
 refine .lss (fun h1=>?_) fun h1=>?_
 conv=>cbv
 refine .add fun v2 aa=>?_
 conv=>cbv
 refine .go fun v3 ab=>?_
 conv=>cbv
 have e:v3=Ff x:=(by rw[ab,Ln,aa];unfold Ff;rw[if_pos (by omega)])
 rw[hr]at e
 subst e
 exact hQ _ _ (.i rfl rfl)
 conv=>cbv
 refine .add fun v2 aa=>?_
 conv=>cbv
 refine .sub fun v3 ab=>?_
 conv=>cbv
 refine .go fun v4 ac=>?_
 conv=>cbv
 have e:v4=Ff x:=(by rw[ac,Ln,ab,aa];unfold Ff;rw[if_neg (by omega)])
 rw[hr]at e
 subst e
 exact hQ _ _ (.i rfl rfl)
theorem XbX(hn:Xae n)(hr:Ci n=o):Fn Tryz.prog 178 [I n] [] ⟨S o,[],[]⟩:=by
 refine Fn.go Rn Tryz.func178 fun P hP Q hQ=>?_
 conv=>cbv
 generalize aa:XlR n=r1
 refine .dd hP (Wy hn aa) ?_
 conv=>cbv
 have e:r1=Ci n:=(by exact aa.symm)
 rw[hr]at e
 subst e
 exact hQ _ _ (.s rfl rfl)
theorem Xcr(hn:Xae n)(hr:Ci n=o):Fn Tryz.prog 101 [I n] [] ⟨S o,[],[]⟩:=by
 refine Fn.go Rn Tryz.func101 fun P hP Q hQ=>?_
 conv=>cbv
 refine .eql (fun h1=>?_) fun h1=>?_
 conv=>cbv
 have e:(tx [48])=Ci n:=(by unfold Ci;rw[h1,show Lib.itoa 0=[48]by unfold Lib.itoa;rw[if_neg (by decide),Lib.decDigits];rfl])
 rw[hr]at e
 subst e
 exact hQ _ _ (.s rfl rfl)
 conv=>cbv
 refine .lss (fun h2=>?_) fun h2=>?_
 conv=>cbv
 refine LoopW.lp (κ:=Int×ByteArray) Rn hP [] [3] (fun(i0,s4)=>[(0,I i0),(4,S s4)]) (fun(i0,s4)=>[])
  (fun(i0,s4)=>∃(q:Nat) (w:List UInt8),s4=tx w∧XgP n.natAbs=XgP q++w∧q≤n.natAbs∧(n<0→i0= -(q:Int))∧(0≤n→i0=(q:Int)))
  (fun(i0,s4)=>i0.natAbs) (n,tx []) ⟨n.natAbs,[],rfl,by simp,by omega,by omega,by omega⟩ ⟨rfl,rfl,trivial⟩ rfl ?_
 rintro⟨i0,s4⟩ J ⟨q,w,aa,hw,hq,hiN,hiP⟩ hJ
 have hwl:=congrArg List.length hw
 rw[List.length_append]at hwl
 have hdl:=Xeh (u:=n.natAbs) (by unfold Xae at hn;omega)
 have ai:s4.size=w.length:=by rw[aa,B3]
 have et:(n<0→i0.tdiv 10= -((q/10:Nat):Int))∧(0≤n→i0.tdiv 10=((q/10:Nat):Int)):=⟨fun h=>Xlv (hiN h),fun h=>Xme (hiP h)⟩
 have em:(n<0→i0.tmod 10= -((q% 10:Nat):Int))∧(0≤n→i0.tmod 10=((q% 10:Nat):Int)):=⟨fun h=>Xlw (hiN h),fun h=>Xlm (hiP h)⟩
 have hn_:=hn
 unfold Xae at hn_
 conv=>cbv
 refine .neq (fun h3=>?_) fun h3=>?_
 conv=>cbv
 refine .remT fun v4 ak=>?_
 conv=>cbv
 refine .lss (fun h5=>?_) fun h5=>?_
 conv=>cbv
 refine .go fun v6 al=>?_
 conv=>cbv
 generalize ad:Ff v6=r7
 refine .dd hP (Mq (by omega) ad) ?_
 conv=>cbv
 refine .go (l:=[fig ((q% 10:Nat):Int)]) (by show[cB (fig _)]=_;rw[show((q% 10:Nat):Int)=v6 by omega,←Xe4 ad (by omega)]) (hn:=rfl) fun s8 ab=>?_
 conv=>cbv
 have ag:s8.size=1:=by rw[ab];rfl
 refine .go fun s9 ae am=>?_
 conv=>cbv
 refine .quoT fun ah aj=>?_
 conv=>cbv
 exact .go [] (ah,s9) (hJ _ ⟨q/10,fig ((q% 10:Nat):Int)::w,by first|(rw[ae,ab,aa,D8];rfl)|(rw[ab,ac,aa,D8];rfl),by rw[hw,Qt (show q≠0 by omega),List.append_assoc];rfl,by omega,by omega,by omega⟩ mlt)
 conv=>cbv
 generalize af:Ff v4=r6
 refine .dd hP (Mq (by omega) af) ?_
 conv=>cbv
 refine .go (l:=[fig ((q% 10:Nat):Int)]) (by show[cB (fig _)]=_;rw[show((q% 10:Nat):Int)=v4 by omega,←Xe4 af (by omega)]) (hn:=rfl) fun s7 ac=>?_
 conv=>cbv
 have an:s7.size=1:=by rw[ac];rfl
 refine .go fun s8 ab ag=>?_
 conv=>cbv
 refine .quoT fun v9 ao=>?_
 conv=>cbv
 exact .go [] (v9,s8) (hJ _ ⟨q/10,fig ((q% 10:Nat):Int)::w,by first|(rw[ae,ab,aa,D8];rfl)|(rw[ab,ac,aa,D8];rfl),by rw[hw,Qt (show q≠0 by omega),List.append_assoc];rfl,by omega,by omega,by omega⟩ mlt)
 conv=>cbv
 refine .litL 1 fun s4 aa ai=>?_
 conv=>cbv
 have e:s4=Ci n:=(by unfold Ci;rw[Xh7 n h1,if_pos h2,hw,show q=0 by omega,aa];rename_i hs4_ _;rw[hs4_];show tx [45]++tx _=_;rw[D8];rfl)
 rw[hr]at e
 subst e
 exact hQ _ _ (.s rfl rfl)
 conv=>cbv
 refine LoopW.lp (κ:=Int×ByteArray) Rn hP [] [3] (fun(i0,s4)=>[(0,I i0),(4,S s4)]) (fun(i0,s4)=>[])
  (fun(i0,s4)=>∃(q:Nat) (w:List UInt8),s4=tx w∧XgP n.natAbs=XgP q++w∧q≤n.natAbs∧(n<0→i0= -(q:Int))∧(0≤n→i0=(q:Int)))
  (fun(i0,s4)=>i0.natAbs) (n,tx []) ⟨n.natAbs,[],rfl,by simp,by omega,by omega,by omega⟩ ⟨rfl,rfl,trivial⟩ rfl ?_
 rintro⟨i0,s4⟩ J ⟨q,w,aa,hw,hq,hiN,hiP⟩ hJ
 have hwl:=congrArg List.length hw
 rw[List.length_append]at hwl
 have hdl:=Xeh (u:=n.natAbs) (by unfold Xae at hn;omega)
 have ai:s4.size=w.length:=by rw[aa,B3]
 have et:(n<0→i0.tdiv 10= -((q/10:Nat):Int))∧(0≤n→i0.tdiv 10=((q/10:Nat):Int)):=⟨fun h=>Xlv (hiN h),fun h=>Xme (hiP h)⟩
 have em:(n<0→i0.tmod 10= -((q% 10:Nat):Int))∧(0≤n→i0.tmod 10=((q% 10:Nat):Int)):=⟨fun h=>Xlw (hiN h),fun h=>Xlm (hiP h)⟩
 have hn_:=hn
 unfold Xae at hn_
 conv=>cbv
 refine .neq (fun h3=>?_) fun h3=>?_
 conv=>cbv
 refine .remT fun v4 ak=>?_
 conv=>cbv
 refine .lss (fun h5=>?_) fun h5=>?_
 conv=>cbv
 refine .go fun v6 al=>?_
 conv=>cbv
 generalize ad:Ff v6=r7
 refine .dd hP (Mq (by omega) ad) ?_
 conv=>cbv
 refine .go (l:=[fig ((q% 10:Nat):Int)]) (by show[cB (fig _)]=_;rw[show((q% 10:Nat):Int)=v6 by omega,←Xe4 ad (by omega)]) (hn:=rfl) fun s8 ab=>?_
 conv=>cbv
 have ag:s8.size=1:=by rw[ab];rfl
 refine .go fun s9 ae am=>?_
 conv=>cbv
 refine .quoT fun ah aj=>?_
 conv=>cbv
 exact .go [] (ah,s9) (hJ _ ⟨q/10,fig ((q% 10:Nat):Int)::w,by first|(rw[ae,ab,aa,D8];rfl)|(rw[ab,ac,aa,D8];rfl),by rw[hw,Qt (show q≠0 by omega),List.append_assoc];rfl,by omega,by omega,by omega⟩ mlt)
 conv=>cbv
 generalize af:Ff v4=r6
 refine .dd hP (Mq (by omega) af) ?_
 conv=>cbv
 refine .go (l:=[fig ((q% 10:Nat):Int)]) (by show[cB (fig _)]=_;rw[show((q% 10:Nat):Int)=v4 by omega,←Xe4 af (by omega)]) (hn:=rfl) fun s7 ac=>?_
 conv=>cbv
 have an:s7.size=1:=by rw[ac];rfl
 refine .go fun s8 ab ag=>?_
 conv=>cbv
 refine .quoT fun v9 ao=>?_
 conv=>cbv
 exact .go [] (v9,s8) (hJ _ ⟨q/10,fig ((q% 10:Nat):Int)::w,by first|(rw[ae,ab,aa,D8];rfl)|(rw[ab,ac,aa,D8];rfl),by rw[hw,Qt (show q≠0 by omega),List.append_assoc];rfl,by omega,by omega,by omega⟩ mlt)
 conv=>cbv
 have e:s4=Ci n:=(by unfold Ci;rw[Xh7 n h1,if_neg (by omega),hw,show q=0 by omega,aa];rfl)
 rw[hr]at e
 subst e
 exact hQ _ _ (.s rfl rfl)
end
section
open Go Go.Proofs
end
section
open Go Go.Proofs
open Go.Lib
open Go.RowKit
abbrev zE:Value:=.agg #[.string ⟨#[]⟩,.int .i64 0]
theorem Xf4:∃i,Tryz.prog.info? 113=some i∧i.zero=some zE∧i.size=2∧i.bytes=24:=by
 have h:(Tryz.prog.info? 113).map (fun i=>(i.zero,i.size,i.bytes))=some (some zE,2,24):=by kernel_rfl
 obtain⟨i,hi,h⟩:=Option.map_eq_some_iff.1 h
 simp only[Prod.mk.injEq]at h
 exact⟨i,hi,h.1,h.2.1,h.2.2⟩
theorem V8{w:World}{b o:Nat}{vs:List Value}{N:Nat}(h:∀j,j<N→(w.cell? ⟨b,j,none⟩).isSome=true)(hle:o+vs.length≤N):∀j,j<N→((w.setCells b o vs).cell? ⟨b,j,none⟩).isSome=true:=
 fun j hj=>isSome_setCells b _ _ _ (fun t ht=>h _ (by omega)) _ (h _ hj)
theorem Xln(w:World)(ty b o c:Nat)(hc:∀j,j<2→(w.cell? ⟨b,o+j,none⟩).isSome=true)(hf:∀j,j<2→w.frozen? ⟨b,o+j,none⟩=false):
  (Builtin.clear_ #[25] ty #[.slice (some ⟨b,o,none⟩) 1 c]).run Tryz.prog w= .ok (.tuple #[]) (w.setCells b o [.string ⟨#[]⟩,.int .i64 0]):=by
 obtain⟨i,hi,hz,hs,_⟩:=Xf4
 have hst:=run_storeCells_cells (P:=Tryz.prog) b o [.string ⟨#[]⟩,.int .i64 0] 0 w (by simpa using hc) (by simpa using hf) (by intro v hv;simp at hv;rcases hv with rfl|rfl<;>rfl)
 simp only[Nat.add_zero]at hst
 have hzc:(Builtin.zeroCells zE.cells 1).toList=[.string ⟨#[]⟩,.int .i64 0]:=by simp[Builtin.zeroCells,Value.cells,List.range_succ]
 simp[Builtin.clear_,run_underlying Tryz.underlying25,zeroValue,typeInfo,hi,hz,hzc,hst]
theorem delE(b n cap i j:Nat)(w:World)(cs:List Value)(hi:i<n)(hj:j=i+1)(hnc:n≤cap)(hm:n≤4000000000)(hcl:cs.length=n*2)(h1c:∀u∈cs,u.oneCell'=true)
  (hcs:∀j v,cs[j]? =some v→w.cell? ⟨b,j,none⟩=some v)(hfz:∀j,j<n*2→w.frozen? ⟨b,j,none⟩=false):
  Calls Tryz.prog 333 #[.slice (some ⟨b,0,none⟩) n cap,.int .i64 i,.int .i64 j] w fun e w'=>e= .returned (.slice (some ⟨b,0,none⟩) (n - 1) cap)∧
   w'=(w.drew.setCells b (i*2) (cs.drop (j*2))).setCells b ((n - 1)*2) [.string ⟨#[]⟩,.int .i64 0]:=by
 obtain⟨i0,aa,ac,ab,ad⟩:=Xf4
 have hlen:(cs.drop (j*2)).length=(n - j)*2:=by rw[List.length_drop];omega
 obtain⟨A,hA,hsrc⟩:∃A:Addr,(if cap=j then some (⟨b,0,none⟩:Addr)else some ⟨b,j*2,none⟩)=some A∧Hid (∀t u,(cs.drop (j*2))[t]? =some u→w.drew.cell? (A.add t)=some u):=by
  by_cases h:cap=j
  ·refine⟨⟨b,0,none⟩,by simp[h],fun t u hu=>?_⟩
   have h0:(cs.drop (j*2)).length=0:=by omega
   rw[List.length_eq_zero_iff.1 h0]at hu
   simp at hu
  ·refine⟨⟨b,j*2,none⟩,by simp[h],fun t u hu=>?_⟩
   rw[List.getElem?_drop]at hu
   rw[Addr.add_lit]
   exact hcs _ _ hu
 have s1:Hid ((cs.drop (j*2)).length=(n - j)*2):=hlen
 have s2:Hid (∀u∈cs.drop (j*2),u.oneCell'=true):=fun u hu=>h1c u (List.mem_of_mem_drop hu)
 have hsome:∀j,j<n*2→(w.cell? ⟨b,j,none⟩).isSome=true:=fun j hj=>by rw[hcs j _ (List.getElem?_eq_getElem (by omega))];rfl
 have s3:Hid (∀t,t<(cs.drop (j*2)).length→(w.drew.cell? ⟨b,0+i*2+t,none⟩).isSome=true∧w.drew.frozen? ⟨b,0+i*2+t,none⟩=false):=by
  intro t ht
  exact⟨hsome _ (by omega),hfz _ (by omega)⟩
 obtain⟨W1,hW1⟩:∃W1,W1=w.drew.setCells b (0+i*2) (cs.drop (j*2)):=⟨_,rfl⟩
 have hcl:∀ty,(Builtin.clear_ #[25] ty #[.slice (some ⟨b,(i+(n - j))*2,none⟩) (n - (i+(n - j))) (cap - (i+(n - j)))]).run Tryz.prog W1= .ok (.tuple #[]) (W1.setCells b ((n - 1)*2) [.string ⟨#[]⟩,.int .i64 0]):=fun ty=>by
  rw[show n - (i+(n - j))=1 by omega,show i+(n - j)=n - 1 by omega]
  refine Xln W1 ty b ((n - 1)*2) _ (fun k hk=>?_) (fun k hk=>?_)
  ·rw[hW1]
   exact V8 (w:=w.drew) hsome (by omega) _ (by omega)
  ·rw[hW1,World.frozen?_setCells]
   exact hfz _ (by omega)
 have hW:Hid (W1=w.drew.setCells b (0+i*2) (cs.drop (j*2))):=hW1
 have hic:i≤cap:=by omega
 have hjc:j≤cap:=by omega
 have hij:i≤j:=by omega
 have hjn:j≤n:=by omega
 have hne:¬(i:Int)=(j:Int):=by omega
 have mixed:Tryz.prog.follows .mixedOrders=true:=by kernel_rfl
 have hjH:Hid (j=i+1):=hj
 have hjl:i<j:=by omega
 clear hj hW1 hlen hsome hcs hfz
 go_enter Tryz.func333,Tryz.ntmps333
 go_wp2_with fail
 go_region_law_o (refine step_append_room rfl (.tmp 22) (.tmp 25) 25 rfl 113 i0 2 Tryz.underlying25 aa ab b 0 i cap (by simp[Act.eval,Act.put]) A (n - j) (cap - j) (cs.drop (j*2)) (by simp[Act.eval,Act.put]) s1.out hsrc.out s2.out (by omega) s3.out ?_;rw[←hW.out])
 go_wp2
 go_ret
 refine⟨by have:=hjH.out;rw[show n - 1=i+(n - j)by omega];rfl,?_⟩
 rw[hW.out,Nat.zero_add]
theorem H4{P:Program}(w:World)(dT sT ty elem sz:TypeId)(b o dLen dCap:Nat)(a:Addr)(Xk3 sCap:Nat)(cs:List Value)
  (hu:P.underlying dT=some (.slice elem))(hs:(P.info? elem).map (·.size)=some sz)(hn:cs.length=Nat.min Xk3 dLen*sz)
  (hsrc:∀j v,cs[j]? =some v→w.cell? (a.add j)=some v)(hc:∀j,j<cs.length→(w.cell? ⟨b,o+j,none⟩).isSome=true)(hf:∀j,j<cs.length→w.frozen? ⟨b,o+j,none⟩=false)(h1:∀v∈cs,v.oneCell'=true):
  (Builtin.copy_ #[dT,sT] ty #[.slice (some ⟨b,o,none⟩) dLen dCap,.slice (some a) Xk3 sCap]).run P w= .ok (goInt (Nat.min Xk3 dLen)) (w.setCells b o cs):=by
 have hl:=run_loadCells_list (P:=P) w a cs hsrc
 have hst:=run_storeCells_cells (P:=P) b o cs 0 w (by simpa using hc) (by simpa using hf) h1
 cases hq:P.info? elem with
 |none=>simp[hq]at hs
 |some i=>
  have hi:i.size=sz:=by simpa[hq]using hs
  simp[Builtin.copy_,run_underlying hu,Builtin.lenOf,Builtin.firstCells,sizeOf,typeInfo,hq,hi,←hn,hl,hst]
theorem szE:(Tryz.prog.info? 113).map (·.size)=some 2:=by kernel_rfl
theorem Xfy(b n c i vb vc:Nat)(cs vs:List Value)(w:World)(hi:i<n)(hroom:n+1≤c)(hm:n≤4000000000)(hvb:vb≠b)
  (hcl:cs.length=n*2)(hvl:vs.length=2)
  (hcs:∀j v,cs[j]? =some v→w.cell? ⟨b,j,none⟩=some v)(hsp:∀j,j<(n+1)*2→(w.cell? ⟨b,j,none⟩).isSome=true)(hfz:∀j,j<(n+1)*2→w.frozen? ⟨b,j,none⟩=false)
  (hvs:∀j v,vs[j]? =some v→w.cell? ⟨vb,j,none⟩=some v)(h1c:∀v∈cs,v.oneCell'=true)(h1v:∀v∈vs,v.oneCell'=true)
  (tA tB:TypeId)(kA kB:Nat)(hsa:w.shape? vb=some (tA,kA))(hsb:w.shape? b=some (tB,kB))(hkB:kB≠0)(hfa:w.frozen? ⟨vb,0,none⟩=false)(hfe:w.frozen? ⟨vb,kA,none⟩=false):
  Calls Tryz.prog 332 #[.slice (some ⟨b,0,none⟩) n c,.int .i64 i,.slice (some ⟨vb,0,none⟩) 1 vc] w fun e w'=>
   e= .returned (.slice (some ⟨b,0,none⟩) (n+1) c)∧w'=(w.drew.setCells b ((i+1)*2) (cs.drop (i*2))).setCells b (i*2) vs:=by
 have ab:¬((i:Int)=(n:Int)):=by omega
 have hsz:=szE
 obtain⟨i0,aa,ac,hzs,hzb⟩:=Xf4
 have hszo:∀w,(Go.sizeOf 113).run Tryz.prog w= .ok 2 w:=fun w=>by simp[Go.sizeOf,typeInfo,aa,hzs]
 have hov:∀lb cb,(callFunc 344 #[.slice (some ⟨vb,0,none⟩) 1 vc,.slice (some ⟨b,(i+1)*2,none⟩) lb cb]).run Tryz.prog w= .ok (.value (.bool false)) w:=fun lb cb=>by
  rw[run_callFunc_extern Tryz.func344 (by kernel_rfl) (by kernel_rfl) (by kernel_rfl) (e:=Extern.SlicesOverlaps.overlaps #[25,25] #[4]) (by kernel_rfl),
   Lib.run_overlaps_apart w 25 4 113 Tryz.underlying25 2 hszo ⟨vb,0,none⟩ ⟨b,(i+1)*2,none⟩ 1 vc lb cb hvb tA tB kA kB hsa hsb hkB hfa hfe]
  rfl
 have hdl:(cs.drop (i*2)).length=(n - i)*2:=by rw[List.length_drop,hcl];omega
 have mixed:Tryz.prog.follows .mixedOrders=true:=by kernel_rfl
 have ad:IntKind.i64.wrap ((i:Int)+1)=(i:Int)+1:=by rw[IntKind.wrap_i64];omega
 have ae:(0:Int)≤(i:Int)+1:=by omega
 have hin:i≤n:=by omega
 have htn:((i:Int)+1).toNat=i+1:=by omega
 have hb2:¬(c=i+1):=by omega
 have af:(i:Int)≤(n:Int)+1:=by omega
 have ag:¬(c=i):=by omega
 have hcp1:∀ty dc sc,(Builtin.copy_ #[25,25] ty #[.slice (some ⟨b,(i+1)*2,none⟩) (n - i) dc,.slice (some ⟨b,i*2,none⟩) (n+1 - i) sc]).run Tryz.prog w.drew= .ok (goInt (Nat.min (n+1 - i) (n - i))) (w.drew.setCells b ((i+1)*2) (cs.drop (i*2))):=fun ty dc sc=>
  H4 w.drew _ _ ty 113 2 b ((i+1)*2) (n - i) dc ⟨b,i*2,none⟩ (n+1 - i) sc (cs.drop (i*2)) Tryz.underlying25 hsz (by rw[hdl];simp only[Nat.min_def];split<;>omega)
   (fun j v hj=>by rw[Addr.add_lit];exact hcs (i*2+j) v (by rwa[List.getElem?_drop]at hj))
   (fun j hj=>hsp _ (by omega)) (fun j hj=>hfz _ (by omega)) (fun v hv=>h1c v (List.mem_of_mem_drop hv))
 obtain⟨W1,hW1⟩:∃W1,W1=w.drew.setCells b ((i+1)*2) (cs.drop (i*2)):=⟨_,rfl⟩
 have hsp1:∀k,k<(n+1)*2→(W1.cell? ⟨b,k,none⟩).isSome=true:=fun k hk=>by
  rw[hW1]
  exact V8 (w:=w.drew) hsp (by omega) _ hk
 have hcp2:∀(W:World),(∀x,W.cell? x=W1.cell? x)→(∀x,W.frozen? x=W1.frozen? x)→∀ty dc,(Builtin.copy_ #[25,25] ty #[.slice (some ⟨b,i*2,none⟩) (n+1 - i) dc,.slice (some ⟨vb,0,none⟩) 1 vc]).run Tryz.prog W= .ok (goInt (Nat.min 1 (n+1 - i))) (W.setCells b (i*2) vs):=fun W hWc hWf ty dc=>
  H4 W _ _ ty 113 2 b (i*2) (n+1 - i) dc ⟨vb,0,none⟩ 1 vc vs Tryz.underlying25 hsz (by rw[hvl];simp only[Nat.min_def];split<;>omega)
   (fun j v hj=>by
    rw[Addr.add_lit,hWc,hW1,World.cell?_setCells_out b _ _ _ _ (fun h _=>absurd h hvb),Nat.zero_add]
    exact hvs j v hj)
   (fun j hj=>by rw[hWc];exact hsp1 _ (by omega)) (fun j hj=>by rw[hWf,hW1,World.frozen?_setCells];exact hfz _ (by omega)) h1v
 rw[←hW1]at hcp1
 go_enter Tryz.func332,Tryz.ntmps332
 go_wp2_with (simp only[hov])
 go_region_law_o (refine step_copy_runI rfl _ _ 25 25 rfl _ _ (by simp[Act.eval,Act.put]) (by simp[Act.eval,Act.put]) (hcp1 _ _ _) ?_)
 go_wp2_with (at_builtin;refine wpList_copy_runI _ rfl _ _ 25 25 rfl _ _ rfl rfl (hcp2 _ (fun _=>rfl) (fun _=>rfl) _ _) ?_)
 go_ret
 first|exact⟨rfl,rfl⟩|exact⟨rfl,by rw[hW1]⟩
theorem Xmf{need old:Nat}(h:old<need)(hb:need≤1000000000*8):Builtin.nextslicecap need old*24≤281474976710656:=by
 have:=Yk h
 have:=Nat.mul_le_mul_right 24 this
 omega
theorem Z0(b n c vb vc:Nat)(vs:List Value)(w:World)(hroom:n+1≤c)(hm:n≤4000000000)
  (hvl:vs.length=2)(hsp:∀j,j<2→(w.cell? ⟨b,n*2+j,none⟩).isSome=true)(hfz:∀j,j<2→w.frozen? ⟨b,n*2+j,none⟩=false)
  (hvs:∀j v,vs[j]? =some v→w.cell? ⟨vb,j,none⟩=some v)(h1v:∀v∈vs,v.oneCell'=true):
  Calls Tryz.prog 332 #[.slice (some ⟨b,0,none⟩) n c,.int .i64 n,.slice (some ⟨vb,0,none⟩) 1 vc] w fun e w'=>
   e= .returned (.slice (some ⟨b,0,none⟩) (n+1) c)∧w'=w.setCells b (n*2) vs:=by
 obtain⟨i0,aa,ab,hzs,hzb⟩:=Xf4
 have hsrc:Go.Src Tryz.prog i0.size 25 (.slice (some ⟨vb,0,none⟩) 1 vc) 1 vs w:=by
  rw[hzs]
  exact Go.Src.ofSlice w Tryz.underlying25 ⟨vb,0,none⟩ 1 vc vs (by omega) (fun j u hj=>by rw[Addr.add_lit,Nat.zero_add];exact hvs j u hj) h1v
 have hrun:∀ty,(Builtin.append_ #[25,25] ty #[.slice (some ⟨b,0,none⟩) n c,.slice (some ⟨vb,0,none⟩) 1 vc]).run Tryz.prog w= .ok (.slice (some ⟨b,0,none⟩) (n+1) c) (w.setCells b (n*2) vs):=fun ty=>by
  have h:=run_append_room_src w 25 25 ty 113 i0 Tryz.underlying25 aa b 0 n c _ 1 vs hsrc hroom (fun j hj=>by rw[hzs,Nat.zero_add];exact hsp j (by omega)) (fun j hj=>by rw[hzs,Nat.zero_add];exact hfz j (by omega))
  rw[hzs,Nat.zero_add]at h
  exact h
 go_enter Tryz.func332,Tryz.ntmps332
 go_wp2_with (at_builtin;refine Lib.wpList_append_run _ rfl _ _ _ _ rfl _ _ rfl rfl _ _ (hrun _) ?_)
 go_ret
 exact⟨rfl,rfl⟩
theorem Qe(base:Option Addr)(n c vb vc:Nat)(cs vs:List Value)(w:World)(hnc:n≤c)(hroom:c<n+1)(hbig:n≤4000000000)
  (hcl:cs.length=n*2)(hvl:vs.length=2)(hnil:base=none→n=0)
  (hcs:∀a,base=some a→∀j v,cs[j]? =some v→w.cell? (a.add j)=some v)
  (hvs:∀j v,vs[j]? =some v→w.cell? ⟨vb,j,none⟩=some v)(h1v:∀v∈vs,v.oneCell'=true):
  Calls Tryz.prog 332 #[.slice base n c,.int .i64 n,.slice (some ⟨vb,0,none⟩) 1 vc] w fun e w'=>
   e= .returned (.slice (some ⟨w.heap.size,0,none⟩) (n+1) (grownCap w (n+1) c 113))∧
   w'=w.drew.alloc (.cells ((cs++vs).toArray++Builtin.zeroCells zE.cells (grownCap w (n+1) c 113 - (n+1))) 113):=by
 obtain⟨i0,aa,ac,hzs,hzb⟩:=Xf4
 have hsrc:Go.Src Tryz.prog i0.size 25 (.slice (some ⟨vb,0,none⟩) 1 vc) 1 vs w:=by
  rw[hzs]
  exact Go.Src.ofSlice w Tryz.underlying25 ⟨vb,0,none⟩ 1 vc vs (by omega) (fun j u hj=>by rw[Addr.add_lit,Nat.zero_add];exact hvs j u hj) h1v
 have hold:(Builtin.firstCells i0.size n (.slice base n c)).run Tryz.prog w.drew= .ok cs.toArray w.drew:=by
  rw[hzs]
  cases base with
  |none=>
   have h0:=hnil rfl
   subst h0
   rw[List.length_eq_zero_iff.1 hcl]
   exact run_firstCells_none w.drew 2 0 0 c
  |some a=>exact run_firstCells_some w.drew 2 n a n c cs (by omega) (fun j v hj=>hcs a rfl j v hj)
 have hrun:∀ty,(Builtin.append_ #[25,25] ty #[.slice base n c,.slice (some ⟨vb,0,none⟩) 1 vc]).run Tryz.prog w=_:=fun ty=>
  run_append_grow_src w 25 25 ty 113 i0 _ Tryz.underlying25 aa ac base n c cs hold _ 1 vs hsrc hroom (by omega) (by rw[hzb];exact Xmf hroom (by omega))
 go_enter Tryz.func332,Tryz.ntmps332
 cases base with
 |none=>
  have h0:=hnil rfl
  subst h0
  go_wp2_with (at_builtin;refine Lib.wpList_append_run _ rfl _ _ _ _ rfl _ _ rfl rfl _ _ (hrun _) ?_)
  go_ret
  exact⟨rfl,rfl⟩
 |some a=>
  obtain⟨ab,ao,asp⟩:=a
  go_wp2_with (at_builtin;refine Lib.wpList_append_run _ rfl _ _ _ _ rfl _ _ rfl rfl _ _ (hrun _) ?_)
  all_goals (go_ret;exact⟨rfl,rfl⟩)
theorem Xhx(b n c i vb vc:Nat)(cs vs:List Value)(w:World)(hi:i<n)(hnc:n≤c)(hroom:c<n+1)(hbig:n≤4000000000)
  (hcl:cs.length=n*2)(hvl:vs.length=2)
  (hcs:∀j v,cs[j]? =some v→w.cell? ⟨b,j,none⟩=some v)
  (hvs:∀j v,vs[j]? =some v→w.cell? ⟨vb,j,none⟩=some v)(h1c:∀v∈cs,v.oneCell'=true)(h1v:∀v∈vs,v.oneCell'=true):
  Calls Tryz.prog 332 #[.slice (some ⟨b,0,none⟩) n c,.int .i64 i,.slice (some ⟨vb,0,none⟩) 1 vc] w fun e w'=>
   e= .returned (.slice (some ⟨w.heap.size,0,none⟩) (n+1) (grownCap w (n+1) c 113))∧
   w'=(((w.alloc (.cells ((cs.take (i*2)).toArray++Builtin.zeroCells zE.cells (n+1 - i)++Builtin.zeroCells zE.cells (grownCap w (n+1) c 113 - (n+1))) 113)).drew.setCells w.heap.size (i*2) vs).drew).setCells w.heap.size ((i+1)*2) (cs.drop (i*2)):=by
 have mixed:Tryz.prog.follows .mixedOrders=true:=by kernel_rfl
 obtain⟨i0,aa,ab,hzs,hzb⟩:=Xf4
 have ac:¬((i:Int)=(n:Int)):=by omega
 have ad:(c:Int)<(n:Int)+1:=by omega
 have hsz:=szE
 have hbw:b<w.heap.size:=block_lt_of_cell (hcs 0 _ (List.getElem?_eq_getElem (by omega)))
 have hvw:vb<w.heap.size:=block_lt_of_cell (hvs 0 _ (List.getElem?_eq_getElem (by omega)))
 have hkk:(n:Int)+1 - (i:Int)=((n+1 - i:Nat):Int):=by omega
 have hik:i+(n+1 - i)=n+1:=by omega
 have hold:(Builtin.firstCells i0.size i (.slice (some ⟨b,0,none⟩) i c)).run Tryz.prog w.drew= .ok (cs.take (i*2)).toArray w.drew:=by
  rw[hzs]
  exact run_firstCells_some w.drew 2 i ⟨b,0,none⟩ i c (cs.take (i*2)) (by rw[List.length_take];omega) (fun j v hj=>by
   rw[Addr.add_lit,Nat.zero_add]
   rw[List.getElem?_take]at hj
   split at hj
   ·exact hcs j v hj
   ·cases hj)
 have hrz:∀ty,(Builtin.append_ #[25,3] ty #[.slice (some ⟨b,0,none⟩) i c,.int .i64 ((n:Int)+1 - (i:Int))]).run Tryz.prog w=
   .ok (.slice (some ⟨w.heap.size,0,none⟩) (n+1) (grownCap w (n+1) c 113)) (w.drew.alloc (.cells ((cs.take (i*2)).toArray++Builtin.zeroCells zE.cells (n+1 - i)++Builtin.zeroCells zE.cells (grownCap w (n+1) c 113 - (n+1))) 113)):=fun ty=>by
  have h:=Lib.run_append_grow_zeros w 25 3 ty 113 i0 _ .i64 .i64 Tryz.underlying25 Tryz.underlying3 aa ab (some ⟨b,0,none⟩) i c (cs.take (i*2)) hold (n+1 - i) (by omega) (by omega) (by omega) (by omega) (by rw[hzb];omega) (by rw[hzb,hik];exact Xmf hroom (by omega))
  rw[hik]at h
  rw[hkk]
  exact h
 obtain⟨G,hG⟩:∃G,G=grownCap w (n+1) c 113:=⟨_,rfl⟩
 obtain⟨ROW,hROW⟩:∃ROW:Array Value,ROW=(cs.take (i*2)).toArray++Builtin.zeroCells zE.cells (n+1 - i)++Builtin.zeroCells zE.cells (G - (n+1)):=⟨_,rfl⟩
 rw[←hG]at hrz⊢
 rw[←hROW]at hrz⊢
 have hRl:(n+1)*2≤ROW.size:=by
  rw[hROW]
  simp[Builtin.zeroCells,Value.cells]
  omega
 obtain⟨W1,hW1⟩:∃W1,W1=w.drew.alloc (.cells ROW 113):=⟨_,rfl⟩
 rw[←hW1]at hrz
 have hN:∀j,j<(n+1)*2→(W1.cell? ⟨w.heap.size,j,none⟩).isSome=true:=fun j hj=>by
  rw[hW1,World.cell?_alloc_at (w:=w.drew) ROW _ w.heap.size j rfl,Array.getElem?_eq_getElem (by omega)];rfl
 have hNf:∀j,W1.frozen? ⟨w.heap.size,j,none⟩=false:=fun j=>by rw[hW1];exact World.frozen?_alloc_at (w:=w.drew) ROW _ w.heap.size j rfl
 have hOb:∀j v,w.cell? ⟨b,j,none⟩=some v→W1.cell? ⟨b,j,none⟩=some v:=fun j v h=>by rw[hW1,World.cell?_alloc_past (w:=w.drew) _ b j hbw];exact h
 have hOv:∀j v,w.cell? ⟨vb,j,none⟩=some v→W1.cell? ⟨vb,j,none⟩=some v:=fun j v h=>by rw[hW1,World.cell?_alloc_past (w:=w.drew) _ vb j hvw];exact h
 have hcpA:∀(W:World),(∀x,W.cell? x=W1.cell? x)→(∀x,W.frozen? x=W1.frozen? x)→∀ty dc,(Builtin.copy_ #[25,25] ty #[.slice (some ⟨w.heap.size,i*2,none⟩) (n+1 - i) dc,.slice (some ⟨vb,0,none⟩) 1 vc]).run Tryz.prog W= .ok (goInt (Nat.min 1 (n+1 - i))) (W.setCells w.heap.size (i*2) vs):=fun W hWc hWf ty dc=>
  H4 W _ _ ty 113 2 w.heap.size (i*2) (n+1 - i) dc ⟨vb,0,none⟩ 1 vc vs Tryz.underlying25 hsz (by rw[hvl];simp only[Nat.min_def];split<;>omega)
   (fun j v hj=>by rw[Addr.add_lit,hWc,Nat.zero_add];exact hOv _ v (hvs j v hj))
   (fun j hj=>by rw[hWc];exact hN _ (by omega)) (fun j hj=>by rw[hWf];exact hNf _) h1v
 have hGn:n+1≤G:=by rw[hG];exact grownCap_ge w _ _ _
 have hG63:G≤9223372036854775807:=by
  have:=grownCap_le_maxLen w (n+1) c 113 (by unfold maxLen;omega)
  rw[←hG]at this
  unfold maxLen at this
  omega
 have hGi:¬(G=i):=by omega
 have hGim:¬(G=i+1):=by omega
 have hci:¬(c=i):=by omega
 have hbN:b≠w.heap.size:=by omega
 have hdl:(cs.drop (i*2)).length=(n - i)*2:=by rw[List.length_drop,hcl];omega
 have hcpB:∀(W:World),(∀x,W.cell? x=(W1.setCells w.heap.size (i*2) vs).cell? x)→(∀x,W.frozen? x=(W1.setCells w.heap.size (i*2) vs).frozen? x)→∀ty dc sc,(Builtin.copy_ #[25,25] ty #[.slice (some ⟨w.heap.size,(i+1)*2,none⟩) (n - i) dc,.slice (some ⟨b,i*2,none⟩) (n - i) sc]).run Tryz.prog W= .ok (goInt (Nat.min (n - i) (n - i))) (W.setCells w.heap.size ((i+1)*2) (cs.drop (i*2))):=fun W hWc hWf ty dc sc=>
  H4 W _ _ ty 113 2 w.heap.size ((i+1)*2) (n - i) dc ⟨b,i*2,none⟩ (n - i) sc (cs.drop (i*2)) Tryz.underlying25 hsz (by rw[hdl];simp only[Nat.min_def];split<;>omega)
   (fun j v hj=>by
    rw[Addr.add_lit,hWc,World.cell?_setCells_out _ _ _ _ _ (fun h _=>absurd h hbN)]
    exact hOb _ v (hcs (i*2+j) v (by rwa[List.getElem?_drop]at hj)))
   (fun j hj=>by rw[hWc];exact V8 (w:=W1) hN (by omega) _ (by omega))
   (fun j hj=>by rw[hWf,World.frozen?_setCells];exact hNf _) (fun v hv=>h1c v (List.mem_of_mem_drop hv))
 subst hW1
 have hE1:∀x,((w.alloc (.cells ROW 113)).drew).cell? x=(w.drew.alloc (.cells ROW 113)).cell? x:=fun x=>rfl
 have hE2:∀x,((w.alloc (.cells ROW 113)).drew).frozen? x=(w.drew.alloc (.cells ROW 113)).frozen? x:=fun x=>rfl
 have hF1:∀x,(((w.alloc (.cells ROW 113)).drew.setCells w.heap.size (i*2) vs).drew).cell? x=((w.drew.alloc (.cells ROW 113)).setCells w.heap.size (i*2) vs).cell? x:=fun x=>rfl
 have hF2:∀x,(((w.alloc (.cells ROW 113)).drew.setCells w.heap.size (i*2) vs).drew).frozen? x=((w.drew.alloc (.cells ROW 113)).setCells w.heap.size (i*2) vs).frozen? x:=fun x=>rfl
 have ae:IntKind.i64.wrap ((i:Int)+1)=(i:Int)+1:=by rw[IntKind.wrap_i64];omega
 have af:(0:Int)≤(i:Int)+1:=by omega
 have hin:i≤n:=by omega
 have htn:((i:Int)+1).toNat=i+1:=by omega
 have ag:(i:Int)≤(n:Int):=by omega
 clear hkk hik hold hROW hG hRl
 go_enter Tryz.func332,Tryz.ntmps332
 go_wp2_with (first
  |(at_builtin;refine Lib.wpList_append_run _ rfl _ _ _ _ rfl _ _ rfl rfl _ _ (hrz _) ?_)
  |(at_builtin;refine wpList_copy_runI _ rfl _ _ 25 25 rfl _ _ rfl rfl (hcpA _ hE1 hE2 _ _) ?_)
  |(at_builtin;refine wpList_copy_runI _ rfl _ _ 25 25 rfl _ _ rfl rfl (hcpB _ (fun _=>rfl) (fun _=>rfl) _ _ _) ?_))
 go_region_law_o (refine step_copy_runI rfl _ _ 25 25 rfl (.slice (some ⟨w.heap.size,(i+1)*2,none⟩) (n - i) (G - (i+1))) (.slice (some ⟨b,i*2,none⟩) (n - i) (c - i)) (by simp[Act.eval,Act.put]) (by simp[Act.eval,Act.put]) (hcpB _ hF1 hF2 3 (G - (i+1)) (c - i)) ?_)
 go_wp2
 go_ret
 exact⟨rfl,rfl⟩
theorem Wrote.trans{w w1 w2:World}{b:Nat}{cs c1 c2:Array Value}{t:TypeId}{fr:Nat×Nat}(h:Wrote w w1 b cs c1 t fr)(k:Wrote w1 w2 b c1 c2 t fr):Wrote w w2 b cs c2 t fr:=
 ⟨k.at_,k.size.trans h.size,fun x hx=>(k.others x hx).trans (h.others x hx),k.hsize.trans h.hsize,k.os.trans h.os,k.output.trans h.output,k.tape.trans h.tape⟩
theorem Wrote.ofDrew{w w1:World}{b:Nat}{cs c1:Array Value}{t:TypeId}{fr:Nat×Nat}(h:Wrote w.drew w1 b cs c1 t fr):Wrote w w1 b cs c1 t fr:=
 ⟨h.at_,h.size,h.others,h.hsize,h.os,h.output,h.tape⟩
theorem Xiu{c:Ctx}{E:Env}(hM:Mem c E){r n sz:Nat}{xs:List (List D)}{v:Value}(hr:E.rt r=some (.row sz false xs))(hp:E.pres r)(hv:RelAV E (.ref r 0 n) v)(hn:n=xs.length)(hsz:0<sz):
  (n=0∧∃a,v= .slice a 0 0)∨∃b cap cs t fr,v= .slice (some ⟨b,0,none⟩) n cap∧E.β r=some b∧E.w.heap[b]? =some (.cells cs t fr)∧n≤cap∧cap*sz≤cs.size∧I1 cs.size fr∧Xaw sz fr∧(∀(i:Nat) x,xs[i]? =some x→x.length=sz)∧
   (∀(i:Nat) x (j:Nat) y,xs[i]? =some x→x[j]? =some y→∃u,cs[i*sz+j]? =some u∧RelD E.w E.S y u)∧
   (cs.toList.take (n*sz)).length=n*sz∧(∀(k:Nat),k<n*sz→(cs.toList.take (n*sz))[k]? =cs[k]?)∧(∀u∈cs.toList.take (n*sz),u.oneCell'=true):=by
 cases hv with
 |dref r off len v h1 ho=>rw[hr]at h1;cases h1
 |refz r off R sz0 a h1 hk h2=>exact .inl ⟨rfl,a,rfl⟩
 |ref r off len R sz0 b cap t0 N h1 hk h2 h3 h4 h5 h6=>
  rw[hr]at h1
  obtain rfl:=Option.some.inj h1
  simp only[Root.kind,Kind.row.injEq]at hk
  subst hk
  rcases hM.roots r _ hp hr with⟨hb',_⟩|⟨b',cs,t,fr,hb',hh,hxl,hxs,hxr,hfz⟩
  ·rw[h3]at hb';cases hb'
  rw[h3]at hb'
  obtain rfl:=Option.some.inj hb'
  rcases hfz with⟨hf,_⟩|⟨_,hnS,hfr⟩
  ·cases hf
  have hN:N=cs.size:=by
   unfold World.shape? at h4
   rw[hh]at h4
   exact(Prod.mk.inj (Option.some.inj h4)).2.symm
  subst hN
  rw[Nat.zero_add]at h6
  have hle:n*sz≤cs.size:=Nat.le_trans (Nat.mul_le_mul_right _ h5) h6
  have hget:∀(k:Nat),k<n*sz→(cs.toList.take (n*sz))[k]? =cs[k]? :=fun k hk=>by rw[List.getElem?_take,if_pos hk,Array.getElem?_toList]
  refine .inr ⟨b,cap,cs,t,fr,by rw[Nat.zero_mul],h3,hh,h5,h6,hfr.1,hfr.2,hxl,hxr,by rw[List.length_take,Array.length_toList];omega,hget,?_⟩
  intro u hu
  obtain⟨k,hk⟩:=List.getElem?_of_mem hu
  have hkl:k<n*sz:=by
   have:=(List.getElem?_eq_some_iff.1 hk).1
   rw[List.length_take,Array.length_toList]at this
   omega
  rw[hget k hkl]at hk
  have hi:k/sz<xs.length:=by rw[←hn];exact(Nat.div_lt_iff_lt_mul hsz).2 hkl
  have hj:k% sz<sz:=Nat.mod_lt _ hsz
  have hx:=List.getElem?_eq_getElem hi
  have hxl':=hxl _ _ hx
  obtain⟨u',hu',hrel⟩:=hxr (k/sz) _ (k% sz) _ hx (List.getElem?_eq_getElem (by rw[hxl'];exact hj))
  have e:k/sz*sz+k% sz=k:=by rw[Nat.mul_comm];exact Nat.div_add_mod k sz
  rw[e,hk]at hu'
  rw[Option.some.inj hu']
  exact hrel.one
theorem Xj6{c:Ctx}{E:Env}(hM:Mem c E){r n sz:Nat}{xs:List (List D)}{v:Value}(hr:E.rt r=some (.row sz false xs))(hp:E.pres r)(hv:RelAV E (.ref r 0 n) v)(hn:n=xs.length)(h0:0<n)(hsz:0<sz):
  ∃b cap cs t fr,v= .slice (some ⟨b,0,none⟩) n cap∧E.β r=some b∧E.w.heap[b]? =some (.cells cs t fr)∧n≤cap∧cap*sz≤cs.size∧I1 cs.size fr∧Xaw sz fr∧(∀(i:Nat) x,xs[i]? =some x→x.length=sz)∧
   (∀(i:Nat) x (j:Nat) y,xs[i]? =some x→x[j]? =some y→∃u,cs[i*sz+j]? =some u∧RelD E.w E.S y u)∧
   (cs.toList.take (n*sz)).length=n*sz∧(∀(k:Nat),k<n*sz→(cs.toList.take (n*sz))[k]? =cs[k]?)∧(∀u∈cs.toList.take (n*sz),u.oneCell'=true):=
 (Xiu hM hr hp hv hn hsz).resolve_left fun h=>by omega
theorem V9{w:World}{b k:Nat}{cs:Array Value}{t:TypeId}{fr:Nat×Nat}(hh:w.heap[b]? =some (.cells cs t fr)):w.cell? ⟨b,k,none⟩=cs[k]? :=by
 simp[World.cell?,hh]
theorem XkY{E:Env}{k:IntKind}{n:Int}{v:Value}(h:RelAV E (.d (.sc (.int k n))) v):v= .int k n:=by
 cases h with
 |d _ _ h=>cases h with|sc=>rfl
theorem Xj1{E:Env}{x y z:AV}{vs:Array Value}(h:XcC E [x,y,z] vs):∃u v t,vs= #[u,v,t]∧RelAV E x u∧RelAV E y v∧RelAV E z t:=by
 obtain⟨hs,hr⟩:=h
 have:vs.size=3:=hs
 obtain⟨l⟩:=vs
 match l,this with
 |[u,v,t],_=>exact⟨u,v,t,rfl,hr 0 x rfl,hr 1 y rfl,hr 2 z rfl⟩
theorem XeW{w:World}{S:Nat→Prop}{β:Nat→Option Nat}{r0:List Root}{R:Root}:Fresh (F3 w S β r0) (B1 w S β r0 [R]) r0.length [R]:=by
 refine⟨Nat.le_refl _,?_,?_⟩
 ·intro k R' hk
  show(r0++[R])[r0.length+k]? =some R'
  rw[List.getElem?_append_right (by omega)]
  simpa using hk
 ·intro k hk hp
  have:r0.length+k<r0.length:=hp
  omega
theorem XhY{xs:List (List D)}{n:Nat}{i j:Int}(hn:n=xs.length)(h0:0≤i)(hi:i<n)(hj:j=i+1)(hm:n≤4000000000):CallOk Tryz.prog 333 [.ref 0 0 n,.d (.sc (.int .i64 i)),.d (.sc (.int .i64 j))] [.row 2 false xs] ⟨.ref 1 0 (xs.eraseIdx i.toNat).length,[.row 2 false (xs.eraseIdx i.toNat)],[(0,.dead)]⟩:=by
 intro w S β vs hM hA
 obtain⟨vl,vi,vj,rfl,h1,h2,h3⟩:=Xj1 hA
 obtain rfl:=XkY h2
 obtain rfl:=XkY h3
 obtain⟨b,cap,cs,t,fr,rfl,hb,hh,hnc,hcs,hfr,-,hxl,hxr,hvl,hvg,hone⟩:=Xj6 hM (r:=0) rfl (show(0:Nat)<1 by decide) h1 hn (by omega) (by decide)
 have hh':w.heap[b]? =some (.cells cs t fr):=hh
 obtain⟨i,rfl⟩:∃k:Nat,i=k:=⟨i.toNat,by omega⟩
 obtain⟨j,rfl⟩:∃k:Nat,j=k:=⟨j.toNat,by omega⟩
 have hjn:j=i+1:=by omega
 have hin:i<n:=by omega
 have hcn:n*2≤cs.size:=by omega
 rw[Int.toNat_natCast]
 refine(delE b n cap i j w (cs.toList.take (n*2)) hin hjn hnc hm hvl hone (fun k v hk=>by
   have hkl:k<n*2:=by rw[←hvl];exact(List.getElem?_eq_some_iff.1 hk).1
   rw[hvg k hkl]at hk
   rw[V9 hh'];exact hk) (fun k hk=>Gy hh' hfr (by omega))).mono ?_
 rintro e w' ⟨rfl,rfl⟩
 have hdl:((cs.toList.take (n*2)).drop (j*2)).length=(n - j)*2:=by rw[List.length_drop,hvl];omega
 obtain⟨c1,aa,ab⟩:=Dd b t fr ((cs.toList.take (n*2)).drop (j*2)) (i*2) w.drew cs hh' (by rw[hdl];omega)
 obtain⟨c2,ac,ad⟩:=Dd b t fr [.string ⟨#[]⟩,.int .i64 0] ((n - 1)*2) _ c1 aa.at_ (by rw[aa.size];simp;omega)
 have hlen:(xs.eraseIdx i).length=n - 1:=by rw[List.length_eraseIdx,if_pos (by omega)];omega
 obtain⟨E',e1,e2⟩:=Xe8 (sz:=2) (cap:=cap) (ys:=xs.eraseIdx i) (nb:=1) hM (r:=0) rfl (show(0:Nat)<1 by decide) XeW hb hh ((Wrote.ofDrew aa).trans ac)
  (by
   intro k x hk
   rw[List.getElem?_eraseIdx]at hk
   split at hk<;>exact hxl _ _ hk) hcs (by omega) (by
   intro k x f y hk hf
   have ae:k<n - 1:=by rw[←hlen];exact(List.getElem?_eq_some_iff.1 hk).1
   have hxs:∃q,xs[q]? =some x∧q=(if k<i then k else k+1):=by
    rw[List.getElem?_eraseIdx]at hk
    split at hk
    ·rename_i h;exact⟨k,hk,by rw[if_pos h]⟩
    ·rename_i h;exact⟨k+1,hk,by rw[if_neg h]⟩
   obtain⟨q,hq,hqk⟩:=hxs
   have af:f<2:=by rw[←hxl q x hq];exact(List.getElem?_eq_some_iff.1 hf).1
   obtain⟨u,hu,hrel⟩:=hxr q x f y hq hf
   refine⟨u,?_,hrel⟩
   rw[ad,if_neg (by simp;omega),ab,hdl]
   split at hqk
   ·subst hqk
    rw[if_neg (by omega)];exact hu
   ·subst hqk
    rw[if_pos (by omega),List.getElem?_drop,hvg _ (by omega),show j*2+(k*2+f - i*2)=(k+1)*2+f by omega]
    exact hu)
 rw[hlen]at e2
 exact⟨_,E',rfl,e1,by rw[hlen];exact e2⟩
theorem Grow.ofDrew{w w':World}{o:Obj}(g:Grow w.drew w' o):Grow w w' o:=⟨g.heap,g.os,g.output,g.tape⟩
theorem Grow.drew{w w':World}{o:Obj}(g:Grow w w' o):Grow w w'.drew o:=⟨g.heap,g.os,g.output,g.tape⟩
theorem Xr{w:World}{b k:Nat}{cs:Array Value}{t:TypeId}{fr:Nat×Nat}(hh:w.heap[b]? =some (.cells cs t fr))(h:Xaw 2 fr):w.frozen? ⟨b,k,none⟩=false:=by
 obtain rfl:fr=(0,0):=h.resolve_left (by decide)
 simp[World.frozen?,hh]
theorem Vf{w:World}{S:Nat→Prop}{xs:List (List D)}{v:List D}{i n:Nat}{cs':Array Value}{vals vs:List Value}(hn:n=xs.length)(hi:i≤n)(hxl:∀(i:Nat) x,xs[i]? =some x→x.length=2)(hv:v.length=2)
  (hxr:∀(i:Nat) x (j:Nat) y,xs[i]? =some x→x[j]? =some y→∃u,vals[i*2+j]? =some u∧RelD w S y u)(hvr:∀(j:Nat) y,v[j]? =some y→∃u,vs[j]? =some u∧RelD w S y u)
  (hc:∀k f,k<n+1→f<2→cs'[k*2+f]? =if k<i then vals[k*2+f]? else if k=i then vs[f]? else vals[(k - 1)*2+f]?):
  (∀(k:Nat) x,(xs.take i++v::xs.drop i)[k]? =some x→x.length=2)∧∀(k:Nat) x (j:Nat) y,(xs.take i++v::xs.drop i)[k]? =some x→x[j]? =some y→∃u,cs'[k*2+j]? =some u∧RelD w S y u:=by
 have key:∀(k:Nat) x,(xs.take i++v::xs.drop i)[k]? =some x→(k<i∧xs[k]? =some x)∨(k=i∧x=v)∨(i<k∧xs[k - 1]? =some x):=by
  intro k x hk
  have hl:(xs.take i).length=i:=by rw[List.length_take];omega
  by_cases h:k<i
  ·rw[List.getElem?_append_left (by omega),List.getElem?_take,if_pos h]at hk
   exact .inl ⟨h,hk⟩
  ·rw[List.getElem?_append_right (by omega),hl]at hk
   by_cases h':k=i
   ·subst h'
    rw[Nat.sub_self]at hk
    exact .inr (.inl ⟨rfl,(Option.some.inj hk).symm⟩)
   ·obtain⟨m,hm⟩:∃m,k - i=m+1:=⟨k - i - 1,by omega⟩
    rw[hm,List.getElem?_cons_succ,List.getElem?_drop,show i+m=k - 1 by omega]at hk
    exact .inr (.inr ⟨by omega,hk⟩)
 refine⟨fun k x hk=>?_,fun k x j y hk hy=>?_⟩
 ·rcases key k x hk with⟨_,h⟩|⟨_,h⟩|⟨_,h⟩
  ·exact hxl _ _ h
  ·rw[h];exact hv
  ·exact hxl _ _ h
 ·rcases key k x hk with⟨h,hx⟩|⟨h,hx⟩|⟨h,hx⟩
  ·have hkn:=(List.getElem?_eq_some_iff.1 hx).1
   have hj:j<2:=by rw[←hxl _ _ hx];exact(List.getElem?_eq_some_iff.1 hy).1
   rw[hc k j (by omega) hj,if_pos h]
   exact hxr _ _ _ _ hx hy
  ·subst hx h
   have hj:j<2:=by rw[←hv];exact(List.getElem?_eq_some_iff.1 hy).1
   rw[hc k j (by omega) hj,if_neg (by omega),if_pos rfl]
   exact hvr _ _ hy
  ·have hkn:=(List.getElem?_eq_some_iff.1 hx).1
   have hj:j<2:=by rw[←hxl _ _ hx];exact(List.getElem?_eq_some_iff.1 hy).1
   rw[hc k j (by omega) hj,if_neg (by omega),if_neg (by omega)]
   exact hxr _ _ _ _ hx hy
theorem Xhw{xs:List (List D)}{v:List D}{n i:Nat}(hn:n=xs.length)(hin:i≤n)(hm:n≤4000000000):CallOk Tryz.prog 332 [.ref 0 0 n,.d (.sc (.int .i64 i)),.ref 1 0 1] [.row 2 false xs,.row 2 false [v]]
  ⟨.ref 2 0 (xs.take i++v::xs.drop i).length,[.row 2 false (xs.take i++v::xs.drop i)],[(0,.dead)]⟩:=by
 intro w S β vs hM hA
 obtain⟨vl,vi,vv,rfl,h1,h2,h3⟩:=Xj1 hA
 obtain rfl:=XkY h2
 obtain⟨vb,vc,cv,tv,frv,rfl,hbv,hhv,hvc,hcv,hfrv,hplv,hvxl,hvxr,hvvl,hvvg,hvone⟩:=Xj6 hM (r:=1) rfl (show(1:Nat)<2 by decide) h3 rfl (by decide) (by decide)
 have hhv':w.heap[vb]? =some (.cells cv tv frv):=hhv
 have hlen:(xs.take i++v::xs.drop i).length=n+1:=by simp;omega
 have ac:v.length=2:=hvxl 0 v rfl
 have hvr:∀(j:Nat) y,v[j]? =some y→∃u,(cv.toList.take (1*2))[j]? =some u∧RelD w S y u:=by
  intro j y hy
  have hj:j<2:=by rw[←ac];exact(List.getElem?_eq_some_iff.1 hy).1
  obtain⟨u,hu,hrel⟩:=hvxr 0 v j y rfl hy
  rw[Nat.zero_mul,Nat.zero_add]at hu
  exact⟨u,by rw[hvvg j (by omega)];exact hu,hrel⟩
 have hvs:∀j u,(cv.toList.take (1*2))[j]? =some u→w.cell? ⟨vb,j,none⟩=some u:=fun k u hk=>by
  have hkl:k<1*2:=by rw[←hvvl];exact(List.getElem?_eq_some_iff.1 hk).1
  rw[hvvg k hkl]at hk
  rw[V9 hhv'];exact hk
 generalize hvsd:cv.toList.take (1*2)=vs at hvr hvs hvvl hvone
 have hvl2:vs.length=2:=hvvl
 rcases Xiu hM (r:=0) rfl (show(0:Nat)<2 by decide) h1 hn (by decide)with⟨h0,a,rfl⟩|⟨b,cap,cs,t,fr,rfl,hb,hh,hnc,hcs,hfr,hpl,hxl,hxr,hvl,hvg,hone⟩
 ·obtain rfl:xs=[]:=List.eq_nil_of_length_eq_zero (by omega)
  obtain rfl:i=0:=by omega
  subst h0
  refine(Qe a 0 0 vb vc [] vs w (by omega) (by omega) (by omega) rfl hvl2 (fun _=>rfl) (fun a _ j v h=>by simp at h) hvs hvone).mono ?_
  rintro e w' ⟨rfl,rfl⟩
  have hge:=grownCap_ge w (0+1) 0 113
  obtain⟨k1,k2⟩:=Vf (w:=w) (S:=S) (xs:=[]) (v:=v) (i:=0) (n:=0) (cs':=(([]++vs).toArray++Builtin.zeroCells zE.cells (grownCap w (0+1) 0 113 - (0+1)))) (vals:=[]) (vs:=vs) rfl (by omega) (by simp) ac (by simp) hvr (by
   intro k f hk hf
   obtain rfl:k=0:=by omega
   rw[if_neg (by omega),if_pos rfl,Nat.zero_mul,Nat.zero_add,Array.getElem?_append_left (by simp;omega)]
   simp)
  obtain⟨E',e1,e2⟩:=Xkb (sz:=2) (cap:=grownCap w (0+1) 0 113) (nb:=2) hM (r:=0) rfl (show(0:Nat)<2 by decide) XeW (Grow.alloc w.drew _).ofDrew k1 (by
   rw[Array.size_append,G6]
   simp[Value.cells,hvl2]
   omega) (by rw[hlen];exact hge) k2
  rw[hlen]at e2
  exact⟨_,E',rfl,e1,by rw[hlen];exact e2⟩
 have hh':w.heap[b]? =some (.cells cs t fr):=hh
 have hvals:∀j u,(cs.toList.take (n*2))[j]? =some u→w.cell? ⟨b,j,none⟩=some u:=fun k u hk=>by
  have hkl:k<n*2:=by rw[←hvl];exact(List.getElem?_eq_some_iff.1 hk).1
  rw[hvg k hkl]at hk
  rw[V9 hh'];exact hk
 have hxr':∀(i:Nat) x (j:Nat) y,xs[i]? =some x→x[j]? =some y→∃u,(cs.toList.take (n*2))[i*2+j]? =some u∧RelD w S y u:=by
  intro q x f y hq hf
  have hqn:q<xs.length:=(List.getElem?_eq_some_iff.1 hq).1
  have af:f<2:=by rw[←hxl q x hq];exact(List.getElem?_eq_some_iff.1 hf).1
  obtain⟨u,hu,hrel⟩:=hxr q x f y hq hf
  exact⟨u,by rw[hvg _ (by omega)];exact hu,hrel⟩
 have hvgn:∀k,k<n*2→cs[k]? =(cs.toList.take (n*2))[k]? :=fun k hk=>(hvg k hk).symm
 generalize hvd:cs.toList.take (n*2)=vals at hvals hxr' hvgn hvl hone
 have hvb:vb≠b:=by
  rintro rfl
  have:=hM.inj 0 1 _ _ vb (show(0:Nat)<2 by decide) (show(1:Nat)<2 by decide) rfl (by simp) rfl (by simp) hb hbv
  cases this
 have hnew:∀{cs':Array Value} {w':World} {G:Nat},Grow w w' (.cells cs' 113 (0,0))→n+1≤G→G*2≤cs'.size→(∀k f,k<n+1→f<2→cs'[k*2+f]? =if k<i then vals[k*2+f]? else if k=i then vs[f]? else vals[(k - 1)*2+f]?)→
   ∃v' E',Ending.returned (.slice (some ⟨w.heap.size,0,none⟩) (n+1) G)=Ending.returned v'∧E'.w=w'∧OutRel (F3 w S β [.row 2 false xs,.row 2 false [v]]) (B1 w S β [.row 2 false xs,.row 2 false [v]] [.row 2 false (xs.take i++v::xs.drop i)]) 2 ⟨.ref 2 0 (xs.take i++v::xs.drop i).length,[.row 2 false (xs.take i++v::xs.drop i)],[(0,.dead)]⟩ v' E':=by
  intro cs' w' G g hG hGs hc
  obtain⟨k1,k2⟩:=Vf (w:=w) (S:=S) hn hin hxl ac hxr' hvr hc
  obtain⟨E',e1,e2⟩:=Xkb (sz:=2) (cap:=G) (nb:=2) hM (r:=0) rfl (show(0:Nat)<2 by decide) XeW g k1 hGs (by rw[hlen];exact hG) k2
  rw[hlen]at e2
  exact⟨_,E',rfl,e1,by rw[hlen];exact e2⟩
 have hown:∀{cs':Array Value} {w':World},Wrote w w' b cs cs' t fr→n+1≤cap→(∀k f,k<n+1→f<2→cs'[k*2+f]? =if k<i then vals[k*2+f]? else if k=i then vs[f]? else vals[(k - 1)*2+f]?)→
   ∃v' E',Ending.returned (.slice (some ⟨b,0,none⟩) (n+1) cap)=Ending.returned v'∧E'.w=w'∧OutRel (F3 w S β [.row 2 false xs,.row 2 false [v]]) (B1 w S β [.row 2 false xs,.row 2 false [v]] [.row 2 false (xs.take i++v::xs.drop i)]) 2 ⟨.ref 2 0 (xs.take i++v::xs.drop i).length,[.row 2 false (xs.take i++v::xs.drop i)],[(0,.dead)]⟩ v' E':=by
  intro cs' w' g hG hc
  obtain⟨k1,k2⟩:=Vf (w:=w) (S:=S) hn hin hxl ac hxr' hvr hc
  obtain⟨E',e1,e2⟩:=Xe8 (sz:=2) (cap:=cap) (nb:=2) hM (r:=0) rfl (show(0:Nat)<2 by decide) XeW hb hh g k1 hcs (by rw[hlen];exact hG) k2
  rw[hlen]at e2
  exact⟨_,E',rfl,e1,by rw[hlen];exact e2⟩
 by_cases hroom:n+1≤cap
 ·by_cases hie:i=n
  ·subst hie
   refine(Z0 b i cap vb vc vs w hroom hm hvl2 (fun j hj=>by rw[V9 hh',Array.getElem?_eq_getElem (by omega)];rfl) (fun j hj=>Gy hh' hfr (by omega)) hvs hvone).mono ?_
   rintro e w' ⟨rfl,rfl⟩
   obtain⟨c1,aa,ab⟩:=Dd b t fr vs (i*2) w cs hh' (by omega)
   refine hown aa hroom ?_
   intro k f hk hf
   rw[ab]
   by_cases h:k<i
   ·rw[if_pos h,if_neg (by omega)]
    exact hvgn _ (by omega)
   ·rw[if_neg h,if_pos (by omega),if_pos (by omega),show k*2+f - i*2=f by omega]
  ·have hdl:(vals.drop (i*2)).length=(n - i)*2:=by rw[List.length_drop,hvl];omega
   refine(Xfy b n cap i vb vc vals vs w (by omega) hroom hm hvb hvl hvl2 hvals (fun j hj=>by rw[V9 hh',Array.getElem?_eq_getElem (by omega)];rfl) (fun j hj=>Gy hh' hfr (by omega)) hvs hone hvone tv t cv.size cs.size
    (by simp[World.shape?,hhv']) (by simp[World.shape?,hh']) (by omega) (Xr hhv' hplv) (Xr hhv' hplv)).mono ?_
   rintro e w' ⟨rfl,rfl⟩
   obtain⟨c1,aa,ab⟩:=Dd b t fr (vals.drop (i*2)) ((i+1)*2) w.drew cs hh' (by rw[hdl];omega)
   obtain⟨c2,ad,ae⟩:=Dd b t fr vs (i*2) _ c1 aa.at_ (by rw[aa.size];omega)
   refine hown ((Wrote.ofDrew aa).trans ad) hroom ?_
   intro k f hk hf
   rw[ae,ab,hdl,hvl2]
   by_cases h:k<i
   ·rw[if_pos h,if_neg (by omega),if_neg (by omega)]
    exact hvgn _ (by omega)
   ·rw[if_neg h]
    by_cases h':k=i
    ·rw[if_pos h',if_pos (by omega),show k*2+f - i*2=f by omega]
    ·rw[if_neg h',if_neg (by omega),if_pos (by omega),List.getElem?_drop,show i*2+(k*2+f - (i+1)*2)=(k - 1)*2+f by omega]
 ·have hge:=grownCap_ge w (n+1) cap 113
  by_cases hie:i=n
  ·subst hie
   refine(Qe (some ⟨b,0,none⟩) i cap vb vc vals vs w hnc (by omega) hm hvl hvl2 (fun h=>by cases h) (fun a ha j v h=>by
    obtain rfl:=Option.some.inj ha
    rw[Addr.add_lit,Nat.zero_add]
    exact hvals j v h) hvs hvone).mono ?_
   rintro e w' ⟨rfl,rfl⟩
   refine hnew (Grow.alloc w.drew _).ofDrew hge ?_ ?_
   ·rw[Array.size_append,G6]
    simp[Value.cells,hvl2,hvl]
    omega
   ·intro k f hk hf
    rw[Array.getElem?_append_left (by simp;omega),List.getElem?_toArray]
    by_cases h:k<i
    ·rw[if_pos h,List.getElem?_append_left (by omega)]
    ·rw[if_neg h,if_pos (by omega),List.getElem?_append_right (by omega),hvl,show k*2+f - i*2=f by omega]
  ·have hdl:(vals.drop (i*2)).length=(n - i)*2:=by rw[List.length_drop,hvl];omega
   have htl:(vals.take (i*2)).length=i*2:=by rw[List.length_take,hvl];omega
   refine(Xhx b n cap i vb vc vals vs w (by omega) hnc (by omega) hm hvl hvl2 hvals hvs hone hvone).mono ?_
   rintro e w' ⟨rfl,rfl⟩
   generalize hROW:(vals.take (i*2)).toArray++Builtin.zeroCells zE.cells (n+1 - i)++Builtin.zeroCells zE.cells (grownCap w (n+1) cap 113 - (n+1))=ROW
   have hRs:ROW.size=grownCap w (n+1) cap 113*2:=by
    rw[←hROW,Array.size_append,Array.size_append,G6,G6]
    simp[Value.cells,htl]
    omega
   have hR:∀k,k<i*2→ROW[k]? =vals[k]? :=by
    intro k hk
    rw[←hROW,Array.append_assoc,Array.getElem?_append_left (by simp;omega),List.getElem?_toArray,List.getElem?_take,if_pos hk]
   have g0:=(Grow.alloc w (.cells ROW 113)).drew
   obtain⟨c1,aa,ab⟩:=Dd w.heap.size 113 (0,0) vs (i*2) _ ROW g0.new (by omega)
   obtain⟨c2,ad,ae⟩:=Dd w.heap.size 113 (0,0) (vals.drop (i*2)) ((i+1)*2) _ c1 (show((w.alloc (.cells ROW 113)).drew.setCells w.heap.size (i*2) vs).drew.heap[w.heap.size]? =_ from aa.at_) (by rw[aa.size,hdl];omega)
   refine hnew (((g0.wrote aa).drew).wrote ad) hge (by rw[ad.size,aa.size,hRs];exact Nat.le_refl _) ?_
   intro k f hk hf
   rw[ae,ab,hdl,hvl2]
   by_cases h:k<i
   ·rw[if_pos h,if_neg (by omega),if_neg (by omega)]
    exact hR _ (by omega)
   ·rw[if_neg h]
    by_cases h':k=i
    ·rw[if_pos h',if_neg (by omega),if_pos (by omega),show k*2+f - i*2=f by omega]
    ·rw[if_neg h',if_pos (by omega),List.getElem?_drop,show i*2+(k*2+f - (i+1)*2)=(k - 1)*2+f by omega]
end
section
open Go Go.Proofs
def XaK:List (Nat×TyRow):=[ty3,ty5,ty9,Xgt,XdN,Xcu]
theorem Xcp:B8 Tryz.prog XaK:=B8.of (by kernel_rfl)
theorem Hf:Setup Tryz.prog XaK:=⟨Xcp,mixed⟩
open Go.RowKit
def I8(x:Nat):Bool:=decide (97≤x∧x≤122∨48≤x∧x≤57∨x=46∨x=45)
def Bj(t:ByteArray):Bool:=t.data.toList.all (fun c=>I8 c.toNat)&&decide (1≤t.size∧t.size≤20)
theorem L9{t:ByteArray}{j:Nat}(hj:j<t.size):t.data.toList[j]? =some t[j]:=by
 rw[Array.getElem?_toList]
 exact Array.getElem?_eq_getElem hj
theorem Nl{t:ByteArray}{j:Nat}(hj:j<t.size)(h:I8 (t[j]).toNat=false):false=Bj t:=by
 symm
 unfold Bj
 rw[Bool.and_eq_false_iff]
 left
 rw[Bool.eq_false_iff]
 intro ha
 have:=List.all_eq_true.1 ha t[j] (List.mem_of_getElem? (L9 hj))
 rw[h]at this
 cases this
theorem Ox{t:ByteArray}{b:Bool}(h:∀(j:Nat) (hj:j<t.size),I8 (t[j]).toNat=true)(hb:b=decide (1≤t.size∧t.size≤20)):b=Bj t:=by
 unfold Bj
 rw[List.all_eq_true.2,hb,Bool.true_and]
 intro c hc
 obtain⟨j,hj⟩:=List.getElem?_of_mem hc
 have hl:j<t.size:=by
  have:=(List.getElem?_eq_some_iff.1 hj).1
  rwa[Array.length_toList]at this
 rw[L9 hl]at hj
 rw[←Option.some.inj hj]
 exact h j hl
theorem V4{t:ByteArray}(h:Bj t=true):1≤t.size∧t.size≤20:=by
 unfold Bj at h
 rw[Bool.and_eq_true,decide_eq_true_eq]at h
 exact h.2
theorem Vd:∀(l m:List UInt8) (acc:Nat),Lib.decFrom acc (l++m)=(Lib.decFrom acc l).bind fun a=>Lib.decFrom a m
 |[],_,_=>rfl
 |c::l,m,acc=>by
  simp only[List.cons_append,Lib.decFrom]
  cases Lib.digitVal c with
  |none=>rfl
  |some d=>exact Vd l m _
theorem Uj{n:Nat}(h:n<10):Lib.digitVal (UInt8.ofNat (48+n))=some n:=by
 have e:(UInt8.ofNat (48+n)).toNat=48+n:=by rw[UInt8.toNat_ofNat',Nat.mod_eq_of_lt (by omega)]
 unfold Lib.digitVal
 rw[e,if_pos (by omega)]
 congr 1
 omega
theorem Rt(u:Nat):Lib.decFrom 0 (Lib.decDigits u)=some u:=by
 induction u using Nat.strongRecOn with
 |_ u ih=>
  by_cases h:u<10
  ·rw[Lib.decDigits,dif_pos h]
   simp only[Lib.decFrom,Uj h]
   congr 1
   omega
  ·rw[Lib.decDigits,dif_neg h,Vd,ih (u/10) (by omega)]
   simp only[Option.bind_some,Lib.decFrom,Uj (show u% 10<10 by omega)]
   congr 1
   omega
def Bh(t:ByteArray):Int×Bool:=match Lib.decFrom 0 t.data.toList with
 |some n=>if n≤1000000000∧Ci (n:Int)=t then((n:Int),true)else(0,false)
 |none=>(0,false)
theorem Uo{t:ByteArray}{m:Nat}(h:Lib.decFrom 0 t.data.toList=some m):Bh t=if m≤1000000000∧Ci (m:Int)=t then((m:Int),true)else(0,false):=by
 unfold Bh
 rw[h]
theorem XjS{t:ByteArray}{j:Nat}(hj:j<t.size)(h:¬(48≤(t[j]).toNat∧(t[j]).toNat≤57)):(0,false)=Bh t:=by
 unfold Bh
 split
 ·rename_i n hn
  obtain⟨d,hd⟩:=Lib.digit_of_decFrom _ _ _ hn j _ (L9 hj)
  unfold Lib.digitVal at hd
  rw[if_neg h]at hd
  cases hd
 ·rfl
theorem Xe1{n:Int}{t:ByteArray}(e:Ci n=t)(h0:0≤n)(h:n≤1000000000):1≤t.size∧t.size≤10:=by
 rw[←e]
 unfold Ci Lib.itoa
 rw[B3,if_neg (by omega)]
 exact H9 9 n.toNat (by omega)
theorem XiG{t:ByteArray}(h:10<t.size):(0,false)=Bh t:=by
 unfold Bh
 split
 ·rename_i n hn
  rw[if_neg]
  rintro⟨h1,h2⟩
  have:=Xe1 h2 (by omega) (by omega)
  omega
 ·rfl
theorem Xjw{n:Int}(h0:0≤n)(h:n≤1000000000):Bh (Ci n)=(n,true):=by
 have e:Lib.decFrom 0 (Ci n).data.toList=some n.toNat:=by
  unfold Ci Lib.itoa
  rw[P6,if_neg (by omega)]
  exact Rt _
 rw[Uo e,if_pos ⟨by omega,by rw[Int.toNat_of_nonneg h0]⟩,Int.toNat_of_nonneg h0]
theorem W4:∀(l:List UInt8) (acc n:Nat),Lib.decFrom acc l=some n→acc≤n
 |[],acc,n,h=>by simp only[Lib.decFrom,Option.some.injEq]at h;omega
 |c::l,acc,n,h=>by
  simp only[Lib.decFrom]at h
  split at h
  ·have:=W4 l _ n h
   omega
  ·cases h
theorem Xbx:∀(l:List UInt8) (acc n:Nat),Lib.decFrom acc l=some n→n≤1000000000→Lib.parseUint10 acc l= .ok n
 |[],acc,n,h,_=>by simp only[Lib.decFrom,Option.some.injEq]at h;rw[h];rfl
 |c::l,acc,n,h,hn=>by
  simp only[Lib.decFrom,Lib.digitVal]at h
  unfold Lib.parseUint10
  by_cases hc:48≤c.toNat∧c.toNat≤57
  ·rw[if_pos hc]at h⊢
   have:=W4 l _ n h
   rw[if_neg (by omega),if_neg (by omega)]
   exact Xbx l _ n h hn
  ·rw[if_neg hc]at h
   cases h
theorem Xi7{l:List UInt8}{n:Nat}(h:Lib.decFrom 0 l=some n)(hl:l≠[])(hn:n≤1000000000):Lib.atoiAll l= .ok n:=by
 cases l with
 |nil=>exact absurd rfl hl
 |cons c r=>
  obtain⟨d,hd⟩:=Lib.digit_of_decFrom _ _ _ h 0 c rfl
  unfold Lib.digitVal at hd
  have hc:48≤c.toNat∧c.toNat≤57:=by
   by_cases hc:48≤c.toNat∧c.toNat≤57
   ·exact hc
   ·rw[if_neg hc]at hd;cases hd
  have h45:¬c.toNat=45:=by omega
  unfold Lib.atoiAll
  simp only[if_neg (show¬(c.toNat=43∨c.toNat=45)by omega),Lib.parseMag,if_neg (show¬(c::r=[])by simp),Xbx _ _ _ h hn]
  rw[if_neg (by omega),if_neg (by omega),if_neg h45]
theorem XhR(t:ByteArray):Bh t=match Lib.atoiAll t.data.toList with
  | .ok v=>if Bp v=true∧Ci v=t then(v,true)else(0,false)
  |_=>(0,false):=by
 cases hd:Lib.decFrom 0 t.data.toList with
 |some n=>
  rw[Uo hd]
  by_cases hc:n≤1000000000∧Ci (n:Int)=t
  ·have hne:t.data.toList≠[]:=by
    intro e
    have:=(Xe1 hc.2 (by omega) (by omega)).1
    have hs:t.data.toList.length=t.size:=Array.length_toList
    rw[e]at hs
    simp at hs
    omega
   rw[if_pos hc,Xi7 hd hne hc.1]
   simp only[]
   rw[if_pos ⟨by unfold Bp;exact decide_eq_true (by omega),hc.2⟩]
  ·rw[if_neg hc]
   split
   ·rename_i v hv
    rw[if_neg]
    rintro⟨h1,h2⟩
    unfold Bp at h1
    rw[decide_eq_true_eq]at h1
    have e:Lib.decFrom 0 t.data.toList=some v.toNat:=by
     rw[←h2]
     unfold Ci Lib.itoa
     rw[P6,if_neg (by omega)]
     exact Rt _
    rw[hd]at e
    have e2:=Option.some.inj e
    exact hc ⟨by omega,by rw[e2,Int.toNat_of_nonneg h1.1];exact h2⟩
   ·rfl
 |none=>
  have e0:Bh t=(0,false):=by unfold Bh;rw[hd]
  rw[e0]
  split
  ·rename_i v hv
   rw[if_neg]
   rintro⟨h1,h2⟩
   unfold Bp at h1
   rw[decide_eq_true_eq]at h1
   have e:Lib.decFrom 0 t.data.toList=some v.toNat:=by
    rw[←h2]
    unfold Ci Lib.itoa
    rw[P6,if_neg (by omega)]
    exact Rt _
   rw[hd]at e
   cases e
  ·rfl
variable {name text ob a:ByteArray} {o oc:Bool} {oa:Int} {l:List Ad} {xl xo:List (List D)} {no:Nat}
theorem Jr(hs:name.size≤1000000000)(hr:Bj name=o):Fn Tryz.prog 302 [S name] [] ⟨B o,[],[]⟩:=by
 refine Fn.go Hf Tryz.func302 fun P hP Q hQ=>?_
 conv=>cbv
 refine .go fun v1 ah=>?_
 conv=>cbv
 refine LoopW.lp (κ:=Int) Hf hP [] [0,6] (fun i7=>[(7,I i7)]) (fun i7=>[])
  (fun i7=>0≤i7∧i7≤name.size∧∀(j:Nat) (hj:j<name.size),j<i7.toNat→I8 (name[j]).toNat=true)
  (fun i7=>(name.size - i7).toNat) (0) ⟨by omega,by omega,fun j _ h=>by simp at h⟩ ⟨rfl,trivial⟩ rfl ?_
 rintro i7 J ⟨h0,h1,hb⟩ hJ
 conv=>cbv
 refine .lss (fun h2=>?_) fun h2=>?_
 conv=>cbv
 refine .go i7.toNat fun hjv3 v3 ad bv3=>?_
 conv=>cbv
 refine .geq (fun h4=>?_) fun h4=>?_
 conv=>cbv
 refine .leq (fun h5=>?_) fun h5=>?_
 conv=>cbv
 refine .add fun v6 ai=>?_
 conv=>cbv
 exact .go [] (v6) (hJ _ ⟨by omega,by omega,fun j hj h=>if e:j=i7.toNat then by subst e;unfold I8;rw[decide_eq_true_eq];omega else hb j hj (by omega)⟩ mlt)
 conv=>cbv
 refine .geq (fun h6=>?_) fun h6=>?_
 conv=>cbv
 refine .leq (fun h7=>?_) fun h7=>?_
 conv=>cbv
 refine .add fun v8 aa=>?_
 conv=>cbv
 exact .go [] (v8) (hJ _ ⟨by omega,by omega,fun j hj h=>if e:j=i7.toNat then by subst e;unfold I8;rw[decide_eq_true_eq];omega else hb j hj (by omega)⟩ mlt)
 conv=>cbv
 refine .eql (fun h8=>?_) fun h8=>?_
 conv=>cbv
 refine .add fun v9 ac=>?_
 conv=>cbv
 exact .go [] (v9) (hJ _ ⟨by omega,by omega,fun j hj h=>if e:j=i7.toNat then by subst e;unfold I8;rw[decide_eq_true_eq];omega else hb j hj (by omega)⟩ mlt)
 conv=>cbv
 refine .eql (fun h9=>?_) fun h9=>?_
 conv=>cbv
 refine .add fun ae ag=>?_
 conv=>cbv
 exact .go [] (ae) (hJ _ ⟨by omega,by omega,fun j hj h=>if e:j=i7.toNat then by subst e;unfold I8;rw[decide_eq_true_eq];omega else hb j hj (by omega)⟩ mlt)
 conv=>cbv
 have e:false=Bj name:=(by exact Nl (show i7.toNat<name.size by omega) (by unfold I8;rw[decide_eq_false_iff_not];omega))
 rw[hr]at e
 subst e
 exact hQ _ _ (.b rfl rfl)
 conv=>cbv
 refine .eql (fun h7=>?_) fun h7=>?_
 conv=>cbv
 refine .add fun v8 aa=>?_
 conv=>cbv
 exact .go [] (v8) (hJ _ ⟨by omega,by omega,fun j hj h=>if e:j=i7.toNat then by subst e;unfold I8;rw[decide_eq_true_eq];omega else hb j hj (by omega)⟩ mlt)
 conv=>cbv
 refine .eql (fun h8=>?_) fun h8=>?_
 conv=>cbv
 refine .add fun v9 ac=>?_
 conv=>cbv
 exact .go [] (v9) (hJ _ ⟨by omega,by omega,fun j hj h=>if e:j=i7.toNat then by subst e;unfold I8;rw[decide_eq_true_eq];omega else hb j hj (by omega)⟩ mlt)
 conv=>cbv
 have e:false=Bj name:=(by exact Nl (show i7.toNat<name.size by omega) (by unfold I8;rw[decide_eq_false_iff_not];omega))
 rw[hr]at e
 subst e
 exact hQ _ _ (.b rfl rfl)
 conv=>cbv
 refine .geq (fun h5=>?_) fun h5=>?_
 conv=>cbv
 refine .leq (fun h6=>?_) fun h6=>?_
 conv=>cbv
 refine .add fun v7 af=>?_
 conv=>cbv
 exact .go [] (v7) (hJ _ ⟨by omega,by omega,fun j hj h=>if e:j=i7.toNat then by subst e;unfold I8;rw[decide_eq_true_eq];omega else hb j hj (by omega)⟩ mlt)
 conv=>cbv
 refine .eql (fun h7=>?_) fun h7=>?_
 conv=>cbv
 refine .add fun v8 aa=>?_
 conv=>cbv
 exact .go [] (v8) (hJ _ ⟨by omega,by omega,fun j hj h=>if e:j=i7.toNat then by subst e;unfold I8;rw[decide_eq_true_eq];omega else hb j hj (by omega)⟩ mlt)
 conv=>cbv
 refine .eql (fun h8=>?_) fun h8=>?_
 conv=>cbv
 refine .add fun v9 ac=>?_
 conv=>cbv
 exact .go [] (v9) (hJ _ ⟨by omega,by omega,fun j hj h=>if e:j=i7.toNat then by subst e;unfold I8;rw[decide_eq_true_eq];omega else hb j hj (by omega)⟩ mlt)
 conv=>cbv
 have e:false=Bj name:=(by exact Nl (show i7.toNat<name.size by omega) (by unfold I8;rw[decide_eq_false_iff_not];omega))
 rw[hr]at e
 subst e
 exact hQ _ _ (.b rfl rfl)
 conv=>cbv
 refine .eql (fun h6=>?_) fun h6=>?_
 conv=>cbv
 refine .add fun v7 af=>?_
 conv=>cbv
 exact .go [] (v7) (hJ _ ⟨by omega,by omega,fun j hj h=>if e:j=i7.toNat then by subst e;unfold I8;rw[decide_eq_true_eq];omega else hb j hj (by omega)⟩ mlt)
 conv=>cbv
 refine .eql (fun h7=>?_) fun h7=>?_
 conv=>cbv
 refine .add fun v8 aa=>?_
 conv=>cbv
 exact .go [] (v8) (hJ _ ⟨by omega,by omega,fun j hj h=>if e:j=i7.toNat then by subst e;unfold I8;rw[decide_eq_true_eq];omega else hb j hj (by omega)⟩ mlt)
 conv=>cbv
 have e:false=Bj name:=(by exact Nl (show i7.toNat<name.size by omega) (by unfold I8;rw[decide_eq_false_iff_not];omega))
 rw[hr]at e
 subst e
 exact hQ _ _ (.b rfl rfl)
 conv=>cbv
 refine .go fun v3 ad=>?_
 conv=>cbv
 generalize ab:Cf v3 1 20=r4
 refine .dd hP (Gj ab) ?_
 cases r4
 simp only[Cf,decide_eq_true_eq,decide_eq_false_iff_not]at ab
 conv=>cbv
 have e:false=Bj name:=(by exact Ox (fun j hj=>hb j hj (by omega)) (by symm;rw[decide_eq_false_iff_not];omega))
 rw[hr]at e
 subst e
 exact hQ _ _ (.b rfl rfl)
 simp only[Cf,decide_eq_true_eq,decide_eq_false_iff_not]at ab
 conv=>cbv
 have e:true=Bj name:=(by exact Ox (fun j hj=>hb j hj (by omega)) (by symm;rw[decide_eq_true_eq];omega))
 rw[hr]at e
 subst e
 exact hQ _ _ (.b rfl rfl)
theorem L8(hs:name.size≤1000000000)(hr:Bj name=o):Fn Tryz.prog 265 [S name] [] ⟨B o,[],[]⟩:=by
 refine Fn.go Hf Tryz.func265 fun P hP Q hQ=>?_
 conv=>cbv
 refine LoopW.lp (κ:=Int) Hf hP [] [0] (fun i3=>[(3,I i3)]) (fun i3=>[])
  (fun i3=>0≤i3∧i3≤name.size∧∀(j:Nat) (hj:j<name.size),j<i3.toNat→I8 (name[j]).toNat=true)
  (fun i3=>(name.size - i3).toNat) (0) ⟨by omega,by omega,fun j _ h=>by simp at h⟩ ⟨rfl,trivial⟩ rfl ?_
 rintro i3 J ⟨h0,h1,hb⟩ hJ
 conv=>cbv
 refine .go fun v1 ae=>?_
 conv=>cbv
 refine .lss (fun h2=>?_) fun h2=>?_
 conv=>cbv
 refine .go i3.toNat fun hjv3 v3 ad bv3=>?_
 conv=>cbv
 refine .id fun v4 af=>?_
 conv=>cbv
 generalize aa:Bm v4 97 122=r5
 refine .dd hP (Ec aa) ?_
 cases r5
 simp only[Bm,decide_eq_true_eq,decide_eq_false_iff_not]at aa
 conv=>cbv
 generalize ab:Bm v4 48 57=r6
 refine .dd hP (Ec ab) ?_
 cases r6
 simp only[Bm,decide_eq_true_eq,decide_eq_false_iff_not]at ab
 conv=>cbv
 refine .neq (fun h7=>?_) fun h7=>?_
 conv=>cbv
 refine .neq (fun h8=>?_) fun h8=>?_
 conv=>cbv
 have e:false=Bj name:=(by exact Nl (show i3.toNat<name.size by omega) (by unfold I8;rw[decide_eq_false_iff_not];omega))
 rw[hr]at e
 subst e
 exact hQ _ _ (.b rfl rfl)
 conv=>cbv
 refine .add fun v9 ag=>?_
 conv=>cbv
 exact .go [] (v9) (hJ _ ⟨by omega,by omega,fun j hj h=>if e:j=i3.toNat then by subst e;unfold I8;rw[decide_eq_true_eq];omega else hb j hj (by omega)⟩ mlt)
 conv=>cbv
 refine .add fun v8 ah=>?_
 conv=>cbv
 exact .go [] (v8) (hJ _ ⟨by omega,by omega,fun j hj h=>if e:j=i3.toNat then by subst e;unfold I8;rw[decide_eq_true_eq];omega else hb j hj (by omega)⟩ mlt)
 simp only[Bm,decide_eq_true_eq,decide_eq_false_iff_not]at ab
 conv=>cbv
 refine .add fun v7 ai=>?_
 conv=>cbv
 exact .go [] (v7) (hJ _ ⟨by omega,by omega,fun j hj h=>if e:j=i3.toNat then by subst e;unfold I8;rw[decide_eq_true_eq];omega else hb j hj (by omega)⟩ mlt)
 simp only[Bm,decide_eq_true_eq,decide_eq_false_iff_not]at aa
 conv=>cbv
 refine .add fun v6 aj=>?_
 conv=>cbv
 exact .go [] (v6) (hJ _ ⟨by omega,by omega,fun j hj h=>if e:j=i3.toNat then by subst e;unfold I8;rw[decide_eq_true_eq];omega else hb j hj (by omega)⟩ mlt)
 conv=>cbv
 refine .go fun v3 ad=>?_
 conv=>cbv
 generalize ac:Bm v3 1 20=r4
 refine .dd hP (Ec ac) ?_
 cases r4
 simp only[Bm,decide_eq_true_eq,decide_eq_false_iff_not]at ac
 conv=>cbv
 have e:false=Bj name:=(by exact Ox (fun j hj=>hb j hj (by omega)) (by symm;rw[decide_eq_false_iff_not];omega))
 rw[hr]at e
 subst e
 exact hQ _ _ (.b rfl rfl)
 simp only[Bm,decide_eq_true_eq,decide_eq_false_iff_not]at ac
 conv=>cbv
 have e:true=Bj name:=(by exact Ox (fun j hj=>hb j hj (by omega)) (by symm;rw[decide_eq_true_eq];omega))
 rw[hr]at e
 subst e
 exact hQ _ _ (.b rfl rfl)
theorem Qk{ob:Bool}(hs:text.size≤1000000000)(hr:Bh text=(oa,ob)):Fn Tryz.prog 304 [S text] [] ⟨.tup [I oa,B ob],[],[]⟩:=by
 refine Fn.go Hf Tryz.func304 fun P hP Q hQ=>?_
 conv=>cbv
 refine .go fun v1 aj=>?_
 conv=>cbv
 refine .gtr (fun h2=>?_) fun h2=>?_
 conv=>cbv
 have e:(0,false)=Bh text:=(by exact XiG (by omega))
 rw[hr]at e
 simp only[Prod.mk.injEq]at e
 obtain⟨rfl,rfl⟩:=e
 refine hQ _ _ ?_
 exact .m rfl .d2
 conv=>cbv
 refine LoopW.lp (κ:=Int×Int) Hf hP [] [0] (fun(i4,i5)=>[(4,I i4),(5,I i5)]) (fun(i4,i5)=>[])
  (fun(i4,i5)=>0≤i5∧i5≤text.size∧∃m:Nat,i4=m∧Lib.decFrom 0 (text.data.toList.take i5.toNat)=some m∧m<10^i5.toNat)
  (fun(i4,i5)=>(text.size - i5).toNat) (0,0) ⟨by omega,by omega,0,rfl,rfl,by simp⟩ ⟨rfl,rfl,trivial⟩ rfl ?_
 rintro⟨i4,i5⟩ J ⟨h0,h1,m,hm,hd,hlt⟩ hJ
 have hp:=Nat.pow_le_pow_right (n:=10) (by decide) (show i5.toNat≤10 by omega)
 have ac:(10:Nat)^10=10000000000:=by decide
 rw[ac]at hp
 conv=>cbv
 refine .go fun v3 ak=>?_
 conv=>cbv
 refine .lss (fun h4=>?_) fun h4=>?_
 conv=>cbv
 refine .go i5.toNat fun hjv5 v5 al bv5=>?_
 conv=>cbv
 refine .lss (fun h6=>?_) fun h6=>?_
 conv=>cbv
 have e:(0,false)=Bh text:=(by exact XjS (show i5.toNat<text.size by omega) (by omega))
 rw[hr]at e
 simp only[Prod.mk.injEq]at e
 obtain⟨rfl,rfl⟩:=e
 refine hQ _ _ ?_
 exact .m rfl .d2
 conv=>cbv
 refine .go i5.toNat fun hjv7 v7 am bv7=>?_
 conv=>cbv
 refine .gtr (fun h8=>?_) fun h8=>?_
 conv=>cbv
 have e:(0,false)=Bh text:=(by exact XjS (show i5.toNat<text.size by omega) (by omega))
 rw[hr]at e
 simp only[Prod.mk.injEq]at e
 obtain⟨rfl,rfl⟩:=e
 refine hQ _ _ ?_
 exact .m rfl .d2
 conv=>cbv
 refine .mul fun v9 an=>?_
 conv=>cbv
 refine .go i5.toNat fun hjv10 ao ae bv10=>?_
 conv=>cbv
 refine .id fun ap af=>?_
 conv=>cbv
 refine .add fun aq ag=>?_
 conv=>cbv
 refine .sub fun ad ah=>?_
 conv=>cbv
 refine .add fun aa ai=>?_
 conv=>cbv
 have hdt:=Lib.decFrom_take _ _ _ _ _ ((text[i5.toNat]).toNat - 48) hd (L9 (show i5.toNat<text.size by omega)) (by unfold Lib.digitVal;rw[if_pos (by omega)])
 exact .go [] (ad,aa) (hJ _ ⟨by omega,by omega,m*10+((text[i5.toNat]).toNat - 48),by omega,by rw[show aa.toNat=i5.toNat+1 by omega];exact hdt,by rw[show aa.toNat=i5.toNat+1 by omega,Nat.pow_succ];omega⟩ mlt)
 conv=>cbv
 refine .gtr (fun h5=>?_) fun h5=>?_
 conv=>cbv
 have e:(0,false)=Bh text:=(by rw[List.take_of_length_le (by rw[Array.length_toList];show text.size≤_;omega)]at hd;rw[Uo hd,if_neg (by omega)])
 rw[hr]at e
 simp only[Prod.mk.injEq]at e
 obtain⟨rfl,rfl⟩:=e
 refine hQ _ _ ?_
 exact .m rfl .d2
 conv=>cbv
 generalize ab:Ci i4=r6
 refine .dd hP (Xcr (by unfold Xae;omega) ab) ?_
 conv=>cbv
 refine .neq (fun h7=>?_) fun h7=>?_
 conv=>cbv
 have e:(0,false)=Bh text:=(by rw[List.take_of_length_le (by rw[Array.length_toList];show text.size≤_;omega)]at hd;rw[Uo hd,if_neg];rintro⟨_,h⟩;exact h7 (by rw[←ab,hm];exact h))
 rw[hr]at e
 simp only[Prod.mk.injEq]at e
 obtain⟨rfl,rfl⟩:=e
 refine hQ _ _ ?_
 exact .m rfl .d2
 conv=>cbv
 have e:(i4,true)=Bh text:=(by rw[List.take_of_length_le (by rw[Array.length_toList];show text.size≤_;omega)]at hd;rw[Uo hd,if_pos ⟨by omega,by rw[←hm,ab];exact h7⟩,hm])
 rw[hr]at e
 simp only[Prod.mk.injEq]at e
 obtain⟨rfl,rfl⟩:=e
 refine hQ _ _ ?_
 exact .m rfl .d2
theorem Xb3{w:World}(hG:Globs.ok w fun b=>b<w.heap.size){n:Int}{o:ByteArray}(hn:Xae n)(hr:Ci n=o):Calls Tryz.prog 178 #[.int .i64 n] w fun e w'=>e= .returned (.string o)∧Below w.heap.size w w':=by
 refine(XbX (n:=n) hn hr).ok.callsV hG ⟨rfl,?_⟩
 intro j y hy
 match j,hy with
 |0,hy=>cases hy;exact .d _ _ (.sc _ rfl)
theorem XkG{l:List UInt8}{v:Int}(h:Lib.atoiAll l= .ok v):Xae v:=by
 cases l with
 |nil=>cases h
 |cons c r=>
  unfold Lib.atoiAll at h
  simp only at h
  unfold Xae
  split at h
  ·cases h
  ·cases h
  ·split at h
   ·cases h
   ·split at h
    ·cases h
    ·simp only[Lib.NumEnd.ok.injEq]at h
     split at h<;>omega
set_option maxHeartbeats 1000000 in
set_option maxRecDepth 100000 in
theorem Zo{text:ByteArray}(hs:text.size≤1000000000){w:World}(hG:Globs.ok w fun b=>b<w.heap.size):Calls Tryz.prog 306 #[.string text] w fun e w'=>
  e= .returned (.tuple #[.int .i64 (Bh text).1,.bool (Bh text).2])∧Below w.heap.size w w':=by
 have hG2:∀{w:World},(Globs.ok w fun b=>b<w.heap.size)→Io w 0:=fun h=>Xlc h
 have hG3:∀{w:World},(Globs.ok w fun b=>b<w.heap.size)→Io w 1:=fun h=>XkR h
 rw[XhR]
 cases ha:Lib.atoiAll text.data.toList
 ·rename_i v
  dsimp only
  have hv:=XkG ha
  have hp:=fun w=>Tryz.strconv_Atoi_ok text (by omega) v ha w
  cases hn:Bp v with
  |false=>
   simp only[Bool.false_eq_true,false_and,if_false]
   go_enter Tryz.func306,Tryz.ntmps306
   go_wp2_with (first
    |(go_at_call 330;refine(hp _).mono ?_;rintro e w1 ⟨rfl,hb⟩;have aa:Below w.heap.size w w1:=(by rcases hb with rfl|⟨t,rfl⟩;exact Below.refl _ _;exact Lib.bytesWorld_below _ _ _);clear hb;have hG1:=Ij hG aa)
    |(go_at_call 230;refine(Vv hG1 hn).mono ?_;rintro e w2 ⟨rfl,hb2⟩;have hG2_:=Ij hG1 hb2))
   go_ret2
   exact⟨rfl,aa.trans (hb2.mono aa.size)⟩
  |true=>
   obtain⟨o,ho⟩:∃o,Ci v=o:=⟨_,rfl⟩
   by_cases he:o=text
   ·simp only[ho,he,true_and,if_true]
    subst he
    go_enter Tryz.func306,Tryz.ntmps306
    go_wp2_with (first
     |(go_at_call 330;refine(hp _).mono ?_;rintro e w1 ⟨rfl,hb⟩;have aa:Below w.heap.size w w1:=(by rcases hb with rfl|⟨t,rfl⟩;exact Below.refl _ _;exact Lib.bytesWorld_below _ _ _);clear hb;have hG1:=Ij hG aa)
     |(go_at_call 230;refine(Vv hG1 hn).mono ?_;rintro e w2 ⟨rfl,hb2⟩;have hG2_:=Ij hG1 hb2)
     |(go_at_call 178;refine(Xb3 hG2_ hv ho).mono ?_;rintro e w3 ⟨rfl,ab⟩))
    go_ret2
    exact⟨rfl,(aa.trans (hb2.mono aa.size)).trans (ab.mono (aa.trans (hb2.mono aa.size)).size)⟩
   ·simp only[ho,he,and_false,if_false]
    have ac:=Xly he
    go_enter Tryz.func306,Tryz.ntmps306
    go_wp2_with (first
     |(go_at_call 330;refine(hp _).mono ?_;rintro e w1 ⟨rfl,hb⟩;have aa:Below w.heap.size w w1:=(by rcases hb with rfl|⟨t,rfl⟩;exact Below.refl _ _;exact Lib.bytesWorld_below _ _ _);clear hb;have hG1:=Ij hG aa)
     |(go_at_call 230;refine(Vv hG1 hn).mono ?_;rintro e w2 ⟨rfl,hb2⟩;have hG2_:=Ij hG1 hb2)
     |(go_at_call 178;refine(Xb3 hG2_ hv ho).mono ?_;rintro e w3 ⟨rfl,ab⟩))
    go_ret2
    exact⟨rfl,(aa.trans (hb2.mono aa.size)).trans (ab.mono (aa.trans (hb2.mono aa.size)).size)⟩
 ·dsimp only
  obtain⟨ev,h1,h2⟩:=hG2 hG
  have hp:=Tryz.strconv_Atoi_syntax text (by omega) ha ev w h1 h2
  go_enter Tryz.func306,Tryz.ntmps306
  go_wp2_with (go_at_call 330;refine hp.mono ?_;rintro e w1 ⟨N,rfl,-,-,aa⟩)
  go_ret2
  exact⟨rfl,aa⟩
 ·dsimp only
  obtain⟨ev,h1,h2⟩:=hG3 hG
  have hp:=Tryz.strconv_Atoi_range text (by omega) ha ev w h1 h2
  go_enter Tryz.func306,Tryz.ntmps306
  go_wp2_with (go_at_call 330;refine hp.mono ?_;rintro e w1 ⟨N,rfl,-,-,aa⟩)
  go_ret2
  exact⟨rfl,aa⟩
theorem Q5{ob:Bool}(hs:text.size≤1000000000)(hr:Bh text=(oa,ob)):Fn Tryz.prog 306 [S text] [] ⟨.tup [I oa,B ob],[],[]⟩:=by
 refine⟨Fg Tryz.func306 rfl rfl,CallOk.ofCallsT rfl rfl fun E vs hS hG hA=>?_⟩
 obtain⟨u,rfl,h1⟩:=XkK hA
 rw[P1 h1]
 have h2:=Zo hs (Globs.step hS (fun _ _=>rfl) hG)
 rw[hr]at h2
 exact h2
def I9(s:ByteArray):Int:=Lib.indexByte s.data.toList 58
def J9(s:ByteArray):ByteArray×ByteArray×Bool:=if 0≤I9 s then(s.extract 0 (I9 s).toNat,s.extract ((I9 s).toNat+1) s.size,true)else(s,tx [],false)
theorem Tf(c:UInt8):∀l:List UInt8,-1≤Lib.indexByte l c∧Lib.indexByte l c<l.length
 |[]=>by simp[Lib.indexByte]
 |b::l=>by
  have:=Tf c l
  unfold Lib.indexByte
  rw[List.length_cons]
  split
  ·omega
  ·split
   ·omega
   ·omega
theorem Xb{s:ByteArray}{i:Int}(e:I9 s=i): -1≤i∧i<s.size:=by
 rw[←e]
 exact Tf 58 s.data.toList
theorem Jo{s:ByteArray}{o:Int}(hr:I9 s=o):Fn Tryz.prog 342 [S s,S (tx [58])] [] ⟨I o,[],[]⟩:=by
 refine⟨Fg Tryz.func342 rfl rfl,CallOk.ofCalls fun E vs hS hA=>?_⟩
 obtain⟨u,v,rfl,h1,h2⟩:=Xl3 hA
 rw[P1 h1,P1 h2]
 refine(Tryz.stringslite_Index_one s 58 E.w).mono ?_
 rintro e w' ⟨rfl,rfl⟩
 refine⟨_,rfl,Below.refl _ _,?_⟩
 show RelD _ _ (.sc (.int .i64 o)) (.int .i64 (I9 s))
 rw[hr]
 exact .sc _ rfl
theorem Kp{oa:ByteArray}(hs:a.size≤1000000000)(hr:J9 a=(oa,ob,oc)):Fn Tryz.prog 329 [S a,S (tx [58])] [] ⟨.tup [S oa,S ob,B oc],[],[]⟩:=by
 refine Fn.go Hf Tryz.func329 fun P hP Q hQ=>?_
 conv=>cbv
 generalize aa:I9 a=r1
 refine .dd hP (Jo aa) ?_
 conv=>cbv
 have hb:=Xb aa
 refine .geq (fun h2=>?_) fun h2=>?_
 conv=>cbv
 refine .hi fun s3 ab=>?_
 conv=>cbv
 refine .go fun v4 ac=>?_
 conv=>cbv
 have ae:v4=1:=by rw[ac];rfl
 refine .add fun v5 af=>?_
 conv=>cbv
 refine .lo fun s6 ad=>?_
 conv=>cbv
 have e:(s3,s6,true)=J9 a:=(by unfold J9;rw[aa,if_pos (by omega),ab,ad,show v5.toNat=r1.toNat+1 by omega])
 rw[hr]at e
 simp only[Prod.mk.injEq]at e
 obtain⟨rfl,rfl,rfl⟩:=e
 refine hQ _ _ ?_
 exact .m rfl .d3
 conv=>cbv
 have e:(a,(tx []),false)=J9 a:=(by unfold J9;rw[aa,if_neg (by omega)])
 rw[hr]at e
 simp only[Prod.mk.injEq]at e
 obtain⟨rfl,rfl,rfl⟩:=e
 refine hQ _ _ ?_
 exact .m rfl .d3
theorem Q7{oa:ByteArray}(hs:a.size≤1000000000)(hr:J9 a=(oa,ob,oc)):Fn Tryz.prog 305 [S a,S (tx [58])] [] ⟨.tup [S oa,S ob,B oc],[],[]⟩:=by
 refine Fn.go Hf Tryz.func305 fun P hP Q hQ=>?_
 conv=>cbv
 rcases aa:J9 a with⟨ab,ac,ad⟩
 refine .dd hP (Kp (by omega) aa) ?_
 conv=>cbv
 have e:(ab,ac,ad)=J9 a:=(by exact aa.symm)
 rw[hr]at e
 simp only[Prod.mk.injEq]at e
 obtain⟨rfl,rfl,rfl⟩:=e
 refine hQ _ _ ?_
 exact .m rfl .d3
def Gh{α:Type}(l:List α):List α:=l
theorem Yz{α:Type}{c:α→List D}{l:List α}{x:List (List D)}{v:Bool}(hl:l.map c=x)(hv:v=x.isEmpty)(h:v=true):[]=l:=by
 rw[h,←hl]at hv
 cases l with
 |nil=>rfl
 |cons=>cases hv
theorem Kr{o:List Ad}(hl:l.map Ac=xl)(hn:l.length≤4000000000)(hr:Gh l=o)(ho:o.map Ac=xo):Fn Tryz.prog 199 [.d (.row 2 xl)] [] ⟨.d (.row 2 xo),[],[]⟩:=by
 refine Fn.go Hf Tryz.func199 fun P hP Q hQ=>?_
 conv=>cbv
 refine .go fun v1 ab=>?_
 conv=>cbv
 refine⟨fun h2=>?_,?_⟩
 have e:[]=Gh l:=(by unfold Gh;exact Yz hl ab h2)
 rw[hr]at e
 subst e
 exact hQ _ _ (.r rfl rfl rfl (by rw[←ho];rfl))
 refine .row0 hl fun ad z3 ac aa=>?_
 conv=>cbv
 have e:l=Gh l:=(by rfl)
 rw[hr]at e
 subst e
 exact hQ _ _ (.r rfl rfl (by rw[←aa,List.length_map];first|omega|(simp;omega)) (by rw[←aa,←ho]))
theorem Dq{o:List Ad}(hl:l.map Ac=xl)(hn:l.length≤4000000000)(hr:Gh l=o)(ho:o.map Ac=xo)(hno:no=o.length):Fn Tryz.prog 199 [.d (.row 2 xl)] [] ⟨.ref 0 0 no,[.row 2 false xo],[]⟩:=by
 refine Fn.goR Hf Tryz.func199 fun P hP Q hQ=>?_
 conv=>cbv
 refine .go fun v1 aa=>?_
 conv=>cbv
 refine⟨fun h2=>?_,?_⟩
 have e:[]=Gh l:=(by unfold Gh;exact Yz hl aa h2)
 rw[hr]at e
 subst e
 obtain rfl:[]=xo:=by first|(rw[←ho];done)|(rw[←ho];rfl)
 obtain rfl:0=no:=by first|omega|(rw[hno];simp;done)|(rw[hno];simp;omega)
 exact hQ _ _ (.o [1] rfl)
 refine .row0 hl fun ab z3 ad ac=>?_
 conv=>cbv
 have e:l=Gh l:=(by rfl)
 rw[hr]at e
 subst e
 obtain rfl:z3=xo:=by rw[←ac,←ho]
 obtain rfl:ab=no:=by first|omega|(rw[hno];simp;done)|(rw[hno];simp;omega)
 exact hQ _ _ (.o [2] rfl)
theorem Ll{l:List Bg}{o:List Bg}(hl:l.map Bi=xl)(hn:l.length≤4000000000)(hr:Gh l=o)(ho:o.map Bi=xo)(hno:no=o.length):Fn Tryz.prog 198 [.d (.row 3 xl)] [] ⟨.ref 0 0 no,[.row 3 false xo],[]⟩:=by
 refine Fn.goR Hf Tryz.func198 fun P hP Q hQ=>?_
 conv=>cbv
 refine .go fun v1 aa=>?_
 conv=>cbv
 refine⟨fun h2=>?_,?_⟩
 have e:[]=Gh l:=(by unfold Gh;exact Yz hl aa h2)
 rw[hr]at e
 subst e
 obtain rfl:[]=xo:=by first|(rw[←ho];done)|(rw[←ho];rfl)
 obtain rfl:0=no:=by first|omega|(rw[hno];simp;done)|(rw[hno];simp;omega)
 exact hQ _ _ (.o [1] rfl)
 refine .row0 hl fun ab z3 ad ac=>?_
 conv=>cbv
 have e:l=Gh l:=(by rfl)
 rw[hr]at e
 subst e
 obtain rfl:z3=xo:=by rw[←ac,←ho]
 obtain rfl:ab=no:=by first|omega|(rw[hno];simp;done)|(rw[hno];simp;omega)
 exact hQ _ _ (.o [2] rfl)
theorem Jc{l:List ByteArray}{o:List ByteArray}(hl:l.map cS=xl)(hn:l.length≤4000000000)(hr:Gh l=o)(ho:o.map cS=xo)(hno:no=o.length):Fn Tryz.prog 200 [.d (.row 1 xl)] [] ⟨.ref 0 0 no,[.row 1 false xo],[]⟩:=by
 refine Fn.goR Hf Tryz.func200 fun P hP Q hQ=>?_
 conv=>cbv
 refine .go fun v1 aa=>?_
 conv=>cbv
 refine⟨fun h2=>?_,?_⟩
 have e:[]=Gh l:=(by unfold Gh;exact Yz hl aa h2)
 rw[hr]at e
 subst e
 obtain rfl:[]=xo:=by first|(rw[←ho];done)|(rw[←ho];rfl)
 obtain rfl:0=no:=by first|omega|(rw[hno];simp;done)|(rw[hno];simp;omega)
 exact hQ _ _ (.o [1] rfl)
 refine .row0 hl fun ab z3 ad ac=>?_
 conv=>cbv
 have e:l=Gh l:=(by rfl)
 rw[hr]at e
 subst e
 obtain rfl:z3=xo:=by rw[←ac,←ho]
 obtain rfl:ab=no:=by first|omega|(rw[hno];simp;done)|(rw[hno];simp;omega)
 exact hQ _ _ (.o [2] rfl)
end
end Go.Proofs.YtjbmpmmffjgedaaGreatDoor.Ab
