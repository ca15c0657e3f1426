/- A relation between the machine and an abstract state, evaluators for single operations and for code, proved sound (part 4). No conditions. -/
import Derived.Test.YtjbmpmmffjgedaaGreatDoorToZ3
import Derived.IntWalk
import Derived.Laws.Strings
import Derived.WalkKit
import Derived.ProofKit
import Derived.OpenShut
import Derived.ShutString
import Derived.ChangeOld
import Derived.Below
import Derived.SizedLaws
import Derived.Carry
import Derived.Lib.ConvBytes
import Derived.Laws.AppendOwn
import Derived.MapKept
set_option linter.unusedVariables false
set_option linter.unusedSimpArgs false
namespace Go.Proofs.YtjbmpmmffjgedaaGreatDoor.Ab
section
open Go
section
variable {P:Program} {N:Nat} {ops:Array Oper} {st:St} {outs:Nat→Out} {eff:List Eff}
structure Part (c:Ctx) (Ei:Env) (N:Nat) (ops:Array Oper) (st:St) (outs:Nat→Out) (D:Nat→Prop) (E:Env) (a:Act):Prop where
 mem:Mem c E
 step:StepP c.m Ei E
 rt:E.rt=Tj outs D (K3 ops st outs) ops.size
 pres:∀r,E.pres r↔r<st.rt.length∨∃i,i<ops.size∧D i∧st.rt.length+(Cx outs i).length≤r∧r<st.rt.length+(Cx outs i).length+(outs i).new.length
 done:∀(t i:Nat) o,D i→ops[i]? =some o→o.dst=some t→RelAV E (outs i).av (a.eval (.tmp t))
 old:∀t,(∀(i:Nat) o,D i→ops[i]? =some o→o.dst≠some t)→RelAV E (st.sl t) (a.eval (.tmp t))
 defers:a.defers=[]
 size:a.tmps.size=N
 m:c.m≤st.rt.length
theorem Xde{nb:Nat}{i j:Nat}{x y:Eff}(hi:eff[i]? =some x)(hj:eff[j]? =some y)(h:Ks nb eff i j=true):∀r∈x.g,r∉y.T∧r∉y.g∧¬(XkY nb eff j≤r∧r<XkY nb eff j+y.n):=by
 intro r hr
 simp only[Ks,hi,hj,List.all_eq_true]at h
 have:=h r hr
 simp only[Bool.and_eq_true,Bool.not_eq_true',List.contains_eq_mem,decide_eq_false_iff_not,Bool.and_eq_false_iff]at this
 refine⟨this.1.1,this.1.2,?_⟩
 rintro⟨h1,h2⟩
 rcases this.2 with h3|h3
 ·exact h3 h1
 ·exact h3 h2
theorem Part.step_one{c:Ctx}{Ei E:Env}{a:Act}{D:Nat→Prop}(hrun:TextRun P ops N st outs eff)(hs:DrawSpec ops N st.rt.length eff)
  (hap:∀(i j:Nat),i≠j→i<ops.size→j<ops.size→O7 ops ops.size i j=true∨O7 ops ops.size j i=true∨(Ks st.rt.length eff i j=true∧Ks st.rt.length eff j i=true))
  (hp:Part c Ei N ops st outs D E a)(hc:XeE ops D)(hDn:∀i,D i→i<ops.size){j:Nat}{o:Oper}(ho:ops[j]? =some o)(hj:¬D j)(hready:∀e∈o.after,Region.binds .any e=true→D e.on)
  {K:Act→World→Prop}{Q:Exit→Act→World→Prop}(k:∀(E':Env) (a':Act),Part c Ei N ops st outs (fun i=>D i∨i=j) E' a'→K a' E'.w):wpOp P ops Q j K a E.w:=by
 have hjn:j<ops.size:=(Array.getElem?_eq_some_iff.1 ho).1
 obtain⟨e,he,⟨o',ho',hsem⟩,heg,hen⟩:=hrun.sem j hjn
 rw[ho]at ho'
 obtain rfl:=Option.some.inj ho'
 have hlenj:=Jg (st:=st) (outs:=outs) (show j≤ops.size by omega)
 have ancR:∀{i},O7 ops ops.size j i=true→D i:=fun h=>XiA hc ho hready _ _ h
 have ancN:∀{i},D i→¬O7 ops ops.size i j=true:=fun hD h=>hj (So hc _ _ _ h hD)
 have apt:∀{i},i<ops.size→i≠j→(D i↔¬i<j)→Ks st.rt.length eff i j=true∧Ks st.rt.length eff j i=true:=by
  intro i hi hne hiff
  rcases hap i j hne hi hjn with h|h|h
  ·by_cases hD:D i
   ·exact absurd h (ancN hD)
   ·have h1:=Xg7 hs _ _ _ h
    exact absurd (hiff.2 (by omega)) hD
  ·have hD:=ancR h
   have h1:=Xg7 hs _ _ _ h
   exact absurd h1 (hiff.1 hD)
  ·exact h
 have gmem:∀{i:Nat} {x:Eff},i<ops.size→eff[i]? =some x→∀{r:Nat},(∃p∈(outs i).g,p.1=r)→r∈x.g:=by
  intro i x hi hx r hr
  obtain⟨x',hx',_,hg,_⟩:=hrun.sem i hi
  rw[hx]at hx'
  obtain rfl:=Option.some.inj hx'
  rw[hg]
  obtain⟨p,hp,rfl⟩:=hr
  exact List.mem_map_of_mem hp
 have hexE:∀{i:Nat},i<ops.size→∃x,eff[i]? =some x:=fun hi=>let⟨x,hx,_⟩:=hrun.sem _ hi;⟨x,hx⟩
 have same:∀{r:Nat},(∀i,i<ops.size→i≠j→(D i↔¬i<j)→¬∃p∈(outs i).g,p.1=r)→
   Tj outs D (K3 ops st outs) ops.size r=Tj outs (fun _=>True) (K3 ops st outs) j r:=by
  intro r h
  rw[←Zv (show j≤ops.size by omega)]
  refine Oa ?_
  intro i hi hr
  by_cases hne:i=j
  ·subst hne
   exact⟨fun hD=>absurd hD hj,fun h=>absurd h (Nat.lt_irrefl _)⟩
  ·by_cases hD:D i
   ·refine⟨fun _=>?_,fun _=>hD⟩
    by_cases hlt:i<j
    ·exact hlt
    ·exact absurd hr (h i hi hne ⟨fun _=>hlt,fun _=>hD⟩)
   ·refine⟨fun h'=>absurd h' hD,fun hlt=>?_⟩
    exact absurd hr (h i hi hne ⟨fun h'=>absurd h' hD,fun h'=>absurd hlt h'⟩)
 refine hsem c E a hp.mem ?_ ?_ ?_ ?_ K Q ?_
 ·
  intro t ht
  obtain⟨sl1,sl2⟩:=Ut (st:=st) (outs:=outs) hs (j:=j) (t:=t) (by omega)
  by_cases hex:∃(i:Nat) (o':Oper),ops[i]? =some o'∧o'.dst=some t∧i≠j
  ·obtain⟨i,o',hi,hd,hne⟩:=hex
   rcases hs.look i j o o' t hne hi ho hd ht with⟨h1,h2⟩|⟨h1,h2⟩
   ·rw[sl1 i o' h1 hi hd]
    exact hp.done t i o' (ancR h2) hi hd
   ·have none':∀(i':Nat) o'',(D i'∨i'<j)→ops[i']? =some o''→o''.dst≠some t:=by
     intro i' o'' hor hi' hd'
     by_cases e1:i'=i
     ·subst e1
      rcases hor with hD|hlt
      ·exact ancN hD h2
      ·omega
     ·exact hs.uniq i i' o'' o' t (fun e=>e1 e.symm) hi hi' hd hd'
    rw[sl2 (fun i' o'' hlt=>none' i' o'' (.inr hlt))]
    exact hp.old t (fun i' o'' hD=>none' i' o'' (.inl hD))
  ·have none':∀(i':Nat) o'',(D i'∨i'<j)→ops[i']? =some o''→o''.dst≠some t:=by
    intro i' o'' hor hi' hd'
    refine hex ⟨i',o'',hi',hd',?_⟩
    rintro rfl
    rcases hor with hD|hlt
    ·exact hj hD
    ·omega
   rw[sl2 (fun i' o'' hlt=>none' i' o'' (.inr hlt))]
   exact hp.old t (fun i' o'' hD=>none' i' o'' (.inl hD))
 ·
  intro r hr
  by_cases hlt:r<st.rt.length+(Cx outs j).length
  ·right
   rw[V6 hrun (by omega) hlt,hp.rt]
   refine same ?_
   intro i hi hne hiff hg
   obtain⟨x,hx⟩:=hexE hi
   exact(Xde hx he (apt hi hne hiff).1 r (gmem hi hx hg)).1 hr
  ·left
   exact List.getElem?_eq_none (by omega)
 ·left
  exact List.getElem?_eq_none (Nat.le_refl _)
 ·refine⟨by have:=hp.m;omega,?_,?_⟩
  ·intro k R hk
   have hkl:k<(outs j).new.length:=(List.getElem?_eq_some_iff.1 hk).1
   rw[hlenj,hp.rt,Tz,Xd6 hjn hkl]
   ·exact hk
   ·intro i hi hD p hpm heq
    have hne:i≠j:=fun e=>hj (e▸hD)
    by_cases hlt:i<j
    ·have h1:=hrun.glt i hi p hpm
     rw[Jg (by omega)]at h1
     obtain⟨l,hl⟩:=Hi (outs:=outs) (show i+1≤j by omega)
     have h2:(Cx outs j).length=(Cx outs i).length+(outs i).new.length+l.length:=by rw[hl];simp[Cx];omega
     omega
    ·obtain⟨x,hx⟩:=hexE hi
     have h3:=(Xde hx he (apt hi hne ⟨fun _=>hlt,fun _=>hD⟩).1 p.1 (gmem hi hx ⟨p,hpm,rfl⟩)).2.2
     rw[Xg5 hrun (by omega),hen]at h3
     omega
  ·intro k hk hpr
   rw[hlenj,hp.pres]at hpr
   rcases hpr with hpr|⟨i,hi,hD,h1,h2⟩
   ·omega
   ·have hne:i≠j:=fun e=>hj (e▸hD)
    by_cases hlt:i<j
    ·obtain⟨l,hl⟩:=Hi (outs:=outs) (show i+1≤j by omega)
     have h3:(Cx outs j).length=(Cx outs i).length+(outs i).new.length+l.length:=by rw[hl];simp[Cx];omega
     omega
    ·obtain⟨l,hl⟩:=Hi (outs:=outs) (show j+1≤i by omega)
     have h3:(Cx outs i).length=(Cx outs j).length+(outs j).new.length+l.length:=by rw[hl];simp[Cx];omega
     omega
 ·
  intro v E' hO
  refine k E' (a.put o.dst v) ⟨hO.mem,hp.step.trans hO.step,?_,?_,?_,?_,?_,?_,hp.m⟩
  ·rw[hO.rt,hp.rt,XeX hj hjn]
   intro i hi hD hlt p hpm q hq heq
   obtain⟨x,hx⟩:=hexE hi
   have hne:i≠j:=by omega
   have:=(Xde hx he (apt hi hne ⟨fun _=>by omega,fun _=>hD⟩).1 p.1 (gmem hi hx ⟨p,hpm,rfl⟩)).2.1
   exact this (gmem hjn he ⟨q,hq,heq.symm⟩)
  ·intro r
   rw[hO.pres,hp.pres,hlenj]
   constructor
   ·rintro((h|⟨i,hi,hD,h⟩)|h)
    ·exact .inl h
    ·exact .inr ⟨i,hi,.inl hD,h⟩
    ·exact .inr ⟨j,hjn,.inr rfl,h⟩
   ·rintro(h|⟨i,hi,hD|rfl,h⟩)
    ·exact .inl (.inl h)
    ·exact .inl (.inr ⟨i,hi,hD,h⟩)
    ·exact .inr h
  ·intro t i o' hD hi hd
   by_cases e1:i=j
   ·subst e1
    rw[ho]at hi
    obtain rfl:=Option.some.inj hi
    have hdN:=hs.dst i o t ho hd
    have:(a.put o.dst v).eval (.tmp t)=v:=by rw[hd];simp[Act.put,Act.eval,hp.size,hdN]
    rw[this]
    exact hO.rel
   ·have hD':D i:=hD.resolve_right e1
    have hne:=hs.uniq i j o o' t e1 hi ho hd
    rw[Act.eval_put (fun d hd' he'=>hne (by rw[hd'];simpa using he'.symm))]
    exact(hp.done t i o' hD' hi hd).step hO.step
  ·intro t hn
   have hne:o.dst≠some t:=hn j o (.inr rfl) ho
   rw[Act.eval_put (fun d hd' he'=>hne (by rw[hd'];simpa using he'.symm))]
   exact(hp.old t (fun i o' hD=>hn i o' (.inl hD))).step hO.step
  ·cases o.dst<;>exact hp.defers
  ·rw[Act.size_put];exact hp.size
theorem XhL{nb:Nat}{listed:Array Bool}(hs:DrawSpec ops N nb eff)(hr:Region.ready .any ops listed=[])(hsz:listed.size=ops.size):∀i,i<ops.size→listed.getD i false=true:=by
 intro i
 induction i using Nat.strongRecOn with
 |_ i ih=>
  intro hi
  by_cases h:listed.getD i false=true
  ·exact h
  ·have hmem:i∈Region.ready .any ops listed:=by
    rw[mem_ready]
    refine⟨?_,ops[i],Array.getElem?_eq_getElem hi,?_⟩
    ·have hl:i<listed.size:=by omega
     simp only[Array.getD,hl,dif_pos]at h⊢
     simpa using h
    ·intro e he hb
     have:=hs.back i _ (Array.getElem?_eq_getElem hi) e he hb
     exact ih e.on this (by omega)
   rw[hr]at hmem
   cases hmem
theorem Xg2{c:Ctx}{Ei:Env}{Q:Exit→Act→World→Prop}(hrun:TextRun P ops N st outs eff)(hs:DrawSpec ops N st.rt.length eff)
  (hap:∀(i j:Nat),i≠j→i<ops.size→j<ops.size→O7 ops ops.size i j=true∨O7 ops ops.size j i=true∨(Ks st.rt.length eff i j=true∧Ks st.rt.length eff j i=true))
  (hQ:∀(E:Env) (a:Act),Part c Ei N ops st outs (fun i=>i<ops.size) E a→Q .normal a E.w):
  ∀(fuel:Nat) (listed:Array Bool) (E:Env) (a:Act),listed.size=ops.size→ops.size≤fuel+((List.range ops.size).filter fun i=>listed.getD i false).length→XeE ops (fun i=>listed.getD i false=true)→Part c Ei N ops st outs (fun i=>listed.getD i false=true) E a→
   wpAny P .any ops Q fuel listed a E.w:=by
 have fin:∀(listed:Array Bool) (E:Env) (a:Act),listed.size=ops.size→Region.ready .any ops listed=[]→Part c Ei N ops st outs (fun i=>listed.getD i false=true) E a→Q .normal a E.w:=by
  intro listed E a hsz hr hp
  refine hQ E a ?_
  have:(fun i=>listed.getD i false=true)=(fun i=>i<ops.size):=by
   funext i
   refine propext ⟨fun h=>?_,fun h=>XhL hs hr hsz i h⟩
   by_cases hi:i<listed.size
   ·omega
   ·simp[Array.getD,hi]at h
  rw[←this]
  exact hp
 intro fuel
 induction fuel with
 |zero=>
  intro listed E a hsz hcnt hc hp
  have hall:∀i,i<ops.size→listed.getD i false=true:=by
   have h1:((List.range ops.size).filter fun i=>listed.getD i false).length=(List.range ops.size).length:=by
    have:=List.length_filter_le (fun i=>listed.getD i false) (List.range ops.size)
    simp only[List.length_range]at this⊢
    omega
   intro i hi
   exact List.length_filter_eq_length_iff.1 h1 i (List.mem_range.2 hi)
  have hr:Region.ready .any ops listed=[]:=by
   rw[List.eq_nil_iff_forall_not_mem]
   intro i hi
   obtain⟨h1,o,h2,_⟩:=mem_ready.1 hi
   have hlt:=(Array.getElem?_eq_some_iff.1 h2).1
   have h3:=hall i hlt
   have hl:i<listed.size:=by omega
   simp only[Array.getD,hl,dif_pos]at h1 h3
   rw[h1]at h3
   cases h3
  exact⟨hr,fin listed E a hsz hr hp⟩
 |succ fuel ih=>
  intro listed E a hsz hcnt hc hp
  refine⟨fun hr=>fin listed E a hsz hr hp,?_⟩
  intro j hj
  obtain⟨h1,o,ho,hready⟩:=mem_ready.1 hj
  have hjn:=(Array.getElem?_eq_some_iff.1 ho).1
  have hjl:j<listed.size:=by omega
  have hjf:listed.getD j false=false:=by
   simp only[Array.getD,hjl,dif_pos]at h1⊢
   exact h1
  have hset:∀i,(listed.setIfInBounds j true).getD i false=true↔(listed.getD i false=true∨i=j):=by
   intro i
   by_cases e:i=j
   ·subst e
    simp[Array.getD,hjl]
   ·rw[getD_set_ne false (fun e'=>e e'.symm)]
    simp[e]
  refine Part.step_one hrun hs hap hp hc (fun i hi=>?_) ho (by rw[hjf];simp) hready ?_
  ·by_cases hi':i<listed.size
   ·omega
   ·simp[Array.getD,hi']at hi
  ·intro E' a' hp'
   have hD:(fun i=>(listed.setIfInBounds j true).getD i false=true)=(fun i=>listed.getD i false=true∨i=j):=funext fun i=>propext (hset i)
   refine ih (listed.setIfInBounds j true) E' a' (by simpa using hsz) ?_ ?_ (by rw[hD];exact hp')
   ·have hcount:((List.range ops.size).filter fun i=>listed.getD i false).length<((List.range ops.size).filter fun i=>(listed.setIfInBounds j true).getD i false).length:=by
     have sub:∀(l:List Nat),j∈l→(l.filter fun i=>listed.getD i false).length<(l.filter fun i=>(listed.setIfInBounds j true).getD i false).length:=by
      intro l
      have le:∀(l:List Nat),(l.filter fun i=>listed.getD i false).length≤(l.filter fun i=>(listed.setIfInBounds j true).getD i false).length:=by
       intro l
       induction l with
       |nil=>simp
       |cons x l ih=>
        simp only[List.filter_cons]
        by_cases hx:listed.getD x false=true
        ·rw[if_pos hx,if_pos ((hset x).2 (.inl hx))]
         simp only[List.length_cons]
         omega
        ·rw[if_neg hx]
         split
         ·simp only[List.length_cons];omega
         ·exact ih
      induction l with
      |nil=>intro h;cases h
      |cons x l ih=>
       intro hm
       simp only[List.filter_cons]
       by_cases e:x=j
       ·subst e
        rw[if_neg (by rw[hjf];simp),if_pos ((hset x).2 (.inr rfl))]
        simp only[List.length_cons]
        have:=le l
        omega
       ·have ih':=ih (by rcases List.mem_cons.1 hm with h|h;exact absurd h.symm e;exact h)
        by_cases hx:listed.getD x false=true
        ·rw[if_pos hx,if_pos ((hset x).2 (.inl hx))]
         simp only[List.length_cons]
         omega
        ·have hx':¬(listed.setIfInBounds j true).getD x false=true:=fun h=>((hset x).1 h).elim hx e
         rw[if_neg hx,if_neg hx']
         exact ih'
     exact sub _ (List.mem_range.2 hjn)
    omega
   ·intro i o' hi ho' e he hb
    rw[hset]at hi⊢
    rcases hi with hi|rfl
    ·exact .inl (hc i o' hi ho' e he hb)
    ·rw[ho]at ho'
     obtain rfl:=Option.some.inj ho'
     exact .inl (hready e he hb)
theorem AW.drawn{id:Nat}{Q:Exit→St→Prop}(hm:P.follows .mixedOrders=true)(hrun:TextRun P ops N st outs eff)(hb:Ot ops N st.rt.length eff=true)(k:Q .normal (Ti ops st outs ops.size)):AW P N (.region id ops true) Q st:=by
 have hs:=XfH hb
 have hap:∀(i j:Nat),i≠j→i<ops.size→j<ops.size→O7 ops ops.size i j=true∨O7 ops ops.size j i=true∨(Ks st.rt.length eff i j=true∧Ks st.rt.length eff j i=true):=by
  intro i j hne hi hj
  rcases hs.apart i j hne hi hj with h|h|h
  ·exact .inl h
  ·exact .inr (.inl h)
  ·rcases hs.apart j i hne.symm hj hi with h'|h'|h'
   ·exact .inr (.inl h')
   ·exact .inl h'
   ·exact .inr (.inr ⟨h,h'⟩)
 intro c Ei a w hH
 obtain⟨E,rfl,hM,hSt,hrt,hpr,hsl,hdef,hsz,hmm⟩:=hH
 let E0:Env:={E with rt:=K3 ops st outs,w:={E.w with drawn:=E.w.drawn+1}}
 have hbase:∀r R,E.rt r=some R→K3 ops st outs r=some R:=by
  intro r R hR
  rw[hrt]at hR
  have hR':st.rt[r]? =some R:=hR
  rw[Zf (List.getElem?_eq_some_iff.1 hR').1]
  exact hR'
 have hbase':∀r R,E.pres r→K3 ops st outs r=some R→E.rt r=some R:=by
  intro r R hp hR
  rw[Zf ((hpr r).1 hp)]at hR
  rw[hrt]
  exact hR
 have aa:Step E E0:=⟨fun r R hr=>⟨R,hbase r R hr,.inr rfl⟩,fun _ h=>h,fun _ _=>rfl,fun _ h=>h,fun _ _=>rfl,fun _ _ h=>h⟩
 have hM0:Mem c E0:=by
  have h1:=hM.grown hbase hbase'
  have st1:Step {E with rt:=K3 ops st outs} E0:=⟨fun _ R h=>⟨R,h,.inr rfl⟩,fun _ h=>h,fun _ _=>rfl,fun _ h=>h,fun _ _=>rfl,fun _ _ h=>h⟩
  exact{h1 with glob:=Globs.step st1.S st1.heap h1.glob,roots:=fun r R hp hR=>(h1.roots r R hp hR).step st1 hp (fun _ _=>rfl) (fun _ _ h=>h)}
 have hfalse:∀i,¬(Array.replicate ops.size false).getD i false=true:=by
  intro i
  simp[Array.getD]
 refine wp_region_any hm ?_
 refine Xg2 (c:=c) (Ei:=Ei) hrun hs hap ?_ ops.size (Array.replicate ops.size false) E0 a (by simp) (by omega) ?_ ?_
 ·intro E1 a1 hp
  refine⟨Ti ops st outs ops.size,k,E1,rfl,hp.mem,hp.step,?_,?_,?_,hp.defers,hp.size,?_⟩
  ·rw[hp.rt]
   funext r
   have hcut:Tj outs (fun i=>i<ops.size) (K3 ops st outs) ops.size=Tj outs (fun _=>True) (K3 ops st outs) ops.size:=Zv (Nat.le_refl _)
   rw[hcut]
   by_cases hlt:r<st.rt.length+(Cx outs ops.size).length
   ·exact(V6 hrun (Nat.le_refl _) hlt).symm
   ·rw[Tz]
    ·have h1:K3 ops st outs r=none:=List.getElem?_eq_none (by simp;omega)
     have h2:(Ti ops st outs ops.size).look r=none:=List.getElem?_eq_none (by rw[Jg (Nat.le_refl _)];omega)
     rw[h1,h2]
    ·intro i hi _ p hp'
     have h1:=hrun.glt i hi p hp'
     rw[Jg (by omega)]at h1
     obtain⟨l,hl⟩:=Hi (outs:=outs) (show i+1≤ops.size by omega)
     have h2:(Cx outs ops.size).length=(Cx outs i).length+(outs i).new.length+l.length:=by rw[hl];simp[Cx];omega
     omega
  ·intro r
   rw[hp.pres,Jg (Nat.le_refl _)]
   have cover:∀n,n≤ops.size→(st.rt.length≤r→r<st.rt.length+(Cx outs n).length→∃i,i<n∧st.rt.length+(Cx outs i).length≤r∧r<st.rt.length+(Cx outs i).length+(outs i).new.length):=by
    intro n
    induction n with
    |zero=>intro _ h1 h2;simp[Cx]at h2;omega
    |succ n ih=>
     intro hn h1 h2
     by_cases hlt:r<st.rt.length+(Cx outs n).length
     ·obtain⟨i,hi,h3⟩:=ih (by omega) h1 hlt
      exact⟨i,by omega,h3⟩
     ·simp only[Cx,List.length_append]at h2
      exact⟨n,by omega,by omega,by omega⟩
   constructor
   ·rintro(h|⟨i,hi,_,h1,h2⟩)
    ·omega
    ·obtain⟨l,hl⟩:=Hi (outs:=outs) (show i+1≤ops.size by omega)
     have h3:(Cx outs ops.size).length=(Cx outs i).length+(outs i).new.length+l.length:=by rw[hl];simp[Cx];omega
     omega
   ·intro h
    by_cases hlt:r<st.rt.length
    ·exact .inl hlt
    ·obtain⟨i,hi,h1,h2⟩:=cover ops.size (Nat.le_refl _) (by omega) h
     exact .inr ⟨i,hi,hi,h1,h2⟩
  ·intro t
   obtain⟨sl1,sl2⟩:=Ut (st:=st) (outs:=outs) hs (j:=ops.size) (t:=t) (Nat.le_refl _)
   by_cases hex:∃(i:Nat) (o':Oper),ops[i]? =some o'∧o'.dst=some t
   ·obtain⟨i,o',hi,hd⟩:=hex
    have hlt:=(Array.getElem?_eq_some_iff.1 hi).1
    rw[sl1 i o' hlt hi hd]
    exact hp.done t i o' hlt hi hd
   ·rw[sl2 (fun i o' _ hi hd=>hex ⟨i,o',hi,hd⟩)]
    exact hp.old t (fun i o' _ hi hd=>hex ⟨i,o',hi,hd⟩)
  ·rw[Jg (Nat.le_refl _)]
   omega
 ·intro j o hD
  exact absurd hD (hfalse j)
 ·refine⟨hM0,hSt.trans aa,?_,?_,?_,?_,hdef,hsz,hmm⟩
  ·funext r
   exact(Tz (fun i _ hD=>absurd hD (hfalse i))).symm
  ·intro r
   show E.pres r↔_
   rw[hpr]
   constructor
   ·exact .inl
   ·rintro(h|⟨i,_,hD,_⟩)
    ·exact h
    ·exact absurd hD (hfalse i)
  ·intro t i o' hD
   exact absurd hD (hfalse i)
  ·intro t _
   exact(hsl t).step aa
end
open Go
inductive Walk (P:Program) (N:Nat) (ops:Array Oper):Nat→St→List (Out×Eff)→St→Prop
 |done {i:Nat} {st:St} (h:i=ops.size):Walk P N ops i st [] st
 |cons {i:Nat} {st st':St} {o:Oper} {out:Out} {e:Eff} {l:List (Out×Eff)} (ho:ops[i]? =some o) (hd:∀d,o.dst=some d→d<N) (hs:OpSem P ops i e.T st.sl st.look st.rt.length out)
   (hg:e.g=out.g.map (·.1)) (hn:e.n=out.new.length) (hl:∀p∈out.g,p.1<st.rt.length+out.new.length) (t:Walk P N ops (i+1) (st.put o.dst out) l st'):Walk P N ops i st ((out,e)::l) st'
section
variable {P:Program} {N:Nat} {ops:Array Oper} {Q:Exit→St→Prop}
theorem XjJ{i:Nat}{st st':St}{l:List (Out×Eff)}(h:Walk P N ops i st l st')(k:Q .normal st'):OpsW P N ops ((List.range (ops.size - i)).map (i+·)) Q st:=by
 induction h with
 |done h=>subst h;simp only[Nat.sub_self,List.range_zero,List.map_nil];exact OpsW.nil k
 | @cons i st st' o out e l ho hd hs hg hn hl t ih=>
   have hi:i<ops.size:=(Array.getElem?_eq_some_iff.1 ho).1
   have:ops.size - i=(ops.size - (i+1))+1:=by omega
   rw[this,List.range_succ_eq_map,List.map_cons,List.map_map,Nat.add_zero]
   refine OpsW.cons ho hd hl hs ?_
   have e:((fun x=>i+x)∘Nat.succ)=(fun x=>i+1+x):=by funext x;simp only[Function.comp];omega
   rw[e]
   exact ih k
def Ja(l:List (Out×Eff)):Nat→Out:=fun i=>((l[i]?).map (·.1)).getD ⟨.junk,[],[]⟩
theorem XiZ{st0 st st':St}{pre l:List (Out×Eff)}{i:Nat}(h:Walk P N ops i st l st'):pre.length=i→st=Ti ops st0 (Ja (pre++l)) i→
  Ti ops st0 (Ja (pre++l)) ops.size=st'∧∀j,i≤j→j<ops.size→∃e,((pre++l).map (·.2))[j]? =some e∧OpSem P ops j e.T (Ti ops st0 (Ja (pre++l)) j).sl (Ti ops st0 (Ja (pre++l)) j).look (Ti ops st0 (Ja (pre++l)) j).rt.length (Ja (pre++l) j)∧
   e.g=(Ja (pre++l) j).g.map (·.1)∧e.n=(Ja (pre++l) j).new.length∧∀p∈(Ja (pre++l) j).g,p.1<(Ti ops st0 (Ja (pre++l)) j).rt.length+(Ja (pre++l) j).new.length:=by
 induction h generalizing pre with
 |done h=>intro hp hst;subst h;exact⟨hst.symm,fun j h1 h2=>by omega⟩
 | @cons i st st' o out e l ho hd hs hg hn hl t ih=>
   intro hp hst
   have key:=ih (pre:=pre++[(out,e)]) (by simp[hp]) (by
    rw[List.append_assoc,List.singleton_append,Rm ho,←hst]
    have:Ja (pre++(out,e)::l) i=out:=by simp[Ja,←hp]
    rw[this])
   rw[List.append_assoc,List.singleton_append]at key
   refine⟨key.1,?_⟩
   intro j h1 h2
   by_cases hj:j=i
   ·subst hj
    have h3:Ja (pre++(out,e)::l) j=out:=by simp[Ja,←hp]
    refine⟨e,by simp[←hp],?_⟩
    rw[h3,←hst]
    exact⟨hs,hg,hn,hl⟩
   ·exact key.2 j (by omega) h2
theorem AW.reg{id:Nat}{draw:Bool}{st:St}(h:∃l st',Walk P N ops 0 st l st'∧(draw=true→P.follows .mixedOrders=true∧Ot ops N st.rt.length (l.map (·.2))=true)∧Q .normal st'):AW P N (.region id ops draw) Q st:=by
 obtain⟨l,st',hw,hd,hq⟩:=h
 cases draw with
 |false=>
  refine AW.region ?_
  have:=XjJ hw hq
  simpa using this
 |true=>
  obtain⟨h1,h2⟩:=XiZ (pre:=[]) (st0:=st) hw rfl rfl
  simp only[List.nil_append]at h1 h2
  refine AW.drawn (outs:=Ja l) (eff:=l.map (·.2)) (hd rfl).1 ⟨?_,?_⟩ (hd rfl).2 ?_
  ·intro i hi
   obtain⟨e,k1,k2,k3,k4,_⟩:=h2 i (Nat.zero_le _) hi
   exact⟨e,k1,k2,k3,k4⟩
  ·intro i hi
   obtain⟨e,k1,k2,k3,k4,k5⟩:=h2 i (Nat.zero_le _) hi
   exact k5
  ·rw[h1];exact hq
def RW(P:Program)(N:Nat)(ops:Array Oper)(i:Nat)(st:St)(acc:List Eff)(K:List Eff→St→Prop):Prop:=∃l st',Walk P N ops i st l st'∧K (acc++l.map (·.2)) st'
theorem RW.done{i:Nat}{st:St}{acc:List Eff}{K:List Eff→St→Prop}(h:i=ops.size)(k:K acc st):RW P N ops i st acc K:=⟨[],st,.done h,by simpa using k⟩
theorem RW.cons{i:Nat}{st:St}{acc:List Eff}{K:List Eff→St→Prop}{o:Oper}{out:Out}{T:List Nat}(ho:ops[i]? =some o)(hd:∀d,o.dst=some d→d<N)(hs:OpSem P ops i T st.sl st.look st.rt.length out)
  (hl:∀p∈out.g,p.1<st.rt.length+out.new.length)(t:RW P N ops (i+1) (st.put o.dst out) (acc++[⟨out.g.map (·.1),out.new.length,T⟩]) K):RW P N ops i st acc K:=by
 obtain⟨l,st',hw,hk⟩:=t
 exact⟨(out,⟨out.g.map (·.1),out.new.length,T⟩)::l,st',.cons ho hd hs rfl rfl hl hw,by simpa using hk⟩
theorem AW.reg'{id:Nat}{draw:Bool}{st:St}(h:RW P N ops 0 st [] fun effs st'=>(draw=true→P.follows .mixedOrders=true∧Ot ops N st.rt.length effs=true)∧Q .normal st'):AW P N (.region id ops draw) Q st:=by
 obtain⟨l,st',hw,hd,hq⟩:=h
 exact AW.reg ⟨l,st',hw,by simpa using hd,hq⟩
def Xcx(N:Nat)(o:Oper):Bool:=match o.dst with|some d=>decide (d<N)|none=>true
theorem Eb{o:Oper}(h:Xcx N o=true):∀d,o.dst=some d→d<N:=by
 intro d hd
 simp only[Xcx,hd,decide_eq_true_eq]at h
 exact h
end
open Go
inductive SK where
 |int (k:IntKind)|str|bool|sl (sz:Nat)|other
def Tk(P:Program)(t:TypeId):SK:=
 match P.underlying t with
 |some (.int k)=>.int k
 |some .string=>.str
 |some .bool=>.bool
 |some (.slice e)=>.sl (((P.info? e).map (·.size)).getD 0)
 |_=>.other
def XgD(P:Program):Nat→TypeId→List SK
 |0,_=>[]
 |f+1,t=>
  match P.underlying t with
  |some (.struct fs)=>fs.toList.flatMap fun g=>XgD P f g.type
  |some (.array n e)=>(List.replicate n (XgD P f e)).flatten
  |_=>[Tk P t]
structure TyRow where
 sk:SK
 sz:Option Nat
 agg:Option Bool
 el:Option (Nat×Nat)
 bsl:Bool
 leaves:List SK
 flds:List (Option (Nat×Nat×Bool))
 zero:Option (List (Value×Nat))
 ez:Option (List D×Nat×Nat)
 pl:Option (List (Nat×Nat))
 eq:Option (List EK)
def Xlg(P:Program)(t:TypeId):List (Option (Nat×Nat×Bool)):=
 match P.underlying t with
 |some (.struct fs)=>(List.range fs.size).map fun f=>Xji P t f
 |_=>[]
def Em(P:Program)(t:TypeId):TyRow:=⟨Tk P t,szT P t,Xam P t,elT P t,Cr P t,XgD P 8 t,Xlg P t,La P t,ezT P t,Vr P t,eqT P t⟩
def Cu:List (Nat×TyRow)→Nat→Option TyRow
 |[],_=>none
 |(t,r)::l,x=>if t=x then some r else Cu l x
def Bl(P:Program)(tab:List (Nat×TyRow)):Prop:=∀t r,Cu tab t=some r→r=Em P t
theorem Bl.of{P:Program}{tab:List (Nat×TyRow)}(h:tab=tab.map fun p=>(p.1,Em P p.1)):Bl P tab:=by
 have key:∀l:List (Nat×TyRow),(∀p∈l,p.2=Em P p.1)→∀t r,Cu l t=some r→r=Em P t:=by
  intro l
  induction l with
  |nil=>intro _ t r h;cases h
  |cons p l ih=>
   intro hl t r hr
   obtain⟨x,y⟩:=p
   simp only[Cu]at hr
   split at hr
   ·rename_i e
    subst e
    obtain rfl:=Option.some.inj hr
    exact hl (x,y) (by simp)
   ·exact ih (fun p hp=>hl p (by simp[hp])) t r hr
 refine key tab ?_
 intro p hp
 rw[h]at hp
 obtain⟨q,_,rfl⟩:=List.mem_map.1 hp
 rfl
structure Ar where
 bin:BinOp→IntKind→Int→Int→Int
 sh:BinOp→IntKind→Int→Int→Int
 cmp:BinOp→Int→Int→Bool
 scmp:BinOp→ByteArray→ByteArray→Bool
 bcmp:Bool→Bool→Bool
 bnot:Bool→Bool
 neg:IntKind→Int→Int
 wrap:IntKind→Int→Int
 cat:ByteArray→ByteArray→ByteArray
 ssize:ByteArray→Int
 ssub:ByteArray→Int→Int→ByteArray
 sget:ByteArray→Int→Int
 len:List (List D)→Int
 rsub:List (List D)→Int→Int→List (List D)
 app:List (List D)→List (List D)→List (List D)
 elt:List (List D)→Int→List D
 set:List (List D)→Nat→Nat→List D→List (List D)
 nth:List D→Nat→D
 drp:List D→Nat→List D
 str:D→ByteArray
 int:D→Int
 bool:D→Bool
 row:D→List (List D)
 nat:Int→Nat
 nadd:Nat→Nat→Nat
 nsub:Nat→Nat→Nat
 band:Bool→Bool→Bool
 ofNat:Nat→Int
 strRow:ByteArray→List (List D)
 mkRow:Int→List D→List (List D)
 mx:Int→Int→Int
 mn:Int→Int→Int
 bytes:List (List D)→ByteArray
 emp:List (List D)→Bool
def Xj6:Option Value→Int
 |some (.int _ n)=>n
 |_=>0
def Xhw:Option Value→Bool
 |some (.bool b)=>b
 |_=>false
def std:Ar where
 bin:=fun op k a b=>Xj6 (Q5 op k a b)
 sh:=fun op k a b=>match op with| .shl=>k.wrap (a*2^ (min b.toNat k.bits))|_=>a.fdiv (2^ (min b.toNat k.bits))
 cmp:=fun op a b=>Xhw (Q5 op .i64 a b)
 scmp:=fun op a b=>Xhw (Xx op a b)
 bcmp:=fun a b=>a==b
 bnot:=fun a=>!a
 neg:=fun k a=>k.wrap (0 - a)
 wrap:=fun k a=>k.wrap a
 cat:=fun a b=>a++b
 ssize:=fun a=>a.size
 ssub:=fun s a b=>s.extract a.toNat b.toNat
 sget:=fun s i=>if h:i.toNat<s.size then(((s[i.toNat]'h).toNat:Nat):Int)else 0
 len:=fun xs=>xs.length
 rsub:=fun xs a b=>(xs.drop a.toNat).take (b.toNat - a.toNat)
 app:=fun xs ys=>xs++ys
 elt:=fun xs i=>(xs[i.toNat]?).getD []
 set:=fun xs i j ds=>xs.set i (Mi ((xs[i]?).getD []) j ds)
 nth:=fun xs j=>(xs[j]?).getD (.sc undef)
 drp:=fun xs j=>xs.drop j
 str:=fun x=>match x with| .sc (.string s)=>s|_=>default
 int:=fun x=>match x with| .sc (.int _ n)=>n|_=>0
 bool:=fun x=>match x with| .sc (.bool b)=>b|_=>false
 row:=fun x=>match x with| .row _ xs=>xs|_=>[]
 nat:=Int.toNat
 nadd:=fun a b=>a+b
 nsub:=fun a b=>a - b
 band:=fun a b=>a&&b
 ofNat:=fun n=>n
 strRow:=strRow
 mkRow:=fun n z=>List.replicate n.toNat z
 mx:=fun a b=>if b>a then b else a
 mn:=fun a b=>if b<a then b else a
 bytes:=fun xs=>match Gw xs with|some ns=>D3 ns|none=>default
 emp:=fun xs=>xs.isEmpty
open Go
inductive InR (i n:Int):Prop|mk (h0:0≤i) (h1:i<n):InR i n
inductive Slc (lo hi n:Int):Prop|mk (h0:0≤lo) (h1:lo≤hi) (h2:hi≤n):Slc lo hi n
inductive IsD (x y:D):Prop|mk (h:x=y):IsD x y
inductive LenGe (x:List D) (n:Nat):Prop|mk (h:n≤x.length):LenGe x n
inductive NonNeg (a:Int):Prop|mk (h:0≤a):NonNeg a
inductive NeZ (a:Int):Prop|mk (h:a≠0):NeZ a
inductive CatOk (a b:ByteArray):Prop|mk (h:((a.size+b.size:Nat):Int)≤IntKind.i64.max):CatOk a b
inductive AppOk (off len:Nat) (xs ys:List (List D)) (bytes:Nat):Prop
 |mk (h0:off=0) (h1:len=xs.length) (h2:(2*(xs.length+ys.length)+1024)*bytes≤2^48) (h3:xs.length+ys.length<2^62):AppOk off len xs ys bytes
inductive SubOk (off len:Nat) (xs:List (List D)):Prop|mk (h:off+len≤xs.length):SubOk off len xs
inductive MakeOk (n m:Int) (bytes:Nat):Prop|mk (h0:0≤n) (h1:n≤m) (h2:bytes*m≤2^48) (h3:m<2^63):MakeOk n m bytes
inductive ByteOk (xs:List (List D)):Prop|mk (ns:List Int) (h:Gw xs=some ns):ByteOk xs
abbrev VO:=Option (Out×List Prop)
abbrev VA:=Option (AV×List Prop)
def XhR(x:VA):VO:=match x with|some (av,p)=>some (⟨av,[],[]⟩,p)|none=>none
def Xdn(A:Ar)(k:SK)(x:D):D×List Prop:=
 match k with
 | .int k=>(.sc (.int k (A.int x)),[IsD x (.sc (.int k (A.int x)))])
 | .str=>(.sc (.string (A.str x)),[IsD x (.sc (.string (A.str x)))])
 | .bool=>(.sc (.bool (A.bool x)),[IsD x (.sc (.bool (A.bool x)))])
 | .sl sz=>(.row sz (A.row x),[IsD x (.row sz (A.row x))])
 | .other=>(x,[])
def Na(A:Ar)(cs:List D):Nat→List SK→List AV×List Prop
 |_,[]=>([],[])
 |j,k::ks=>(.d (Xdn A k (A.nth cs j)).1::(Na A cs (j+1) ks).1,(Xdn A k (A.nth cs j)).2++(Na A cs (j+1) ks).2)
def Xi9(A:Ar)(R:TyRow)(cs:List D):VA:=
 match R.agg,R.sz,R.leaves with
 |some true,some n,ks=>if ks.length=n∧n≠0 then some (.agg (Na A cs 0 ks).1,LenGe cs n::(Na A cs 0 ks).2)else none
 |some false,some _,[k]=>some (.d (Xdn A k (A.nth cs 0)).1,LenGe cs 1::(Xdn A k (A.nth cs 0)).2)
 |_,_,_=>none
def XkA(A:Ar)(rt:Nat→Option Root)(R:TyRow):AV→VA
 | .ptr r i j=>
   match rt r with
   |some (.row _ _ xs)=>match Xi9 A R (A.drp (A.elt xs (A.ofNat i)) j)with
    |some (av,p)=>some (av,InR (A.ofNat i) (A.len xs)::p)
    |none=>none
   |some (.box ty l)=>match i,R.agg,R.sz with
    |0,some g,some n=>(match K7 l j n g with|some av=>some (av,[])|none=>none)
    |_,_,_=>none
   |_=>none
 | .rptr cs=>Xi9 A R cs
 |_=>none
def Rp(A:Ar)(rt:Nat→Option Root)(R:TyRow)(x:AV)(i:Int):VA:=
 match R.el with
 |none=>none
 |some (esz,_)=>
  match x with
  | .ref r off len=>
    match rt r with
    |some (.row sz _ _)=>if esz=sz then some (.ptr r (A.nadd off (A.nat i)) 0,[InR i (A.ofNat len)])else none
    |_=>none
  | .d (.row sz xs)=>if esz=sz then some (.rptr (A.elt xs i),[InR i (A.len xs)])else none
  |_=>none
def R6(A:Ar)(rt:Nat→Option Root)(fl:Option (Nat×Nat×Bool)):AV→VA
 | .ptr r i j=>if K5 rt r then(match fl with|some (o,n,_)=>if n=0 then none else some (.ptr r i (j+o),[])|none=>none)else none
 | .rptr cs=>match fl with|some (o,n,_)=>if n=0 then none else some (.rptr (A.drp cs o),[])|none=>none
 |_=>none
def G0:SK→Bool
 | .str=>true
 |_=>false
def Xiw(A:Ar)(rt:Nat→Option Root)(R:TyRow)(x:AV)(lo hi:Option Int):VA:=
 match x with
 | .d (.sc (.string s))=>if G0 R.sk then some (.d (.sc (.string (A.ssub s (lo.getD 0) (hi.getD (A.ssize s))))),[Slc (lo.getD 0) (hi.getD (A.ssize s)) (A.ssize s)])else none
 | .d (.row sz xs)=>match R.el with
   |some (esz,_)=>if esz=sz then some (.d (.row sz (A.rsub xs (lo.getD 0) (hi.getD (A.len xs)))),[Slc (lo.getD 0) (hi.getD (A.len xs)) (A.len xs)])else none
   |none=>none
 | .ref r off len=>
   match rt r,R.el with
   |some (.row sz _ _),some (esz,_)=>if esz=sz then some (.ref r (A.nadd off (A.nat (lo.getD 0))) (A.nsub (A.nat (hi.getD (A.ofNat len))) (A.nat (lo.getD 0))),[Slc (lo.getD 0) (hi.getD (A.ofNat len)) (A.ofNat len)])else none
   |_,_=>none
 |_=>none
def XcG(A:Ar)(R:TyRow)(x:AV)(i:Int):VA:=
 match x with
 | .d (.sc (.string s))=>if G0 R.sk then some (.d (.sc (.int .u8 (A.sget s i))),[InR i (A.ssize s)])else none
 |_=>none
def Xh6(A:Ar)(op:BinOp)(k:IntKind)(a b:Int):VA:=
 match op with
 | .add| .sub| .mul| .and| .or| .xor| .andNot=>some (.d (.sc (.int k (A.bin op k a b))),[])
 | .quo| .rem=>some (.d (.sc (.int k (A.bin op k a b))),[NeZ b])
 | .eql| .neq| .lss| .leq| .gtr| .geq=>some (.d (.sc (.bool (A.cmp op a b))),[])
 |_=>none
def XhH(A:Ar)(op:BinOp)(a b:ByteArray):VA:=
 match op with
 | .add=>some (.d (.sc (.string (A.cat a b))),[CatOk a b])
 | .eql| .neq| .lss| .leq| .gtr| .geq=>some (.d (.sc (.bool (A.scmp op a b))),[])
 |_=>none
def Zi:SK→Bool
 | .bool=>true
 |_=>false
def vEq(A:Ar):List EK→List AV→List AV→Option Bool
 |[],[],[]=>some true
 | .int::ks,.d (.sc (.int k a))::xs,.d (.sc (.int k' b))::ys=>if k=k' then(match vEq A ks xs ys with|some r=>some (A.band (A.cmp .eql a b) r)|none=>none)else none
 | .str::ks,.d (.sc (.string a))::xs,.d (.sc (.string b))::ys=>(match vEq A ks xs ys with|some r=>some (A.band (A.scmp .eql a b) r)|none=>none)
 | .bool::ks,.d (.sc (.bool a))::xs,.d (.sc (.bool b))::ys=>(match vEq A ks xs ys with|some r=>some (A.band (A.bcmp a b) r)|none=>none)
 |_,_,_=>none
def vBin(A:Ar)(R:TyRow)(op:BinOp)(x y:AV):VA:=
 match x,y with
 | .d (.sc (.int k a)),.d (.sc (.int k' b))=>
   match op with
   | .shl=>some (.d (.sc (.int k (A.sh .shl k a b))),[NonNeg b])
   | .shr=>some (.d (.sc (.int k (A.sh .shr k a b))),[NonNeg b])
   |_=>if k=k' then Xh6 A op k a b else none
 | .d (.sc (.string a)),.d (.sc (.string b))=>XhH A op a b
 | .d (.sc (.bool a)),.d (.sc (.bool b))=>if Zi R.sk then(match op with| .eql=>some (.d (.sc (.bool (A.bcmp a b))),[])| .neq=>some (.d (.sc (.bool (A.bnot (A.bcmp a b)))),[])|_=>none)else none
 | .agg xs,.agg ys=>
   match op,R.eq with
   | .eql,some ks=>(match vEq A ks xs ys with|some b=>some (.d (.sc (.bool b)),[])|none=>none)
   | .neq,some ks=>(match vEq A ks xs ys with|some b=>some (.d (.sc (.bool (A.bnot b))),[])|none=>none)
   |_,_=>none
 |_,_=>none
def Xjd(A:Ar)(rt:Nat→Option Root)(R:TyRow)(op:BinOp)(x y:AV)(yo:Operand):VA:=
 match O5 yo with
 |true=>(match op,R.sk,x with
  | .eql,.sl _,.d (.row _ xs)=>some (.anyb (A.emp xs),[])
  | .eql,.sl _,.ref r _ len=>if K5 rt r then some (.anyb (A.cmp .eql (A.ofNat len) 0),[])else none
  |_,_,_=>none)
 |false=>vBin A R op x y
def vUn(A:Ar)(op:UnOp):AV→VA
 | .d (.sc (.bool b))=>match op with| .not=>some (.d (.sc (.bool (A.bnot b))),[])|_=>none
 | .d (.sc (.int k n))=>match op with| .neg=>some (.d (.sc (.int k (A.neg k n))),[])|_=>none
 |_=>none
def vToD(A:Ar)(rt:Nat→Option Root):AV→Option (D×List Prop)
 | .d x=>some (x,[])
 | .ref r off len=>
   match rt r with
   |some (.row sz true xs)=>some (.row sz (A.rsub xs (A.ofNat off) (A.ofNat (A.nadd off len))),[SubOk off len xs])
   |_=>none
 |_=>none
def Xfx(A:Ar)(rt:Nat→Option Root):List AV→Option (List D×List Prop)
 |[]=>some ([],[])
 |x::l=>match vToD A rt x,Xfx A rt l with
  |some (d,p),some (ds,q)=>some (d::ds,p++q)
  |_,_=>none
def vSrc(A:Ar)(rt:Nat→Option Root):AV→Option (Nat×List (List D)×List Prop)
 | .d (.sc (.string s))=>some (1,A.strRow s,[])
 | .d (.row sz xs)=>some (sz,xs,[])
 | .ref r off len=>
   match rt r with
   |some (.row sz _ xs)=>some (sz,A.rsub xs (A.ofNat off) (A.ofNat (A.nadd off len)),[SubOk off len xs])
   |_=>none
 |_=>none
def V3(A:Ar)(rt:Nat→Option Root)(nb:Nat)(R:TyRow)(s x:AV):VO:=
 match s,R.el,R.ez with
 | .ref r off len,some (n,bytes),some _=>
   match rt r,vSrc A rt x with
   |some (.row sz false xs),some (sz',ys,p)=>
    if sz'=sz∧n=sz then some (⟨.ref nb 0 (A.nat (A.len (A.app xs ys))),[.row sz false (A.app xs ys)],[(r,.dead)]⟩,AppOk off len xs ys bytes::p)else none
   |_,_=>none
 |_,_,_=>none
def Xgt(A:Ar)(rt:Nat→Option Root)(n:Nat)(p x:AV):Option ((Nat×Root)×List Prop):=
 match p with
 | .ptr r i j=>
   match rt r with
   |some (.box ty l)=>(match i,x.leaves with
    |0,some ys=>if ys.length=n∧j+ys.length≤l.length then some ((r,.box ty (Mi l j ys)),[])else none
    |_,_=>none)
   |some (.row sz false xs)=>(match x.leaves with
    |some ys=>(match Xfx A rt ys with
     |some (ds,q)=>if ds.length=n then some ((r,.row sz false (A.set xs i j ds)),InR (A.ofNat i) (A.len xs)::LenGe (A.elt xs (A.ofNat i)) (j+ds.length)::q)else none
     |none=>none)
    |none=>none)
   |_=>none
 |_=>none
def Xle(A:Ar)(rt:Nat→Option Root)(S T:TyRow)(x:AV):VA:=
 match T.sk,x with
 | .int k,.d (.sc (.int _ n))=>(match S.sk with| .int _=>some (.d (.sc (.int k (A.wrap k n))),[])|_=>none)
 | .str,.d (.sc (.string s))=>if G0 S.sk then some (.d (.sc (.string s)),[])else none
 | .str,.d (.row sz xs)=>if S.bsl∧sz=1 then some (.d (.sc (.string (A.bytes xs))),[ByteOk xs])else none
 | .str,.ref r off len=>(match rt r with
   |some (.row sz _ xs)=>if S.bsl∧sz=1 then some (.d (.sc (.string (A.bytes (A.rsub xs (A.ofNat off) (A.ofNat (A.nadd off len)))))),[SubOk off len xs,ByteOk (A.rsub xs (A.ofNat off) (A.ofNat (A.nadd off len)))])else none
   |_=>none)
 |_,_=>none
def vLen(A:Ar)(rt:Nat→Option Root)(R:TyRow):AV→VA
 | .d (.sc (.string s))=>if G0 R.sk then some (.d (.sc (.int .i64 (A.ssize s))),[])else none
 | .d (.row _ xs)=>(match R.sk with| .sl _=>some (.d (.sc (.int .i64 (A.len xs))),[])|_=>none)
 | .ref r _ len=>(match R.sk with| .sl _=>if K5 rt r then some (.d (.sc (.int .i64 (A.ofNat len))),[])else none|_=>none)
 |_=>none
def Uw(A:Ar)(rt:Nat→Option Root)(sl:Nat→AV):List (Nat×Operand)→Option (List (Nat×List D)×List Prop)
 |[]=>some ([],[])
 |(i,x)::rest=>match(Bw sl x).leaves with
  |none=>none
  |some l=>match Xfx A rt l,Uw A rt sl rest with
   |some (ds,p),some (r,q)=>some ((i,ds)::r,p++q)
   |_,_=>none
def XkU(A:Ar)(tab:List (Nat×TyRow))(nb:Nat)(sl:Nat→AV)(rt:Nat→Option Root)(c:Call):VO:=
 match c.callee,c.args.toList,c.argTypes.toList with
 | .builtin .len,[x],[t]=>(match Cu tab t with|some R=>XhR (vLen A rt R (Bw sl x))|none=>none)
 | .builtin .append,[s,x],[t,xt]=>(match Cu tab t,Cu tab xt with
   |some R,some X=>(match X.sk with| .sl _=>V3 A rt nb R (Bw sl s) (Bw sl x)| .str=>V3 A rt nb R (Bw sl s) (Bw sl x)|_=>none)
   |_,_=>none)
 | .builtin .max,[x,y],_=>(match Bw sl x,Bw sl y with| .d (.sc (.int k a)),.d (.sc (.int _ b))=>some (⟨.d (.sc (.int k (A.mx a b))),[],[]⟩,[])|_,_=>none)
 | .builtin .min,[x,y],_=>(match Bw sl x,Bw sl y with| .d (.sc (.int k a)),.d (.sc (.int _ b))=>some (⟨.d (.sc (.int k (A.mn a b))),[],[]⟩,[])|_,_=>none)
 |_,_,_=>none
def XiP:Option TyRow→Nat
 |some R=>(R.el.map (·.1)).getD 0
 |none=>0
def Xju(tab:List (Nat×TyRow))(nb:Nat)(sl:Nat→AV)(ty:TypeId)(x:Operand):VO:=
 match x with
 | .const (.slice none 0 0)=>(match Cu tab ty with|some R=>some (⟨.ref nb 0 0,[.row (XiP (some R)) false []],[]⟩,[])|none=>none)
 |x=>some (⟨Bw sl x,[],[]⟩,[])
def vev(A:Ar)(tab:List (Nat×TyRow))(nb:Nat)(sl:Nat→AV)(rt:Nat→Option Root)(o:Oper):VO:=
 match o.op with
 | .move x=>Xju tab nb sl o.type x
 | .assign x=>Xju tab nb sl o.type x
 | .pick c a b=>(match Bw sl c with| .d (.sc (.bool true))=>some (⟨Bw sl a,[],[]⟩,[])| .d (.sc (.bool false))=>some (⟨Bw sl b,[],[]⟩,[])|_=>none)
 | .alloc t=>(match Cu tab t with|some R=>(match R.zero with|some zs=>some (⟨(Ph nb t zs).1,(Ph nb t zs).2,[]⟩,[])|none=>none)|none=>none)
 | .box t x=>(match(Bw sl x).leaves with|some l=>some (⟨.ptr nb 0 0,[.box t l],[]⟩,[])|none=>none)
 | .build t ps=>(match Cu tab t with
   |some R=>(match R.zero,R.pl,Gi sl ps.toList with
    |some zs,some pl,some l=>(match Z2 nb zs pl l with|some r=>some (⟨r.1,r.2,[]⟩,[])|none=>none)
    |_,_,_=>none)
   |none=>none)
 | .buildSlice t n ps=>(match Cu tab t with
   |some R=>(match R.ez,Uw A rt sl ps.toList with
    |some z,some (l,p)=>(match Hf nb z n l with|some r=>some (⟨r.1,r.2,[]⟩,p)|none=>none)
    |_,_=>none)
   |none=>none)
 | .load t x=>(match Cu tab t with|some R=>XhR (XkA A rt R (Bw sl x))|none=>none)
 | .store t p x=>(match Cu tab t with
   |some R=>(match R.sz,opd nb (XiP (some R)) sl x with
    |some n,(av,new)=>(match Xgt A rt n (Bw sl p) av with
     |some ((r,R'),q)=>if r<nb then some (⟨.junk,new,[(r,R')]⟩,q)else none
     |none=>none)
    |_,_=>none)
   |none=>none)
 | .nilCheck x=>(match XcK rt (Bw sl x)with|some v=>some (⟨v,[],[]⟩,[])|none=>none)
 | .binOp op t x y _=>(match Cu tab t with|some R=>XhR (Xjd A rt R op (Bw sl x) (Bw sl y) y)|none=>none)
 | .unOp op _ x=>XhR (vUn A op (Bw sl x))
 | .convert s d x=>(match Cu tab s,Cu tab d with|some S,some T=>XhR (Xle A rt S T (Bw sl x))|_,_=>none)
 | .fieldAddr t x f=>(match Cu tab t with|some R=>(match R.flds[f]? with|some fl=>XhR (R6 A rt fl (Bw sl x))|none=>none)|none=>none)
 | .field t x f=>(match Cu tab t with|some R=>(match R.flds[f]? with|some fl=>(match Uc fl (Bw sl x)with|some v=>some (⟨v,[],[]⟩,[])|none=>none)|none=>none)|none=>none)
 | .indexAddr t x i=>(match Cu tab t,Bw sl i with|some R,.d (.sc (.int _ n))=>XhR (Rp A rt R (Bw sl x) n)|_,_=>none)
 | .index t x i=>(match Cu tab t,Bw sl i with|some R,.d (.sc (.int _ n))=>XhR (XcG A R (Bw sl x) n)|_,_=>none)
 | .slice t x lo hi none=>(match Cu tab t,G2 sl lo,G2 sl hi with|some R,some l,some h=>XhR (Xiw A rt R (Bw sl x) l h)|_,_,_=>none)
 | .makeSlice t n m=>(match Cu tab t,Bw sl n,Bw sl m with
   |some R,.d (.sc (.int _ n)),.d (.sc (.int _ m))=>(match R.ez with|some z=>some (⟨.ref nb 0 (A.nat n),[.row z.2.1 false (A.mkRow n z.1)],[]⟩,[MakeOk n m z.2.2])|none=>none)
   |_,_,_=>none)
 | .extract x i=>(match Qd i (Bw sl x)with|some v=>some (⟨v,[],[]⟩,[])|none=>none)
 | .makeFunc (.func f) first caps=>if first.size=0 then some (⟨.clo f (caps.toList.map (Bw sl)),[],[]⟩,[])else none
 | .call c=>XkU A tab nb sl rt c
 |_=>none
open Go
section
variable {P:Program} {rt:Nat→Option Root} {x y av:AV} {ps:List Prop}
theorem Xeb{k:SK}{d:D}(h:∀p∈(Xdn std k d).2,p):(Xdn std k d).1=d:=by
 cases k<;>simp only[Xdn]at h⊢
 all_goals
  have:=h _ (List.mem_singleton.2 rfl)
  obtain⟨h⟩:=this
  exact h.symm
theorem X4{cs:List D}:∀{ks:List SK} {j:Nat},j+ks.length≤cs.length→(∀p∈(Na std cs j ks).2,p)→(Na std cs j ks).1=((cs.drop j).take ks.length).map AV.d
 |[],j,_,_=>by simp[Na]
 |k::ks,j,hl,h=>by
  simp only[List.length_cons]at hl
  have hj:j<cs.length:=by omega
  simp only[Na]at h⊢
  rw[Xeb (fun p hp=>h p (List.mem_append_left _ hp)),X4 (by omega) (fun p hp=>h p (List.mem_append_right _ hp))]
  have e:cs.drop j=cs[j]::cs.drop (j+1):=List.drop_eq_getElem_cons hj
  have hn:std.nth cs j=cs[j]:=by show(cs[j]?).getD _=_;rw[List.getElem?_eq_getElem hj];rfl
  rw[e,hn]
  simp only[List.length_cons,List.take_succ_cons,List.map_cons]
theorem XeJ{t:TypeId}{cs:List D}(h:Xi9 std (Em P t) cs=some (av,ps))(hp:∀p∈ps,p):∃g n,Xam P t=some g∧szT P t=some n∧(g=true→n≠0)∧K7 (cs.map AV.d) 0 n g=some av:=by
 unfold Xi9 at h
 split at h
 ·rename_i n hg hs
  split at h
  ·rename_i hlen
   obtain⟨hlen,aa⟩:=hlen
   simp only[Option.some.injEq,Prod.mk.injEq]at h
   obtain⟨rfl,rfl⟩:=h
   obtain⟨hl⟩:=hp _ List.mem_cons_self
   refine⟨true,n,hg,hs,fun _=>aa,?_⟩
   rw[X4 (by omega) (fun p h=>hp p (List.mem_cons_of_mem _ h)),hlen]
   have:0+n≤(cs.map AV.d).length:=by simp;omega
   simp only[K7,if_true,this,List.drop_zero,List.map_take]
  ·cases h
 ·rename_i n k hg hs hk
  simp only[Option.some.injEq,Prod.mk.injEq]at h
  obtain⟨rfl,rfl⟩:=h
  obtain⟨hl⟩:=hp _ List.mem_cons_self
  refine⟨false,n,hg,hs,by simp,?_⟩
  rw[Xeb (fun p h=>hp p (List.mem_cons_of_mem _ h))]
  have h0:0<cs.length:=by omega
  have hn:std.nth cs 0=cs[0]:=by show(cs[0]?).getD _=_;rw[List.getElem?_eq_getElem h0];rfl
  rw[hn]
  simp[K7,h0]
 ·cases h
theorem XfF{cs:List D}{j n:Nat}{g:Bool}(h0:g=true→n≠0)(h:K7 ((cs.drop j).map AV.d) 0 n g=some av):K7 (cs.map AV.d) j n g=some av:=by
 cases g with
 |false=>simpa[K7]using h
 |true=>
  simp only[K7,if_true]at h⊢
  split at h
  ·rename_i hc
   simp only[Nat.zero_add,List.length_map,List.length_drop]at hc
   by_cases hj:j≤cs.length
   ·rw[if_pos (by simp;omega)]
    simpa using h
   ·have:=h0 rfl
    omega
  ·cases h
theorem Xjt{t:TypeId}(h:XkA std rt (Em P t) x=some (av,ps))(hp:∀p∈ps,p):∃g n,Xam P t=some g∧szT P t=some n∧Ep rt n g x=some av:=by
 unfold XkA at h
 split at h
 ·rename_i r i j
  split at h
  ·rename_i sz fz xs hrt
   split at h
   ·rename_i av' p' ht
    simp only[Option.some.injEq,Prod.mk.injEq]at h
    obtain⟨rfl,rfl⟩:=h
    obtain⟨h0,h1⟩:=hp _ List.mem_cons_self
    obtain⟨g,n,hg,hn,aa,htk⟩:=XeJ ht (fun p h=>hp p (List.mem_cons_of_mem _ h))
    refine⟨g,n,hg,hn,?_⟩
    have hi:i<xs.length:=by
     have:((i:Int))<((xs.length:Nat):Int):=h1
     omega
    have he:std.elt xs (std.ofNat i)=xs[i]:=by
     show(xs[((i:Nat):Int).toNat]?).getD []=_
     rw[Int.toNat_natCast,List.getElem?_eq_getElem hi];rfl
    simp only[Ep,hrt,List.getElem?_eq_getElem hi,Option.bind_some]
    rw[he]at htk
    exact XfF aa htk
   ·cases h
  ·rename_i l hrt
   split at h
   ·rename_i g n hg hn
    split at h
    ·rename_i av' ht
     simp only[Option.some.injEq,Prod.mk.injEq]at h
     obtain⟨rfl,rfl⟩:=h
     exact⟨g,n,hg,hn,by simp only[Ep,hrt,if_true];exact ht⟩
    ·cases h
   ·cases h
  ·cases h
 ·rename_i cs
  obtain⟨g,n,hg,hn,_,htk⟩:=XeJ h hp
  exact⟨g,n,hg,hn,htk⟩
 ·cases h
theorem Zl{t:TypeId}{i:Int}(h:Rp std rt (Em P t) x i=some (av,ps))(hp:∀p∈ps,p):B2 rt (elT P t) x i=some av:=by
 unfold Rp at h
 split at h
 ·cases h
 ·rename_i esz b hel
  have hel':elT P t=some (esz,b):=hel
  split at h
  ·rename_i r off len
   split at h
   ·rename_i sz fz xs hrt
    split at h
    ·rename_i e
     subst e
     simp only[Option.some.injEq,Prod.mk.injEq]at h
     obtain⟨rfl,rfl⟩:=h
     obtain⟨h0,h1⟩:=hp _ List.mem_cons_self
     have h1':i<(len:Int):=h1
     simp only[B2,hrt,hel',Option.map_some,true_and]
     rw[if_pos ⟨h0,h1'⟩]
     rfl
    ·cases h
   ·cases h
  ·rename_i sz xs
   split at h
   ·rename_i e
    subst e
    simp only[Option.some.injEq,Prod.mk.injEq]at h
    obtain⟨rfl,rfl⟩:=h
    obtain⟨h0,h1⟩:=hp _ List.mem_cons_self
    have h1':i<(xs.length:Int):=h1
    have hi:i.toNat<xs.length:=by omega
    simp only[B2,hel',Option.map_some,true_and]
    rw[if_pos h0,List.getElem?_eq_getElem hi]
    have he:std.elt xs i=xs[i.toNat]:=by
     show(xs[i.toNat]?).getD []=_
     rw[List.getElem?_eq_getElem hi];rfl
    rw[he]
    rfl
   ·cases h
  ·cases h
theorem Xaa{fl:Option (Nat×Nat×Bool)}(h:R6 std rt fl x=some (av,ps)):Ca rt fl x=some av:=by
 unfold R6 at h
 split at h
 ·split at h
  ·rename_i ha
   split at h
   ·rename_i o n g
    split at h
    ·cases h
    ·rename_i hn
     simp only[Option.some.injEq,Prod.mk.injEq]at h
     obtain⟨rfl,rfl⟩:=h
     simp[Ca,ha,hn]
   ·cases h
  ·cases h
 ·split at h
  ·rename_i o n g
   split at h
   ·cases h
   ·rename_i hn
    simp only[Option.some.injEq,Prod.mk.injEq]at h
    obtain⟨rfl,rfl⟩:=h
    simp only[Ca,Option.bind_some,hn,if_false]
    rfl
  ·cases h
 ·cases h
end
open Go
section
variable {P:Program} {rt:Nat→Option Root} {x y av:AV} {ps:List Prop}
theorem K1{t:TypeId}(h:G0 (Tk P t)=true):Hj P t=true:=by
 unfold Tk at h
 unfold Hj
 split at h<;>simp_all [G0]
theorem Lb{t:TypeId}{n:Nat}(h:Tk P t= .sl n):Fr P t=true:=by
 unfold Tk at h
 unfold Fr
 split at h<;>simp_all
theorem Xcj{t:TypeId}(h:Zi (Tk P t)=true):Hd P t=true:=by
 unfold Tk at h
 unfold Hd
 split at h<;>simp_all [Zi]
theorem XiE{t:TypeId}{lo hi:Option Int}(h:Xiw std rt (Em P t) x lo hi=some (av,ps))(hp:∀p∈ps,p):D6 rt (elT P t) (Hj P t) x lo hi=some av:=by
 unfold Xiw at h
 split at h
 ·rename_i s
  split at h
  ·rename_i hs
   simp only[Option.some.injEq,Prod.mk.injEq]at h
   obtain⟨rfl,rfl⟩:=h
   obtain⟨h0,h1,h2⟩:=hp _ (List.mem_singleton.2 rfl)
   have h2':hi.getD (s.size:Int)≤(s.size:Int):=h2
   have h1':lo.getD 0≤hi.getD (s.size:Int):=h1
   simp only[D6]
   rw[if_pos ⟨K1 hs,h0,h1',h2'⟩]
   rfl
  ·cases h
 ·rename_i sz xs
  split at h
  ·rename_i esz b hel
   have hel':elT P t=some (esz,b):=hel
   split at h
   ·rename_i e
    subst e
    simp only[Option.some.injEq,Prod.mk.injEq]at h
    obtain⟨rfl,rfl⟩:=h
    obtain⟨h0,h1,h2⟩:=hp _ (List.mem_singleton.2 rfl)
    have h2':hi.getD (xs.length:Int)≤(xs.length:Int):=h2
    have h1':lo.getD 0≤hi.getD (xs.length:Int):=h1
    simp only[D6,hel',Option.map_some,true_and]
    rw[if_pos ⟨h0,h1',h2'⟩]
    rfl
   ·cases h
  ·cases h
 ·rename_i r off len
  split at h
  ·rename_i sz fz xs esz b hrt hel
   have hel':elT P t=some (esz,b):=hel
   split at h
   ·rename_i e
    subst e
    simp only[Option.some.injEq,Prod.mk.injEq]at h
    obtain⟨rfl,rfl⟩:=h
    obtain⟨h0,h1,h2⟩:=hp _ (List.mem_singleton.2 rfl)
    have h2':hi.getD (len:Int)≤(len:Int):=h2
    have h1':lo.getD 0≤hi.getD (len:Int):=h1
    simp only[D6,hrt,hel',Option.map_some,true_and]
    rw[if_pos ⟨h0,h1',h2'⟩]
    rfl
   ·cases h
  ·cases h
 ·cases h
theorem XfX{t:TypeId}{i:Int}(h:XcG std (Em P t) x i=some (av,ps))(hp:∀p∈ps,p):Ji (Hj P t) x i=some av:=by
 unfold XcG at h
 split at h
 ·rename_i s
  split at h
  ·rename_i hs
   simp only[Option.some.injEq,Prod.mk.injEq]at h
   obtain⟨rfl,rfl⟩:=h
   obtain⟨h0,h1⟩:=hp _ (List.mem_singleton.2 rfl)
   have h1':i<(s.size:Int):=h1
   have hi:i.toNat<s.size:=by omega
   simp only[Ji]
   rw[dif_pos ⟨K1 hs,h0,hi⟩]
   have e:std.sget s i=((s[i.toNat]'hi).toNat:Int):=by
    show(if h:i.toNat<s.size then(((s[i.toNat]'h).toNat:Nat):Int)else 0)=_
    rw[dif_pos hi]
   rw[e]
  ·cases h
 ·cases h
theorem Xkj{t:TypeId}{op:BinOp}(h:vBin std (Em P t) op x y=some (av,ps))(hp:∀p∈ps,p):Q7 P op t x y=some av:=by
 have eqs:∀{ks:List EK} {xs ys:List AV} {b:Bool},vEq std ks xs ys=some b→Oq ks xs ys=some b:=by
  intro ks
  induction ks with
  |nil=>intro xs ys b h;cases xs<;>cases ys<;>simp_all [vEq,Oq]
  |cons k ks ih=>
   intro xs ys b h
   unfold vEq at h
   split at h
   ·rename_i h1 h2 h3;first|(cases h1;done)|(cases h2;done)|(cases h3;done)
   ·rename_i h1
    obtain⟨rfl,rfl⟩:=List.cons.inj h1
    split at h
    ·rename_i e
     subst e
     split at h
     ·rename_i r hr
      obtain rfl:=Option.some.inj h
      simp only[Oq,Xkt,if_true,Option.bind_some,ih hr,Option.map_some]
      rfl
     ·cases h
    ·cases h
   ·rename_i h1
    obtain⟨rfl,rfl⟩:=List.cons.inj h1
    split at h
    ·rename_i r hr
     obtain rfl:=Option.some.inj h
     simp only[Oq,Xkt,Option.bind_some,ih hr,Option.map_some]
     rfl
    ·cases h
   ·rename_i h1
    obtain⟨rfl,rfl⟩:=List.cons.inj h1
    split at h
    ·rename_i r hr
     obtain rfl:=Option.some.inj h
     simp only[Oq,Xkt,Option.bind_some,ih hr,Option.map_some]
     rfl
    ·cases h
   ·cases h
 unfold vBin at h
 split at h
 ·rename_i k a k' b
  split at h
  ·simp only[Option.some.injEq,Prod.mk.injEq]at h
   obtain⟨rfl,rfl⟩:=h
   obtain⟨h0⟩:=hp _ (List.mem_singleton.2 rfl)
   simp only[Q7,Jw]
   rw[if_neg (by omega)]
   rfl
  ·simp only[Option.some.injEq,Prod.mk.injEq]at h
   obtain⟨rfl,rfl⟩:=h
   obtain⟨h0⟩:=hp _ (List.mem_singleton.2 rfl)
   simp only[Q7,Jw]
   rw[if_neg (by omega)]
   rfl
  ·rename_i aa ab
   split at h
   ·rename_i e
    subst e
    cases op<;>simp only[Xh6]at h<;>first
     |(cases h;done)
     |(simp only[Option.some.injEq,Prod.mk.injEq]at h
       obtain⟨rfl,rfl⟩:=h
       first
        |(obtain⟨h0⟩:=hp _ (List.mem_singleton.2 rfl)
          simp only[Q7,Jw,Q5,if_true,if_neg h0,Option.map_some]
          simp only[std,Q5,if_neg h0,Xj6])
        |(simp only[Q7,Jw,Q5,if_true,Option.map_some];rfl))
   ·cases h
 ·rename_i a b
  cases op<;>simp only[XhH]at h<;>first
   |(cases h;done)
   |(simp only[Option.some.injEq,Prod.mk.injEq]at h
     obtain⟨rfl,rfl⟩:=h
     first
      |(obtain⟨h0⟩:=hp _ (List.mem_singleton.2 rfl)
        simp only[Q7,Jw,Xx]
        rw[if_neg (by omega)]
        rfl)
      |rfl)
 ·rename_i a b
  split at h
  ·rename_i hb
   have hb':=Xcj hb
   split at h
   ·simp only[Option.some.injEq,Prod.mk.injEq]at h
    obtain⟨rfl,rfl⟩:=h
    simp only[Q7,Jw,hb',if_true]
    rfl
   ·simp only[Option.some.injEq,Prod.mk.injEq]at h
    obtain⟨rfl,rfl⟩:=h
    simp only[Q7,Jw,hb',if_true]
    rfl
   ·cases h
  ·cases h
 ·rename_i xs ys
  split at h
  ·rename_i ks he
   have he':eqT P t=some ks:=he
   split at h
   ·rename_i b hb
    simp only[Option.some.injEq,Prod.mk.injEq]at h
    obtain⟨rfl,rfl⟩:=h
    simp only[Q7,he',Option.bind_some,eqs hb,Option.map_some]
   ·cases h
  ·rename_i ks he
   have he':eqT P t=some ks:=he
   split at h
   ·rename_i b hb
    simp only[Option.some.injEq,Prod.mk.injEq]at h
    obtain⟨rfl,rfl⟩:=h
    simp only[Q7,he',Option.bind_some,eqs hb,Option.map_some]
    rfl
   ·cases h
  ·cases h
 ·cases h
theorem Xlx{op:UnOp}(h:vUn std op x=some (av,ps)):XlH op x=some av:=by
 unfold vUn at h
 split at h
 ·split at h
  ·simp only[Option.some.injEq,Prod.mk.injEq]at h;obtain⟨rfl,rfl⟩:=h;rfl
  ·cases h
 ·split at h
  ·simp only[Option.some.injEq,Prod.mk.injEq]at h;obtain⟨rfl,rfl⟩:=h;rfl
  ·cases h
 ·cases h
end
open Go
section
variable {P:Program} {rt:Nat→Option Root} {x y av:AV} {ps:List Prop}
theorem Yy(xs:List (List D))(off len:Nat):std.rsub xs (std.ofNat off) (std.ofNat (std.nadd off len))=(xs.drop off).take len:=by
 show(xs.drop ((off:Int)).toNat).take ((((off+len:Nat):Int)).toNat - ((off:Int)).toNat)=_
 rw[Int.toNat_natCast,Int.toNat_natCast]
 congr 1
 omega
theorem XkM{d:D}(h:vToD std rt x=some (d,ps))(hp:∀p∈ps,p):x.toD rt=some d:=by
 unfold vToD at h
 split at h
 ·simp only[Option.some.injEq,Prod.mk.injEq]at h
  obtain⟨rfl,rfl⟩:=h
  rfl
 ·split at h
  ·rename_i r off len sz xs hrt
   simp only[Option.some.injEq,Prod.mk.injEq]at h
   obtain⟨rfl,rfl⟩:=h
   obtain⟨h0⟩:=hp _ (List.mem_singleton.2 rfl)
   simp only[AV.toD,hrt,h0,if_true,Yy]
  ·cases h
 ·cases h
theorem Y6:∀{l:List AV} {ds:List D} {ps:List Prop},Xfx std rt l=some (ds,ps)→(∀p∈ps,p)→Xcp rt l=some ds
 |[],ds,ps,h,_=>by
  simp only[Xfx,Option.some.injEq,Prod.mk.injEq]at h
  obtain⟨rfl,_⟩:=h
  rfl
 |x::l,ds,ps,h,hp=>by
  simp only[Xfx]at h
  split at h
  ·rename_i d p ds' q h1 h2
   simp only[Option.some.injEq,Prod.mk.injEq]at h
   obtain⟨rfl,rfl⟩:=h
   simp only[Xcp,XkM h1 (fun r hr=>hp r (List.mem_append_left _ hr)),Option.bind_some,Y6 h2 (fun r hr=>hp r (List.mem_append_right _ hr)),Option.map_some]
  ·cases h
theorem XkH{n:Nat}{ys:List (List D)}(h:vSrc std rt x=some (n,ys,ps))(hp:∀p∈ps,p):x.src rt=some (n,ys):=by
 unfold vSrc at h
 split at h
 ·simp only[Option.some.injEq,Prod.mk.injEq]at h
  obtain⟨rfl,rfl,rfl⟩:=h
  rfl
 ·simp only[Option.some.injEq,Prod.mk.injEq]at h
  obtain⟨rfl,rfl,rfl⟩:=h
  rfl
 ·split at h
  ·rename_i r off len sz fz xs hrt
   simp only[Option.some.injEq,Prod.mk.injEq]at h
   obtain⟨rfl,rfl,rfl⟩:=h
   obtain⟨h0⟩:=hp _ (List.mem_singleton.2 rfl)
   simp only[AV.src,AV.view,hrt,h0,if_true,Yy]
  ·cases h
 ·cases h
theorem Xgf{nb:Nat}{t:TypeId}{s:AV}{out:Out}(h:V3 std rt nb (Em P t) s x=some (out,ps))(hp:∀p∈ps,p):
  (ezT P t).isSome=true∧∃r,Db rt nb (elT P t) s x=some (out.av,out.new,r)∧out.g=[(r,.dead)]:=by
 unfold V3 at h
 split at h
 ·rename_i r off len n bytes z hel hez
  have hel':elT P t=some (n,bytes):=hel
  have hez':ezT P t=some z:=hez
  split at h
  ·rename_i sz xs sz' ys p hrt hsrc
   split at h
   ·rename_i e
    obtain⟨rfl,rfl⟩:=e
    simp only[Option.some.injEq,Prod.mk.injEq]at h
    obtain⟨rfl,rfl⟩:=h
    obtain⟨h0,h1,h2,h3⟩:=hp _ List.mem_cons_self
    refine⟨by rw[hez'];rfl,r,?_,rfl⟩
    simp only[Db,hrt,XkH hsrc (fun q hq=>hp q (List.mem_cons_of_mem _ hq)),Option.bind_some,hel']
    rw[if_pos ⟨h0,h1,trivial,trivial,h2,h3⟩]
    have e:std.nat (std.len (std.app xs ys))=xs.length+ys.length:=by
     show(((xs++ys).length:Nat):Int).toNat=_
     rw[Int.toNat_natCast,List.length_append]
    rw[e]
    rfl
   ·cases h
  ·cases h
 ·cases h
theorem Xib{n:Nat}{p:AV}{q:Nat×Root}(h:Xgt std rt n p x=some (q,ps))(hp:∀r∈ps,r):Fp rt n p x=some q:=by
 unfold Xgt at h
 split at h
 ·rename_i r i j
  split at h
  ·rename_i l hrt
   split at h
   ·rename_i ys hys
    split at h
    ·rename_i hc
     simp only[Option.some.injEq,Prod.mk.injEq]at h
     obtain⟨rfl,rfl⟩:=h
     simp only[Fp,hrt,hys,Option.bind_some,true_and]
     rw[if_pos hc]
    ·cases h
   ·cases h
  ·rename_i sz xs hrt
   split at h
   ·rename_i ys hys
    split at h
    ·rename_i ds q' hds
     split at h
     ·rename_i hn
      simp only[Option.some.injEq,Prod.mk.injEq]at h
      obtain⟨rfl,rfl⟩:=h
      obtain⟨h0,h1⟩:=hp _ List.mem_cons_self
      obtain⟨h2⟩:=hp _ (List.mem_cons_of_mem _ List.mem_cons_self)
      have hi:i<xs.length:=by
       have:(i:Int)<(xs.length:Int):=h1
       omega
      have he:std.elt xs (std.ofNat i)=xs[i]:=by
       show(xs[((i:Nat):Int).toNat]?).getD []=_
       rw[Int.toNat_natCast,List.getElem?_eq_getElem hi];rfl
      rw[he]at h2
      simp only[Fp,hrt,hys,Option.bind_some,Y6 hds (fun r hr=>hp r (List.mem_cons_of_mem _ (List.mem_cons_of_mem _ hr))),List.getElem?_eq_getElem hi]
      rw[if_pos ⟨hn,h2⟩]
      have e:std.set xs i j ds=xs.set i (Mi xs[i] j ds):=by
       show xs.set i (Mi ((xs[i]?).getD []) j ds)=_
       rw[List.getElem?_eq_getElem hi];rfl
      rw[e]
     ·cases h
    ·cases h
   ·cases h
  ·cases h
 ·cases h
theorem XiR{nb:Nat}{s d:TypeId}(h:Xle std rt (Em P s) (Em P d) x=some (av,ps))(hp:∀p∈ps,p):
  ∃src dst,P.underlying s=some src∧P.underlying d=some dst∧Ms rt nb src dst (Cr P s) x=some (av,[]):=by
 have uInt:∀{t:TypeId} {k:IntKind},Tk P t= .int k→P.underlying t=some (.int k):=by
  intro t k h
  unfold Tk at h
  split at h<;>simp_all
 have uStr:∀{t:TypeId},Tk P t= .str→P.underlying t=some .string:=by
  intro t h
  unfold Tk at h
  split at h<;>simp_all
 have uBs:Cr P s=true→∃u,P.underlying s=some u:=by
  intro hb
  unfold Cr at hb
  cases hu:P.underlying s with
  |none=>simp[hu]at hb
  |some u=>exact⟨u,rfl⟩
 unfold Xle at h
 split at h
 ·rename_i k k' n hT
  split at h
  ·rename_i k'' hS
   simp only[Option.some.injEq,Prod.mk.injEq]at h
   obtain⟨rfl,rfl⟩:=h
   exact⟨_,_,uInt hS,uInt hT,rfl⟩
  ·cases h
 ·rename_i s' hT
  split at h
  ·rename_i hS
   simp only[Option.some.injEq,Prod.mk.injEq]at h
   obtain⟨rfl,rfl⟩:=h
   have hS':Tk P s= .str:=by
    have hS0:G0 (Tk P s)=true:=hS
    cases hk:Tk P s<;>rw[hk]at hS0<;>first|rfl|simp[G0]at hS0
   exact⟨_,_,uStr hS',uStr hT,rfl⟩
  ·cases h
 ·rename_i sz xs hT
  split at h
  ·rename_i hc
   obtain⟨hb,rfl⟩:=hc
   simp only[Option.some.injEq,Prod.mk.injEq]at h
   obtain⟨rfl,rfl⟩:=h
   obtain⟨ns,hns⟩:=hp _ (List.mem_singleton.2 rfl)
   obtain⟨u,hu⟩:=uBs hb
   have hb':Cr P s=true:=hb
   refine⟨u,_,hu,uStr hT,?_⟩
   have e:std.bytes xs=D3 ns:=by
    show(match Gw xs with|some ns=>D3 ns|none=>default)=_
    rw[hns]
   simp only[Ms,hb',if_true,AV.view,Option.bind_some,hns,Option.map_some,e]
  ·cases h
 ·rename_i r off len hT
  split at h
  ·rename_i sz fz xs hrt
   split at h
   ·rename_i hc
    obtain⟨hb,rfl⟩:=hc
    simp only[Option.some.injEq,Prod.mk.injEq]at h
    obtain⟨rfl,rfl⟩:=h
    obtain⟨h0⟩:=hp _ List.mem_cons_self
    obtain⟨ns,hns⟩:=hp _ (List.mem_cons_of_mem _ List.mem_cons_self)
    obtain⟨u,hu⟩:=uBs hb
    have hb':Cr P s=true:=hb
    refine⟨u,_,hu,uStr hT,?_⟩
    rw[Yy]at hns⊢
    have e:std.bytes ((xs.drop off).take len)=D3 ns:=by
     show(match Gw ((xs.drop off).take len)with|some ns=>D3 ns|none=>default)=_
     rw[hns]
    simp only[Ms,hb',if_true,AV.view,hrt,h0,Option.bind_some,hns,Option.map_some,e]
   ·cases h
  ·cases h
 ·cases h
theorem Xjg{t:TypeId}{op:BinOp}{y:AV}{yo:Operand}(h:Xjd std rt (Em P t) op x y yo=some (av,ps))(hp:∀p∈ps,p):Mt P rt op t x y yo=some av:=by
 cases hn:O5 yo with
 |false=>
  simp only[Xjd,Mt,hn]at h⊢
  exact Xkj h hp
 |true=>
  simp only[Xjd,Mt,hn]at h⊢
  split at h
  ·rename_i n sz xs hs
   simp only[Option.some.injEq,Prod.mk.injEq]at h
   obtain⟨rfl,rfl⟩:=h
   simp only[Lb hs,if_true,Lk,Option.map_some]
   rfl
  ·rename_i n r off len hs
   split at h
   ·rename_i ha
    simp only[Option.some.injEq,Prod.mk.injEq]at h
    obtain⟨rfl,rfl⟩:=h
    simp only[Lb hs,if_true,Lk,ha,Option.map_some]
    congr 2
    show(len==0)=((len:Int)==0)
    rw[Bool.eq_iff_iff]
    simp
   ·cases h
  ·cases h
theorem Xky{t:TypeId}(h:vLen std rt (Em P t) x=some (av,ps)):Qs P rt t x=some av:=by
 unfold vLen at h
 split at h
 ·split at h
  ·rename_i hs
   simp only[Option.some.injEq,Prod.mk.injEq]at h
   obtain⟨rfl,rfl⟩:=h
   simp only[Qs,K1 hs,if_true]
   rfl
  ·cases h
 ·split at h
  ·rename_i n hs
   simp only[Option.some.injEq,Prod.mk.injEq]at h
   obtain⟨rfl,rfl⟩:=h
   simp only[Qs,Lb hs,if_true]
   rfl
  ·cases h
 ·split at h
  ·rename_i n hs
   split at h
   ·rename_i ha
    simp only[Option.some.injEq,Prod.mk.injEq]at h
    obtain⟨rfl,rfl⟩:=h
    simp only[Qs,Lb hs,ha,Bool.and_self,if_true]
    rfl
   ·cases h
  ·cases h
 ·cases h
theorem Xy{sl:Nat→AV}:∀{l:List (Nat×Operand)} {r:List (Nat×List D)} {ps:List Prop},Uw std rt sl l=some (r,ps)→(∀p∈ps,p)→I1 rt sl l=some r
 |[],r,ps,h,_=>by
  simp only[Uw,Option.some.injEq,Prod.mk.injEq]at h
  obtain⟨rfl,_⟩:=h
  rfl
 |(i,x)::l,r,ps,h,hp=>by
  simp only[Uw]at h
  split at h
  ·cases h
  ·rename_i ls hl
   split at h
   ·rename_i ds p r' q h1 h2
    simp only[Option.some.injEq,Prod.mk.injEq]at h
    obtain⟨rfl,rfl⟩:=h
    simp only[I1,hl,Option.bind_some,Y6 h1 (fun s hs=>hp s (List.mem_append_left _ hs)),Xy h2 (fun s hs=>hp s (List.mem_append_right _ hs)),Option.map_some]
   ·cases h
end
open Go
section
variable {P:Program} {rt:Nat→Option Root} {ps:List Prop}
theorem H3{x:VA}{out:Out}(h:XhR x=some (out,ps)):x=some (out.av,ps)∧out.new=[]∧out.g=[]:=by
 unfold XhR at h
 split at h
 ·simp only[Option.some.injEq,Prod.mk.injEq]at h
  obtain⟨rfl,rfl⟩:=h
  exact⟨rfl,rfl,rfl⟩
 ·cases h
theorem K6{out:Out}{av:AV}{new:List Root}{g:List (Nat×Root)}(h1:out.av=av)(h2:out.new=new)(h3:out.g=g):out=⟨av,new,g⟩:=by cases out;simp_all
theorem XiU{tab:List (Nat×TyRow)}(hT:Bl P tab){nb:Nat}{sl:Nat→AV}{c:Call}{out:Out}(h:XkU std tab nb sl rt c=some (out,ps))(hp:∀p∈ps,p):Nl P nb sl rt c=some out:=by
 unfold XkU at h
 unfold Nl
 split at h
 ·rename_i x t hc ha ht
  split at h
  ·rename_i R hR
   obtain⟨h1,h2,h3⟩:=H3 h
   rw[hT t R hR]at h1
   simp only[hc,ha,ht,Xky h1,Option.map_some]
   rw[K6 rfl h2 h3]
  ·cases h
 ·rename_i s x t xt hc ha ht
  simp only[hc,ha,ht]
  split at h
  ·rename_i R X hR hX
   have key:∀(hcond:(Fr P xt||Hj P xt)=true),V3 std rt nb R (Bw sl s) (Bw sl x)=some (out,ps)→
     (if((ezT P t).isSome&&(Fr P xt||Hj P xt))=true then Option.map (fun x=>{av:=x.1,new:=x.2.1,g:=[(x.2.2,Root.dead)]}) (Db rt nb (elT P t) (Bw sl s) (Bw sl x))else none)=some out:=by
    intro hcond h
    rw[hT t R hR]at h
    obtain⟨h1,r,h2,h3⟩:=Xgf h hp
    rw[if_pos (by rw[h1,hcond];rfl),h2,Option.map_some,K6 rfl rfl h3]
   split at h
   ·rename_i n hX'
    rw[hT xt X hX]at hX'
    exact key (by rw[Lb hX'];rfl) h
   ·rename_i hX'
    rw[hT xt X hX]at hX'
    have:Hj P xt=true:=K1 (by
     show G0 (Em P xt).sk=true
     rw[hX'];rfl)
    exact key (by rw[this];simp) h
   ·cases h
  ·cases h
 ·rename_i x y hc ha
  split at h
  ·rename_i k a k' b hx hy
   simp only[Option.some.injEq,Prod.mk.injEq]at h
   obtain⟨rfl,_⟩:=h
   simp only[hc,ha,hx,hy,Km,if_true,Option.map_some]
   rfl
  ·cases h
 ·rename_i x y hc ha
  split at h
  ·rename_i k a k' b hx hy
   simp only[Option.some.injEq,Prod.mk.injEq]at h
   obtain⟨rfl,_⟩:=h
   simp only[hc,ha,hx,hy,Km,Option.map_some]
   rfl
  ·cases h
 ·cases h
theorem Xb8{t:TypeId}{f:Nat}{fl:Option (Nat×Nat×Bool)}(h:(Xlg P t)[f]? =some fl):Xji P t f=fl:=by
 unfold Xlg at h
 split at h
 ·rename_i fs hu
  rw[List.getElem?_map]at h
  obtain⟨i,hi,rfl⟩:=Option.map_eq_some_iff.1 h
  have:f<fs.size:=by
   have:=(List.getElem?_eq_some_iff.1 hi).1
   simpa using this
  rw[List.getElem?_range this]at hi
  rw[←Option.some.inj hi]
 ·simp at h
theorem K0{sl:Nat→AV}{i:Operand}{k:IntKind}{n:Int}(h:Bw sl i= .d (.sc (.int k n))):Sw (Bw sl i)=some n:=by rw[h];rfl
theorem XdU{tab:List (Nat×TyRow)}(hT:Bl P tab){nb:Nat}{sl:Nat→AV}{t:TypeId}{x:Operand}{out:Out}(h:Xju tab nb sl t x=some (out,ps)):some (⟨(opd nb (Ry P t) sl x).1,(opd nb (Ry P t) sl x).2,[]⟩:Out)=some out:=by
 unfold Xju at h
 split at h
 ·split at h
  ·rename_i R hR
   have e:=hT t R hR
   subst e
   simp only[Option.some.injEq,Prod.mk.injEq]at h
   rw[←h.1]
   rfl
  ·cases h
 ·rename_i hx
  simp only[Option.some.injEq,Prod.mk.injEq]at h
  rw[←h.1]
  have:opd nb (Ry P t) sl x=(Bw sl x,[]):=by
   unfold opd
   split
   ·exact(hx rfl).elim
   ·rfl
  rw[this]
theorem Xif{tab:List (Nat×TyRow)}(hT:Bl P tab){nb:Nat}{sl:Nat→AV}{o:Oper}{out:Out}(h:vev std tab nb sl rt o=some (out,ps))(hp:∀p∈ps,p):ev P nb sl rt o=some out:=by
 unfold vev at h
 unfold ev
 split at h
 ·rename_i x ho
  simp only[ho]
  exact XdU hT h
 ·rename_i x ho
  simp only[ho]
  exact XdU hT h
 ·rename_i c a b ho
  split at h
  ·rename_i hc
   simp only[Option.some.injEq,Prod.mk.injEq]at h
   simp only[ho,hc,if_true,←h.1]
  ·rename_i hc
   simp only[Option.some.injEq,Prod.mk.injEq]at h
   simp only[ho,hc,←h.1]
   rfl
  ·cases h
 ·rename_i t ho
  split at h
  ·rename_i R hR
   have e:=hT t R hR
   subst e
   split at h
   ·rename_i zs hz
    have hz':La P t=some zs:=hz
    simp only[Option.some.injEq,Prod.mk.injEq]at h
    simp only[ho,hz',Option.map_some,←h.1]
   ·cases h
  ·cases h
 ·rename_i t x ho
  split at h
  ·rename_i l hl
   simp only[Option.some.injEq,Prod.mk.injEq]at h
   simp only[ho,Xjc,hl,Option.map_some,←h.1]
  ·cases h
 ·rename_i t ps' ho
  split at h
  ·rename_i R hR
   have e:=hT t R hR
   subst e
   split at h
   ·rename_i zs pl l hz hpl hl
    have hz':La P t=some zs:=hz
    have hpl':Vr P t=some pl:=hpl
    split at h
    ·rename_i r hr
     simp only[Option.some.injEq,Prod.mk.injEq]at h
     simp only[ho,hz',hpl',hl,Option.bind_some,hr,Option.map_some,←h.1]
    ·cases h
   ·cases h
  ·cases h
 ·rename_i t n ps' ho
  split at h
  ·rename_i R hR
   have e:=hT t R hR
   subst e
   split at h
   ·rename_i z l p hz hl
    have hz':ezT P t=some z:=hz
    split at h
    ·rename_i r hr
     simp only[Option.some.injEq,Prod.mk.injEq]at h
     obtain⟨h1,rfl⟩:=h
     simp only[ho,hz',Xy hl hp,Option.bind_some,hr,Option.map_some,←h1]
    ·cases h
   ·cases h
  ·cases h
 ·rename_i t x ho
  split at h
  ·rename_i R hR
   have e:=hT t R hR
   subst e
   obtain⟨h1,h2,h3⟩:=H3 h
   obtain⟨g,n,hg,hn,hl⟩:=Xjt h1 hp
   simp only[ho,hg,hn,Option.bind_some,hl,Option.map_some]
   rw[K6 rfl h2 h3]
  ·cases h
 ·rename_i t p x ho
  split at h
  ·rename_i R hR
   have e:=hT t R hR
   subst e
   split at h
   ·rename_i n av new hn hopd
    have hn':szT P t=some n:=hn
    have hopd':opd nb (Ry P t) sl x=(av,new):=hopd
    split at h
    ·rename_i r R' q hst
     split at h
     ·rename_i hlt
      simp only[Option.some.injEq,Prod.mk.injEq]at h
      obtain⟨h1,rfl⟩:=h
      simp only[ho,hn',Option.bind_some,hopd',Xib hst hp,hlt,if_true,←h1]
     ·cases h
    ·cases h
   ·cases h
  ·cases h
 ·rename_i x ho
  split at h
  ·rename_i v hv
   simp only[Option.some.injEq,Prod.mk.injEq]at h
   simp only[ho,hv,Option.map_some,←h.1]
  ·cases h
 ·rename_i op t x y yt ho
  split at h
  ·rename_i R hR
   have e:=hT t R hR
   subst e
   obtain⟨h1,h2,h3⟩:=H3 h
   simp only[ho,Xjg h1 hp,Option.map_some]
   rw[K6 rfl h2 h3]
  ·cases h
 ·rename_i op t x ho
  obtain⟨h1,h2,h3⟩:=H3 h
  simp only[ho,Xlx h1,Option.map_some]
  rw[K6 rfl h2 h3]
 ·rename_i s d x ho
  split at h
  ·rename_i S T hS hT'
   have e:=hT s S hS
   subst e
   have e:=hT d T hT'
   subst e
   obtain⟨h1,h2,h3⟩:=H3 h
   obtain⟨src,dst,k1,k2,k3⟩:=XiR (nb:=nb) h1 hp
   simp only[ho,k1,k2,Option.bind_some,k3,Option.map_some]
   rw[K6 rfl h2 h3]
  ·cases h
 ·rename_i t x f ho
  split at h
  ·rename_i R hR
   have e:=hT t R hR
   subst e
   split at h
   ·rename_i fl hfl
    obtain⟨h1,h2,h3⟩:=H3 h
    simp only[ho,Xb8 hfl,Xaa h1,Option.map_some]
    rw[K6 rfl h2 h3]
   ·cases h
  ·cases h
 ·rename_i t x f ho
  split at h
  ·rename_i R hR
   have e:=hT t R hR
   subst e
   split at h
   ·rename_i fl hfl
    split at h
    ·rename_i v hv
     simp only[Option.some.injEq,Prod.mk.injEq]at h
     simp only[ho,Xb8 hfl,hv,Option.map_some,←h.1]
    ·cases h
   ·cases h
  ·cases h
 ·rename_i t x i ho
  split at h
  ·rename_i R k n hR hi
   have e:=hT t R hR
   subst e
   obtain⟨h1,h2,h3⟩:=H3 h
   simp only[ho,K0 hi,Option.bind_some,Zl h1 hp,Option.map_some]
   rw[K6 rfl h2 h3]
  ·cases h
 ·rename_i t x i ho
  split at h
  ·rename_i R k n hR hi
   have e:=hT t R hR
   subst e
   obtain⟨h1,h2,h3⟩:=H3 h
   simp only[ho,K0 hi,Option.bind_some,XfX h1 hp,Option.map_some]
   rw[K6 rfl h2 h3]
  ·cases h
 ·rename_i t x lo hi ho
  split at h
  ·rename_i R l m hR hl hm
   have e:=hT t R hR
   subst e
   obtain⟨h1,h2,h3⟩:=H3 h
   simp only[ho,hl,hm,Option.bind_some,XiE h1 hp,Option.map_some]
   rw[K6 rfl h2 h3]
  ·cases h
 ·rename_i t n m ho
  split at h
  ·rename_i R k n' k' m' hR hn hm
   have e:=hT t R hR
   subst e
   split at h
   ·rename_i z hz
    have hz':ezT P t=some z:=hz
    simp only[Option.some.injEq,Prod.mk.injEq]at h
    obtain⟨h1,rfl⟩:=h
    obtain⟨k1,k2,k3,k4⟩:=hp _ (List.mem_singleton.2 rfl)
    simp only[ho,hz',K0 hn,K0 hm,Option.bind_some,Xck]
    rw[if_pos ⟨k1,k2,k3,k4⟩,←h1]
    rfl
   ·cases h
  ·cases h
 ·rename_i x i ho
  split at h
  ·rename_i v hv
   simp only[Option.some.injEq,Prod.mk.injEq]at h
   simp only[ho,hv,Option.map_some,←h.1]
  ·cases h
 ·rename_i f first caps ho
  obtain⟨h0,h⟩:=Option.ite_none_right_eq_some.1 h
  simp only[Option.some.injEq,Prod.mk.injEq]at h
  simp only[ho,h0,if_true,←h.1]
 ·rename_i c ho
  simp only[ho]
  exact XiU hT h hp
 ·cases h
end
open Go
def br(b:Bool)(p q:Unit→Prop):Prop:=match b with|true=>p ()|false=>q ()
def Xii:List Prop→Prop→Prop
 |[],k=>k
 |p::ps,k=>p∧Xii ps k
inductive GV where
 |yes
 |no
 |test (t:Nat) (b w:Bool)
 |bad
def Sy(ops:Array Oper)(o:Oper)(sl:Nat→AV):GV:=
 match o.guard with
 |none=>.yes
 |some (g,w)=>match ops[g]? with
  |some og=>(match og.dst with
   |some t=>(match sl t with| .d (.sc (.bool b))=>.test t b w| .tup []=>.no|_=>.bad)
   |none=>.bad)
  |none=>.bad
def XlO(o:Oper):Oper:={o with guard:=none}
inductive ClW (P:Program) (o:Oper) (st:St) (k:Out→List Nat→Prop):Prop
 |mk (out:Out) (T:List Nat) (h:OpSem P #[o] 0 T st.sl st.look st.rt.length out) (hl:∀p∈out.g,p.1<st.rt.length+out.new.length) (hk:k out T):ClW P o st k
inductive LpW (P:Program) (N:Nat) (body:Code) (Q:Exit→St→Prop) (st:St):Prop
 |mk (h:AW P N (.loop body) Q st):LpW P N body Q st
def anyB(p:Bool)(t e:Unit→Prop):Prop:=(p=true→t ())∧e ()
def ifB(b:Bool)(p:Unit→Prop):Prop:=match b with|true=>p ()|false=>False
def St.known(st:St):Operand→Bool→St
 | .tmp t,b=>⟨Xap st.sl t (.d (.sc (.bool b))),st.rt⟩
 |_,_=>st
section
variable {P:Program} {N:Nat} {tab:List (Nat×TyRow)} {Q:Exit→St→Prop}
theorem Xbq:∀{ps:List Prop} {k:Prop},Xii ps k→(∀p∈ps,p)∧k
 |[],k,h=>⟨by simp,h⟩
 |p::ps,k,h=>by
  obtain⟨h1,h2⟩:=h
  obtain⟨h3,h4⟩:=Xbq h2
  refine⟨?_,h4⟩
  intro q hq
  rcases List.mem_cons.1 hq with rfl|hq
  ·exact h1
  ·exact h3 q hq
theorem OpSem.at{ops:Array Oper}{i nb:Nat}{o:Oper}{T:List Nat}{sl:Nat→AV}{rt:Nat→Option Root}{out:Out}(h:OpSem P #[XlO o] 0 T sl rt nb out)(ho:ops[i]? =some o)(hg:Ey ops o sl=some true):OpSem P ops i T sl rt nb out:=by
 obtain⟨o',ho',H⟩:=h
 simp at ho'
 subst ho'
 refine⟨o,ho,?_⟩
 intro c E a hM hl hT hnb hF K Q k
 have hl':Xdz E #[XlO o] (XlO o) sl a:=by
  intro t ht
  refine hl t ?_
  unfold Oper.looksAt at ht⊢
  simp only[XlO,List.append_nil]at ht
  exact List.mem_append_left _ ht
 have key:=H c E a hM hl' hT hnb hF K Q k
 unfold wpOp
 rw[ho]
 simp only[B8 hl hg,if_true]
 exact key
theorem Nw{sl:Nat→AV}{t:Nat}{x:AV}(h:sl t=x):Xap sl t x=sl:=by
 funext s
 unfold Xap
 split
 ·rename_i e;rw[e,h]
 ·rfl
theorem Xa{st:St}{x:Operand}{b:Bool}(h:Bw st.sl x= .d (.sc (.bool b))):st.known x b=st:=by
 cases x with
 |tmp t=>
  show(⟨Xap st.sl t (.d (.sc (.bool b))),st.rt⟩:St)=st
  rw[Nw h]
 |_=>rfl
theorem Ul{ops:Array Oper}{o:Oper}{sl:Nat→AV}{t:Nat}{b w:Bool}(h:Sy ops o sl= .test t b w):sl t= .d (.sc (.bool b))∧Ey ops o sl=some (b==w):=by
 unfold Sy at h
 split at h
 ·cases h
 ·rename_i g w' hg
  split at h
  ·rename_i og hog
   split at h
   ·rename_i t' ht'
    split at h
    ·rename_i b' hs
     simp only[GV.test.injEq]at h
     obtain⟨rfl,rfl,rfl⟩:=h
     refine⟨hs,?_⟩
     simp only[Ey,hg,hog,Option.bind_some,ht',hs]
    ·cases h
    ·cases h
   ·cases h
  ·cases h
theorem Xh5{ops:Array Oper}{o:Oper}{sl:Nat→AV}(h:Sy ops o sl= .no):Ey ops o sl=some false:=by
 unfold Sy at h
 split at h
 ·cases h
 ·rename_i g w' hg
  split at h
  ·rename_i og hog
   split at h
   ·rename_i t' ht'
    split at h
    ·cases h
    ·rename_i hs
     simp only[Ey,hg,hog,Option.bind_some,ht',hs]
    ·cases h
   ·cases h
  ·cases h
theorem XfZ{ops:Array Oper}{o:Oper}{sl:Nat→AV}(h:Sy ops o sl= .yes):Ey ops o sl=some true:=by
 unfold Sy at h
 split at h
 ·rename_i hg;simp only[Ey,hg]
 ·split at h
  ·split at h
   ·split at h<;>cases h
   ·cases h
  ·cases h
end
end
section
open Go
def look:List (Nat×AV)→Nat→AV
 |[],_=>.junk
 |(t,x)::l,s=>if s=t then x else look l s
def WeakL(l:List (Nat×AV))(sl:Nat→AV):Prop:=∀p∈l,sl p.1=p.2
theorem WeakL.nil(sl:Nat→AV):WeakL [] sl:=by intro p hp;cases hp
theorem WeakL.cons{t:Nat}{x:AV}{l:List (Nat×AV)}{sl:Nat→AV}(h:sl t=x)(k:WeakL l sl):WeakL ((t,x)::l) sl:=by
 intro p hp
 rcases List.mem_cons.1 hp with rfl|hp
 ·exact h
 ·exact k p hp
theorem WeakL.look{sl:Nat→AV}:∀{l:List (Nat×AV)},WeakL l sl→∀t,look l t=sl t∨look l t= .junk
 |[],_,t=>.inr rfl
 |(s,x)::l,h,t=>by
  simp only[Ab.look]
  split
  ·rename_i e
   subst e
   exact .inl (h (t,x) List.mem_cons_self).symm
  ·exact WeakL.look (fun p hp=>h p (List.mem_cons_of_mem _ hp)) t
section
variable {P:Program} {N:Nat} {Q:Exit→St→Prop} {st:St}
end
theorem Ro{a b:ByteArray}(h:a.toList=b.toList):a=b:=by
 rw[ByteArray.toList_eq,ByteArray.toList_eq]at h
 cases a;cases b
 simp only[ByteArray.mk.injEq]
 exact Array.toList_inj.1 h
def cS(s:ByteArray):List D:=[.sc (.string s)]
def cI(n:Int):List D:=[.sc (.int .i64 n)]
section
variable {α:Type} {c:α→List D} {a:List α} {xs:List (List D)} {k:Nat}
end
theorem Lx{n:Int}(h0: -9223372036854775808≤n)(h1:n<9223372036854775808):IntKind.i64.wrap n=n:=by
 rw[IntKind.wrap_i64];omega
open Go
section
variable {P:Program} {o:Oper} {st:St} {K:Out→List Nat→Prop} {cl:Call} {x:Operand} {f:FuncId} {caps ys as0 zs:List AV} {L π:List Nat} {r0:List Root} {o0 out:Out}
theorem Pn{ops:Array Oper}{sl:Nat→AV}(h:o.guard=none):Ey ops o sl=some true:=by simp only[Ey,h]
theorem ClW.pure(hgd:o.guard=none)(hop:o.op= .call cl)(hc:cl.callee= .value x)(hx:Bw st.sl x= .clo f caps)(ha:ArgR st.sl cl.args.toList ys)(hl:AV.lendAs st.look (ys++caps)=some (as0,L))(he:Gt P f)(hcall:CallOk P f as0 [] o0)
  (hren:o0.ren (Az [] st.rt.length o0.new.length)=some out)(hog:out.g=[])(hfa:out.av.flat=true)(hfn:out.new.all Root.flat=true)(k:K out (AV.idss (ys++caps))):ClW P o st K:=
 .mk out _ (OpSem.pure rfl (Pn hgd) hop hc hx ha hl he hcall hren hog hfa hfn) (by rw[hog];simp) k
theorem ClW.val{av:AV}(hgd:o.guard=none)(hop:o.op= .call cl)(hc:cl.callee= .value x)(hx:Bw st.sl x= .clo f caps)(ha:ArgR st.sl cl.args.toList ys)(hl:AV.lendAs st.look (ys++caps)=some (as0,L))(he:Gt P f)(hcall:CallOk P f as0 [] ⟨av,[],[]⟩)
  (hren:av.ren (Az [] st.rt.length 0)=some av)(hfa:av.flat=true)(k:K ⟨av,[],[]⟩ (AV.idss (ys++caps))):ClW P o st K:=
 ClW.pure (o0:=⟨av,[],[]⟩) (out:=⟨av,[],[]⟩) hgd hop hc hx ha hl he hcall (by
  show(av.ren (Az [] st.rt.length 0)).bind _=_
  rw[hren]
  rfl) rfl hfa rfl k
theorem ClW.call(hgd:o.guard=none)(hop:o.op= .call cl)(hc:cl.callee= .value x)(hx:Bw st.sl x= .clo f caps)(ha:ArgR st.sl cl.args.toList ys)(hz:LendsR st.look L (ys++caps) zs)(hL:∀r∈L,r∈AV.idss (ys++caps)∧∃sz xs,st.look r=some (.row sz false xs))(he:Gt P f)
  (has:AV.rens (Az π st.rt.length o0.new.length) as0=some zs)(hcall:CallOk P f as0 r0 o0)(hren:o0.ren (Az π st.rt.length o0.new.length)=some out)(hlen:π.length=r0.length)(hnd:π.Nodup)(hlt:∀r∈π,r<st.rt.length)(hdis:∀r∈π,r∉L)(hin:∀r∈π,r∈AV.idss (ys++caps))
  (hrt:∀(j:Nat) r R,π[j]? =some r→r0[j]? =some R→∃R',st.look r=some R'∧R≠.dead∧R.ren (Az π st.rt.length o0.new.length)=some R')
  (hg:∀p∈out.g++Xa2 st.look L,p.1<st.rt.length+out.new.length)(k:K ⟨out.av,out.new,out.g++Xa2 st.look L⟩ (AV.idss (ys++caps))):ClW P o st K:=
 .mk _ _ (OpSem.call rfl (Pn hgd) hop hc hx ha hz hL he has hcall hren hlen hnd hlt hdis hin hrt) hg k
end
open Go
def AV.rdo(rt:Nat→Option Root):AV→Option (AV×List Nat)
 | .tup l=>(AV.lendAs rt l).map fun p=>(.tup p.1,p.2)
 |x=>x.lendA rt
section
variable {P:Program} {c:Ctx} {E:Env} {rt:Nat→Option Root}
theorem Xhj(f:Nat→Option Nat){x y:AV}{L:List Nat}(h:x.rdo rt=some (y,L)):y.ren f=some y:=by
 cases x with
 |tup l=>
  simp only[AV.rdo]at h
  obtain⟨q,hq,h⟩:=Option.map_eq_some_iff.1 h
  simp only[Prod.mk.injEq]at h
  obtain⟨rfl,_⟩:=h
  simp[AV.ren,Ij f hq]
 |_=>exact Lh f h
theorem XhS(hM:Mem c E){x y:AV}{v:Value}{L:List Nat}(h:RelAV E x v)(hy:x.rdo E.rt=some (y,L)):RelAV (E.lent L) y v∧∀r∈L,Fu E r:=by
 cases h with
 |tup l us hs hr=>
  simp only[AV.rdo]at hy
  obtain⟨q,hq,hy⟩:=Option.map_eq_some_iff.1 hy
  simp only[Prod.mk.injEq]at hy
  obtain⟨rfl,rfl⟩:=hy
  obtain⟨hlen,hg⟩:=N9 hq
  have hex:∀(j:Nat) y,l[j]? =some y→RelAV E y (us.getD j undef):=hr
  refine⟨.tup _ us (hs.trans hlen.symm) ?_,?_⟩
  ·intro j y hy
   obtain⟨x,L1,h1,h2,h3⟩:=hg j y hy
   exact Dg hM (hex j x h1) h2 h3
  ·intro r hr'
   exact Ge (E:=E) (fun j y hy {y'} {L'} h=>Ec (hex j y hy) h) hq r hr'
 |d x v h=>exact⟨Dg hM (.d x v h) hy (fun _ h=>h),Ec (.d x v h) hy⟩
 |ref r off len R sz b cap t n h1 hk h2 h3 h4 h5 h6=>exact⟨Dg hM (.ref r off len R sz b cap t n h1 hk h2 h3 h4 h5 h6) hy (fun _ h=>h),Ec (.ref r off len R sz b cap t n h1 hk h2 h3 h4 h5 h6) hy⟩
 |refz r off R sz a h1 hk h2=>exact⟨Dg hM (.refz r off R sz a h1 hk h2) hy (fun _ h=>h),Ec (.refz r off R sz a h1 hk h2) hy⟩
 |ptr r i j R b h1 h2 h3=>exact⟨Dg hM (.ptr r i j R b h1 h2 h3) hy (fun _ h=>h),Ec (.ptr r i j R b h1 h2 h3) hy⟩
 |dref r off len v h1 ho=>exact⟨Dg hM (.dref r off len v h1 ho) hy (fun _ h=>h),Ec (.dref r off len v h1 ho) hy⟩
 |dptr r i j v h1 ho=>exact⟨Dg hM (.dptr r i j v h1 ho) hy (fun _ h=>h),Ec (.dptr r i j v h1 ho) hy⟩
 |rptr cs b o us hS hu hr=>exact⟨Dg hM (.rptr cs b o us hS hu hr) hy (fun _ h=>h),Ec (.rptr cs b o us hS hu hr) hy⟩
 |agg l us hs hr ho=>exact⟨Dg hM (.agg l us hs hr ho) hy (fun _ h=>h),Ec (.agg l us hs hr ho) hy⟩
 |clo f caps us hs hr=>exact⟨Dg hM (.clo f caps us hs hr) hy (fun _ h=>h),Ec (.clo f caps us hs hr) hy⟩
 |anyb p b hb=>exact⟨Dg hM (.anyb p b hb) hy (fun _ h=>h),Ec (.anyb p b hb) hy⟩
 |junk v=>exact⟨Dg hM (.junk v) hy (fun _ h=>h),Ec (.junk v) hy⟩
def EndD(P:Program)(rs:Array ResultVar)(av:AV):Exit→St→Prop
 | .normal,st=>∃l L,Lm P st rs.toList=some l∧(XcJ l).rdo st.look=some (av,L)
 | .ret,st=>∃l L,Lm P st rs.toList=some l∧(XcJ l).rdo st.look=some (av,L)
 |_,_=>False
theorem CallOk.of_bodyD{f:FuncId}{fn:Func}{body:Code}{as0:List AV}{av:AV}(hf:P.funcs[f]? =some fn)(hb:fn.body=some body)(hN:as0.length≤fn.ntmps)
  (hwa:AV.rens (Gu 0) as0=some as0)(h:AW P fn.ntmps body (EndD P fn.results av) ⟨N7 as0,[]⟩):CallOk P f as0 [] ⟨av,[],[]⟩:=by
 intro w S β vs hM hA
 obtain⟨hC0,hM0⟩:=XeT hM (r0:=[]) rfl
 refine calls_of_wp hf hb ?_
 refine wp_mono (h (Ha w S β []) (Bh w S β [] []) _ w ?_) ?_
 ·refine⟨Bh w S β [] [],rfl,hM0,(Step.refl _).toP,?_,fun _=>Iff.rfl,?_,rfl,?_,Nat.le_refl _⟩
  ·funext r
   show([]++[])[r]? =[][r]?
   rfl
  ·intro t
   show RelAV _ ((as0[t]?).getD .junk) ((vs++Array.replicate (fn.ntmps - vs.size) undef).getD t undef)
   cases ht:as0[t]? with
   |none=>exact .junk _
   |some y=>
    have hlt:t<vs.size:=by rw[hA.1];exact(List.getElem?_eq_some_iff.1 ht).1
    have:=hA.2 t y ht
    have e:(vs++Array.replicate (fn.ntmps - vs.size) undef).getD t undef=vs.getD t undef:=by
     rw[Array.getD_eq_getD_getElem?,Array.getD_eq_getD_getElem?,Array.getElem?_append_left hlt]
    rw[e]
    exact this
  ·simp only[Array.size_append,Array.size_replicate]
   have:=hA.1
   omega
 ·rintro e a' w' ⟨st,hq,hH⟩
  have main:(∃l L,Lm P st fn.results.toList=some l∧(XcJ l).rdo st.look=some (av,L))→a'.defers=[]∧∃v,(results fn a'.tmps).run P w'= .ok v w'∧∃v' E',Ending.returned v= .returned v'∧E'.w=w'∧OutRel (Ha w S β []) (Bh w S β [] []) 0 ⟨av,[],[]⟩ v' E':=by
   rintro⟨l,L,hl,hav⟩
   obtain⟨E,rfl,hMe,hSt,hrt,hpr,hsl,hdef,hsz,hm⟩:=hH
   obtain⟨v,hrun,hrel⟩:=V4 hMe hrt hsl hl
   rw[←hrt]at hav
   obtain⟨hrel',hrows⟩:=XhS hMe hrel hav
   have hML:=Oi hMe hrows
   have hren:=Xhj (fun _=>none) hav
   refine⟨hdef,v,hrun,v,⟨fun _=>none,fun _=>False,E.β,(E.lent L).S,E.w⟩,rfl,rfl,?_⟩
   refine⟨?_,?_,?_,?_,hMe.size,?_⟩
   ·exact{
     os:=hMe.os
     output:=hMe.output
     tape:=hMe.tape
     size:=hMe.size
     keep:=hMe.keep
     shape:=hMe.shape
     s0:=hML.s0
     slt:=hML.slt
     glob:=hML.glob
     snew:=hML.snew
     blt:=fun r b h=>h.elim
     bown:=fun r R b h=>h.elim
     bkeep:=fun r R _ h=>h.elim
     inj:=fun r r' R R' b h=>h.elim
     roots:=fun r R h=>h.elim}
   ·refine⟨?_,?_,?_,?_,?_,?_⟩
    ·intro r R hR
     have:([]++([]:List Root))[r]? =some R:=hR
     simp at this
    ·intro r hr
     have:r<0:=hr
     omega
    ·intro r hr
     have:r<0:=hr
     omega
    ·intro b hb;exact .inl (hSt.S b hb)
    ·intro b hb;exact hSt.heap b hb
    ·intro b s hs;exact hSt.shape b s hs
   ·funext r
    show none=([]++([]:List Root))[r]?
    simp
   ·intro r
    show False↔r<0∨(0≤r∧r<0+0)
    exact⟨fun h=>h.elim,fun h=>by omega⟩
   ·show RelAV _ av v
    refine RelAV.conn (E':=⟨fun _=>none,fun _=>False,E.β,(E.lent L).S,E.w⟩) (f:=fun _=>none) (E:=E.lent L) ⟨rfl,fun _ h=>h,?_,?_,?_⟩ hrel' hren
    ·intro r r' h;cases h
    ·intro r r' h;cases h
    ·intro r r' h;cases h
  cases e with
  |normal=>obtain⟨h1,v,h2,h3⟩:=main hq;exact⟨h1,v,h2,h3⟩
  |ret=>obtain⟨h1,v,h2,h3⟩:=main hq;exact⟨h1,v,h2,h3⟩
  |_=>exact hq.elim
theorem Zw{t:Nat}{av av':AV}{L:List Nat}{st:St}(h:st.sl t=av')(hr:av'.rdo st.look=some (av,L)):EndD P #[.tmp t] av .ret st:=⟨[av'],L,by simp[Lm,W4,h],hr⟩
end
section
variable {P:Program} {o:Oper} {st:St} {K:Out→List Nat→Prop} {cl:Call} {x:Operand} {f:FuncId} {caps ys zs:List AV} {L:List Nat}
theorem ClW.data{av:AV}(hgd:o.guard=none)(hop:o.op= .call cl)(hc:cl.callee= .value x)(hx:Bw st.sl x= .clo f caps)(ha:ArgR st.sl cl.args.toList ys)(hl:AV.lendAs st.look (ys++caps)=some (zs,L))(hL:∀r∈L,r∈AV.idss (ys++caps)∧∃sz xs,st.look r=some (.row sz false xs))(he:Gt P f)
  (hcall:CallOk P f zs [] ⟨av,[],[]⟩)(hren:av.ren (Az [] st.rt.length 0)=some av)(hg:∀p∈Xa2 st.look L,p.1<st.rt.length)(k:K ⟨av,[],Xa2 st.look L⟩ (AV.idss (ys++caps))):ClW P o st K:=by
 refine ClW.call (out:=⟨av,[],[]⟩) (π:=[]) (r0:=[]) hgd hop hc hx ha (LendsR.of hl (fun r hr=>hr)) hL he (Ij _ hl) hcall ?_ rfl .nil (by simp) (by simp) (by simp) (by simp) ?_ k
 ·show(av.ren (Az [] st.rt.length 0)).bind _=_
  rw[hren]
  rfl
 ·intro p hp
  simpa using hg p (by simpa using hp)
end
open Go
mutual
def AV.isD:AV→Bool
 | .d _=>true
 | .rptr _=>true
 | .agg l=>AV.isDs l
 | .clo _ l=>AV.isDs l
 | .anyb _=>true
 | .junk=>true
 |_=>false
def AV.isDs:List AV→Bool
 |[]=>true
 |x::l=>match x.isD with|true=>AV.isDs l|false=>false
end
theorem XhG{x:AV}{l:List AV}(h:AV.isDs (x::l)=true):x.isD=true∧AV.isDs l=true:=by
 simp only[AV.isDs]at h
 split at h
 ·exact⟨by assumption,h⟩
 ·cases h
mutual
theorem Kx(rt:Nat→Option Root):∀{x:AV},x.isD=true→x.lendA rt=some (x,[])∧x.ids=[]
 | .d x,_=>⟨rfl,rfl⟩
 | .rptr cs,_=>⟨rfl,rfl⟩
 | .agg l,h=>by
   have:=J0 rt (x:=l) (by simpa[AV.isD]using h)
   refine⟨by simp[AV.lendA,this.1],by simp[AV.ids,this.2]⟩
 | .clo f l,h=>by
   have:=J0 rt (x:=l) (by simpa[AV.isD]using h)
   refine⟨by simp[AV.lendA,this.1],by simp[AV.ids,this.2]⟩
 | .anyb _,_=>⟨rfl,rfl⟩
 | .junk,_=>⟨rfl,rfl⟩
 | .ref ..,h=>by simp[AV.isD]at h
 | .ptr ..,h=>by simp[AV.isD]at h
 | .tup ..,h=>by simp[AV.isD]at h
theorem J0(rt:Nat→Option Root):∀{x:List AV},AV.isDs x=true→AV.lendAs rt x=some (x,[])∧AV.idss x=[]
 |[],_=>⟨rfl,rfl⟩
 |x::l,h=>by
  obtain⟨h1,h2⟩:=XhG h
  have a:=Kx rt h1
  have b:=J0 rt h2
  refine⟨by simp[AV.lendAs,a.1,b.1],by simp[AV.idss,a.2,b.2]⟩
end
def AV.isDT:AV→Bool
 | .tup l=>AV.isDs l
 |x=>x.isD
theorem Zp(f:Nat→Option Nat){x:AV}(h:x.isDT=true):x.ren f=some x:=by
 cases x with
 |tup l=>exact Xhj (x:=.tup l) (rt:=fun _=>none) (L:=[]) f (by simp[AV.rdo,(J0 (fun _=>none) (x:=l) h).1])
 |ref=>simp[AV.isDT,AV.isD]at h
 |ptr=>simp[AV.isDT,AV.isD]at h
 |d x=>exact Lh (rt:=fun _=>none) f (Kx (fun _=>none) (x:=.d x) h).1
 |rptr cs=>exact Lh (rt:=fun _=>none) f (Kx (fun _=>none) (x:=.rptr cs) h).1
 |agg l=>exact Lh (rt:=fun _=>none) f (Kx (fun _=>none) (x:=.agg l) h).1
 |clo g l=>exact Lh (rt:=fun _=>none) f (Kx (fun _=>none) (x:=.clo g l) h).1
 |anyb p=>rfl
 |junk=>rfl
section
variable {P:Program} {o:Oper} {st:St} {K:Out→List Nat→Prop} {cl:Call} {x:Operand} {f:FuncId} {caps ys:List AV}
theorem ClW.dd{av:AV}(hgd:o.guard=none)(hop:o.op= .call cl)(hc:cl.callee= .value x)(hx:Bw st.sl x= .clo f caps)(ha:ArgR st.sl cl.args.toList ys)(hd:AV.isDs (ys++caps)=true)(he:Gt P f)
  (hcall:CallOk P f (ys++caps) [] ⟨av,[],[]⟩)(hav:av.isDT=true)(k:K ⟨av,[],[]⟩ []):ClW P o st K:=by
 have h:=J0 st.look hd
 refine ClW.data (L:=[]) hgd hop hc hx ha h.1 (by simp) he hcall (Zp _ hav) (by simp[Xa2]) ?_
 rw[h.2]
 exact k
end
open Go
section
variable {α:Type} {c:α→List D} {a:List α} {xs:List (List D)} {k:Nat} {i:Int}
end
theorem Pr{n:Int}(h: -9223372036854775808≤n∧n<9223372036854775808):IntKind.i64.wrap n=n:=Lx h.1 h.2
theorem nc{n:Nat}: @NatCast.natCast Int instNatCastInt n=(n:Int):=rfl
section
variable {α:Type} {c:α→List D} {a:List α} {zs:List (List D)} {z:List D} {k:Nat} {i:Int}
theorem Xg3{z ds:List D}(h:z.length=ds.length):Mi z 0 ds=ds:=by
 unfold Mi
 rw[List.take_zero,List.nil_append,List.drop_of_length_le (by omega),List.append_nil]
end
theorem XiS{P:Program}{st:St}{t r n sz:Nat}{fz:Bool}{xs:List (List D)}(h:st.sl t= .ref r 0 n)(hr:st.look r=some (.row sz fz xs))(hn:n=xs.length):EndD P #[.tmp t] (.d (.row sz xs)) .ret st:=by
 refine Zw (L:=if fz then[]else[r]) h ?_
 subst hn
 show AV.lendA st.look (.ref r 0 xs.length)=_
 simp only[AV.lendA,hr]
 rw[if_pos (by omega),List.drop_zero,List.take_length]
end
section
open Go
def Xjf(P:Program):Nat→List Field→Bool
 |_,[]=>true
 |o,f::l=>f.offset==o&&Xjf P (o+P.cellsOf f.type) l
def Xly(P:Program):List Field→Nat
 |[]=>0
 |f::l=>P.cellsOf f.type+Xly P l
def Mu(P:Program):Nat→TypeId→Bool
 |0,_=>false
 |g+1,t=>
  match P.underlying t with
  |some .bool=>P.cellsOf t==1
  |some (.int _)=>P.cellsOf t==1
  |some .string=>P.cellsOf t==1
  |some (.slice e)=>P.cellsOf t==1&&decide (0<P.cellsOf e)&&Mu P g e
  |some (.struct fs)=>Xjf P 0 fs.toList&&Xly P fs.toList==P.cellsOf t&&fs.toList.all fun f=>Mu P g f.type
  |_=>false
mutual
inductive ShD (P:Program):TypeId→List D→Prop
 |bool {t:TypeId} (b:Bool) (h:P.underlying t=some .bool):ShD P t [.sc (.bool b)]
 |int {t:TypeId} {k:IntKind} (n:Int) (h:P.underlying t=some (.int k)) (hw:(Lit.int k n).wf=true):ShD P t [.sc (.int k n)]
 |str {t:TypeId} (s:ByteArray) (h:P.underlying t=some .string) (hs:s.size≤reachBytes):ShD P t [.sc (.string s)]
 |sl {t e:TypeId} (xs:List (List D)) (h:P.underlying t=some (.slice e)) (hl:xs.length*P.bytesOf e≤reachBytes) (hx:∀x∈xs,ShD P e x):ShD P t [.row (P.cellsOf e) xs]
 |st {t:TypeId} {fs:Array Field} (xs:List D) (h:P.underlying t=some (.struct fs)) (hx:ShDs P fs.toList xs):ShD P t xs
inductive ShDs (P:Program):List Field→List D→Prop
 |nil:ShDs P [] []
 |cons {f:Field} {l:List Field} {a b:List D} (h:ShD P f.type a) (t:ShDs P l b):ShDs P (f::l) (a++b)
end
inductive RelDs (w:World) (S:Nat→Prop):List D→List Value→Prop
 |nil:RelDs w S [] []
 |cons {x:D} {v:Value} {xs:List D} {vs:List Value} (h:RelD w S x v) (t:RelDs w S xs vs):RelDs w S (x::xs) (v::vs)
theorem RelDs.one{w:World}{S:Nat→Prop}{x:D}{v:Value}(h:RelD w S x v):RelDs w S [x] [v]:=.cons h .nil
theorem RelDs.append{w:World}{S:Nat→Prop}{a b:List D}{c d:List Value}(h:RelDs w S a c)(k:RelDs w S b d):RelDs w S (a++b) (c++d):=by
 induction h with
 |nil=>exact k
 |cons h _ ih=>exact .cons h ih
theorem RelDs.length{w:World}{S:Nat→Prop}{a:List D}{c:List Value}(h:RelDs w S a c):a.length=c.length:=by
 induction h with
 |nil=>rfl
 |cons h _ ih=>simp[ih]
theorem RelDs.get{w:World}{S:Nat→Prop}{a:List D}{c:List Value}(h:RelDs w S a c):∀(j:Nat) x,a[j]? =some x→∃v,c[j]? =some v∧RelD w S x v:=by
 induction h with
 |nil=>intro j x h;simp at h
 |cons h _ ih=>
  intro j x hj
  cases j with
  |zero=>simp at hj;subst hj;exact⟨_,rfl,h⟩
  |succ j=>simp at hj;simpa using ih j x hj
theorem Xen(b off i:Nat):(⟨b,off,none⟩:Addr).add i=⟨b,off+i,none⟩:=by
 unfold Addr.add
 split
 ·rename_i h;subst h;rfl
 ·rfl
theorem XbQ(b off i j:Nat):((⟨b,off,none⟩:Addr).add i).add j=⟨b,off+i+j,none⟩:=by rw[Xen,Xen]
section
variable {H:Type} {enc:TypeId×Value→H} {P:Program} {w:World} {base:Nat} {spare:Nat→Bool} {held:Bool}
theorem Oz{e:TypeId}:∀{ds:List (DataW H)} {d:DataW H},d∈ds→∀n∈d.weights P e,n∈DataW.weightsAll P e ds
 |[],d,h,_,_=>by simp at h
 |x::l,d,h,n,hn=>by
  simp only[DataW.weightsAll,List.mem_append]
  rcases List.mem_cons.1 h with rfl|h
  ·exact .inl hn
  ·exact .inr (Oz h n hn)
theorem pick{α β:Type}{l:List α}{R:Nat→β→Prop}:∀{n:Nat},(∀i,i<n→∃y,R i y)→∃ys:List β,ys.length=n∧∀(i:Nat) y,ys[i]? =some y→R i y
 |0,_=>⟨[],rfl,by simp⟩
 |n+1,h=>by
  obtain⟨ys,h1,h2⟩:=pick (l:=l) (R:=R) (n:=n) (fun i hi=>h i (by omega))
  obtain⟨y,hy⟩:=h n (by omega)
  refine⟨ys++[y],by simp[h1],?_⟩
  intro i z hz
  by_cases hi:i<n
  ·rw[List.getElem?_append_left (by omega)]at hz
   exact h2 i z hz
  ·have hlt:=(List.getElem?_eq_some_iff.1 hz).1
   simp at hlt
   have:i=n:=by omega
   subst this
   rw[List.getElem?_append_right (by omega)]at hz
   simp[h1]at hz
   subst hz
   exact hy
theorem Xce{g n:Nat}{fs0:List Field}{xs:List (DataW H×List MemPlace)}(ih:∀{t:TypeId} {cs:List Value} {x:DataW H×List MemPlace},Mu P g t=true→DataW.trod enc P w base spare held n t cs=some x→(∀m∈x.1.weights P t,m≤reachBytes)→
   ∃ys,RelDs w (fun b=>b<w.heap.size) ys cs∧ShD P t ys∧cs.length=P.cellsOf t):
  ∀{fs:List Field} {o i:Nat} {cs:List Value},Xjf P o fs=true→fs.all (fun f=>Mu P g f.type)=true→(∀(k:Nat) f,fs[k]? =some f→DataW.trod enc P w base spare held n f.type ((cs.drop f.offset).take (P.cellsOf f.type))=xs[i+k]?)→
   i+fs.length=xs.length→(∀m∈DataW.weightsEach P (fs.map (·.type)) ((xs.drop i).map (·.1)),m≤reachBytes)→cs.length=o+Xly P fs→∃ys,RelDs w (fun b=>b<w.heap.size) ys (cs.drop o)∧ShDs P fs ys
 |[],o,i,cs,_,_,_,_,_,hlen=>by
  refine⟨[],?_,.nil⟩
  rw[List.drop_of_length_le (by simp[Xly]at hlen;omega)]
  exact .nil
 |f::fs,o,i,cs,hl,ha,ht,hn,hw,hlen=>by
  simp only[Xjf,Bool.and_eq_true,beq_iff_eq]at hl
  simp only[List.all_cons,Bool.and_eq_true]at ha
  have hi:i<xs.length:=by simp at hn;omega
  have h0:=ht 0 f rfl
  simp only[Nat.add_zero]at h0
  have hx:xs[i]? =some xs[i]:=List.getElem?_eq_getElem hi
  rw[hx,hl.1]at h0
  have hd:xs.drop i=xs[i]::xs.drop (i+1):=List.drop_eq_getElem_cons hi
  have hw':∀m∈DataW.weights P f.type xs[i].1++DataW.weightsEach P (fs.map (·.type)) ((xs.drop (i+1)).map (·.1)),m≤reachBytes:=by
   rw[hd]at hw
   simpa only[List.map_cons,DataW.weightsEach]using hw
  obtain⟨ys,h1,h2,h3⟩:=ih ha.1 h0 (fun m hm=>hw' m (List.mem_append_left _ hm))
  simp only[Xly]at hlen
  obtain⟨zs,k1,k2⟩:=Xce (fs0:=fs0) ih (fs:=fs) (o:=o+P.cellsOf f.type) (i:=i+1) (cs:=cs) hl.2 ha.2 (fun k f' hf=>by
   have:=ht (k+1) f' (by simpa using hf)
   rwa[show i+(k+1)=i+1+k by omega]at this) (by simp at hn;omega) (fun m hm=>hw' m (List.mem_append_right _ hm)) (by omega)
  refine⟨ys++zs,?_,.cons h2 k2⟩
  rw[show cs.drop o=(cs.drop o).take (P.cellsOf f.type)++cs.drop (o+P.cellsOf f.type)by rw[←List.drop_drop,List.take_append_drop]]
  exact h1.append k1
theorem Xdo:∀{g n:Nat} {t:TypeId} {cs:List Value} {x:DataW H×List MemPlace},Mu P g t=true→DataW.trod enc P w base spare held n t cs=some x→(∀m∈x.1.weights P t,m≤reachBytes)→
  ∃ys,RelDs w (fun b=>b<w.heap.size) ys cs∧ShD P t ys∧cs.length=P.cellsOf t
 |0,n,t,cs,x,hp,_,_=>by simp[Mu]at hp
 |g+1,n,t,cs,x,hp,h,hw=>by
  unfold Mu at hp
  split at hp
  ·rename_i hu
   obtain⟨b,rfl,rfl⟩:=DataW.trod_bool hu h
   exact⟨_,.one (.sc _ rfl),.bool b hu,by simpa using(beq_iff_eq.1 hp).symm⟩
  ·rename_i k hu
   obtain⟨m,rfl,rfl,hwf⟩:=DataW.trod_int hu h
   exact⟨_,.one (.sc _ rfl),.int m hu hwf,by simpa using(beq_iff_eq.1 hp).symm⟩
  ·rename_i hu
   obtain⟨s,rfl,rfl,_⟩:=DataW.trod_string hu h
   refine⟨_,.one (.sc _ rfl),.str s hu ?_,by simpa using(beq_iff_eq.1 hp).symm⟩
   have:=hw s.data.toList.length (by simp[DataW.weights])
   simpa using this
  ·rename_i e hu
   simp only[Bool.and_eq_true,beq_iff_eq,decide_eq_true_eq]at hp
   obtain⟨⟨ab,ac⟩,hpe⟩:=hp
   rcases DataW.trod_slice hu h with⟨rfl,rfl⟩|⟨a,len,cap,elems,rest,n',rfl,rfl,rfl,hb,hl,hm,hlen,hel,hsp,hns⟩
   ·exact⟨[.row (P.cellsOf e) []],.one (.nil _ _ _),.sl [] hu (by simp) (by simp),ab.symm⟩
   ·simp only[DataW.weights,hu,List.length_map,List.mem_cons,List.mem_append]at hw
    have each:∀i,i<len→∃ys,∃cs',w.cells? base (a.add (i*P.cellsOf e)) (P.cellsOf e)=some cs'∧RelDs w (fun b=>b<w.heap.size) ys cs'∧ShD P e ys∧cs'.length=P.cellsOf e:=by
     intro i hi
     have h1:=hel i hi
     have hx:elems[i]? =some (elems[i]'(by omega)):=List.getElem?_eq_getElem (by omega)
     rw[hx]at h1
     obtain⟨cs',hcs,htr⟩:=Option.bind_eq_some_iff.1 h1
     obtain⟨ys,k1,k2,k3⟩:=Xdo hpe htr (fun m hm=>hw m (.inr (.inl (Oz (List.mem_map.2 ⟨_,List.getElem_mem (by omega),rfl⟩) m hm))))
     exact⟨ys,cs',hcs,k1,k2,k3⟩
    obtain⟨ys,hyl,hy⟩:=pick (l:=([]:List Nat)) each
    refine⟨[.row (P.cellsOf e) ys],.one ?_,.sl ys hu ?_ ?_,ab.symm⟩
    ·cases len with
     |zero=>
      obtain rfl:ys=[]:=by simpa using hyl
      exact .nil _ _ _
     |succ len=>
      have cellAt:∀(i:Nat) z,ys[i]? =some z→∃cs',z.length=P.cellsOf e∧cs'.length=P.cellsOf e∧(∀j,j<P.cellsOf e→w.cell? ((a.add (i*P.cellsOf e)).add j)=cs'[j]?)∧RelDs w (fun b=>b<w.heap.size) z cs':=by
       intro i z hz
       obtain⟨cs',h1,h2,h3,h4⟩:=hy i z hz
       obtain⟨_,_,h5⟩:=World.cells?_some h1
       exact⟨cs',h2.length.trans h4,h4,h5,h2⟩
      have h00:0<ys.length:=by omega
      obtain⟨cs0,_,af,ae,_⟩:=cellAt 0 ys[0] (List.getElem?_eq_getElem h00)
      have ad:=ae 0 ac
      have aa:w.cell? ((a.add (0*P.cellsOf e)).add 0)=some (cs0[0]'(by omega)):=ad.trans (List.getElem?_eq_getElem (by omega))
      have hspot:a.spot=none:=by simpa[Addr.add]using World.cell?_spot aa
      have hblk:a.block<w.heap.size:=by
       obtain⟨cs',h1,_⟩:=hy 0 ys[0] (List.getElem?_eq_getElem h00)
       have:=World.cells?_block h1 ac
       simpa[Addr.add]using this
      obtain⟨b,off,spot⟩:=a
      simp only at hspot hblk
      subst hspot
      rw[←hyl]
      refine .row (P.cellsOf e) ys b off cap (fun i j=>((w.cell? ⟨b,off+i*P.cellsOf e+j,none⟩).getD undef)) hblk (by omega) ?_ ?_ ?_
      ·intro i z hz
       obtain⟨_,h,_⟩:=cellAt i z hz
       exact h
      ·intro i z j y hz hy'
       obtain⟨cs',h1,h2,h3,h4⟩:=cellAt i z hz
       have hj:j<P.cellsOf e:=by rw[←h1];exact(List.getElem?_eq_some_iff.1 hy').1
       have h5:=h3 j hj
       rw[List.getElem?_eq_getElem (by omega)]at h5
       have h6:w.cell? ⟨b,off+i*P.cellsOf e+j,none⟩=some (cs'[j]'(by omega)):=by rw[XbQ]at h5;exact h5
       rw[h6]
       rfl
      ·intro i z j y hz hy'
       obtain⟨cs',h1,h2,h3,h4⟩:=cellAt i z hz
       have hj:j<P.cellsOf e:=by rw[←h1];exact(List.getElem?_eq_some_iff.1 hy').1
       have h5:=h3 j hj
       rw[List.getElem?_eq_getElem (by omega)]at h5
       have h6:w.cell? ⟨b,off+i*P.cellsOf e+j,none⟩=some (cs'[j]'(by omega)):=by rw[XbQ]at h5;exact h5
       rw[h6]
       obtain⟨v,hv,hr⟩:=h4.get j y hy'
       rw[List.getElem?_eq_getElem (by omega)]at hv
       obtain rfl:=Option.some.inj hv
       exact hr
    ·have h1:=hw _ (.inl rfl)
     refine Nat.le_trans (Nat.mul_le_mul_right _ ?_) h1
     omega
    ·intro z hz
     obtain⟨i,hi⟩:=List.getElem?_of_mem hz
     obtain⟨_,_,_,h,_⟩:=hy i z hi
     exact h
  ·rename_i fs hu
   simp only[Bool.and_eq_true,beq_iff_eq]at hp
   obtain⟨⟨hlay,hsum⟩,hall⟩:=hp
   obtain⟨xs,n',rfl,rfl,hlen,hxl,hel⟩:=DataW.trod_struct hu h
   simp only[DataW.weights,hu]at hw
   obtain⟨ys,h1,h2⟩:=Xce (fs0:=fs.toList) (xs:=xs) (fun{t} {cs} {x} a b c=>Xdo (g:=g) a b c) (fs:=fs.toList) (o:=0) (i:=0) (cs:=cs) hlay hall (fun k f hf=>by
    rw[Nat.zero_add];exact hel k f (by simpa using hf)) (by simp[hxl]) (by simpa using hw) (by omega)
   exact⟨ys,by simpa using h1,.st ys hu h2,hlen⟩
  ·cases hp
end
end
section
open Go
open Go.ChangeShapes Go.WideShapes Go.ChangeAt Go.RowKit
def Xdx(P:Program)(t:TypeId)(ys:List D):AV:=
 match P.underlying t with
 |some (.struct _)=>.agg (ys.map .d)
 |_=>match ys with
  |[y]=>.d y
  |_=>.junk
inductive ShAll (P:Program):List TypeId→List (List D)→Prop
 |nil:ShAll P [] []
 |cons {t:TypeId} {ts:List TypeId} {y:List D} {ys:List (List D)} (h:ShD P t y) (k:ShAll P ts ys):ShAll P (t::ts) (y::ys)
def Lj(P:Program):List TypeId→List (List D)→List AV
 |t::ts,y::ys=>Xdx P t y::Lj P ts ys
 |_,_=>[]
theorem RelDs.ones{w:World}{S:Nat→Prop}{a:List D}{c:List Value}(h:RelDs w S a c):∀u∈c,u.oneCell'=true:=by
 induction h with
 |nil=>simp
 |cons h _ ih=>
  intro u hu
  rcases List.mem_cons.1 hu with rfl|hu
  ·exact h.one
  ·exact ih u hu
section
variable {H:Type} {enc:TypeId×Value→H} {P:Program} {W:World} {base base':Nat} {spare:Nat→Bool} {held:Bool} {E:Env}
theorem Xkx{g:Nat}{t:TypeId}{v:Value}{d:DataW H}{p:List MemPlace}(hEw:E.w=W)(hES:E.S=fun b=>b<W.heap.size)(hp:Mu P g t=true)(hv:Value.okWide P W .any base' t v)
  (h:DataW.Trod enc P W base spare held t v d p)(hw:∀m∈d.weights P t,m≤reachBytes):∃ys,ShD P t ys∧RelAV E (Xdx P t ys) v:=by
 obtain⟨fuel,hf⟩:=h
 obtain⟨ys,h1,h2,h3⟩:=Xdo hp hf hw
 refine⟨ys,h2,?_⟩
 have h1':RelDs E.w E.S ys v.cells.toList:=by rw[hEw,hES];exact h1
 have one:(∀cs,v≠.agg cs)→(∀fs,P.underlying t≠some (.struct fs))→RelAV E (Xdx P t ys) v:=by
  intro hn hs
  have hc:v.cells.toList=[v]:=by
   cases v<;>first|rfl|exact absurd rfl (hn _)
  rw[hc]at h1'
  cases h1' with
  |cons hr ht=>
   cases ht with
   |nil=>
    unfold Xdx
    split
    ·rename_i fs hu;exact absurd hu (hs fs)
    ·exact .d _ _ hr
 cases g with
 |zero=>simp[Mu]at hp
 |succ g=>
  unfold Mu at hp
  split at hp
  ·rename_i hu;obtain⟨b,rfl⟩:=okWide_bool hu hv;exact one (by intro cs h;cases h) (by intro fs h;rw[hu]at h;cases h)
  ·rename_i hu;obtain⟨b,rfl⟩:=okWide_int hu hv;exact one (by intro cs h;cases h) (by intro fs h;rw[hu]at h;cases h)
  ·rename_i hu;obtain⟨b,rfl⟩:=okWide_string hu hv;exact one (by intro cs h;cases h) (by intro fs h;rw[hu]at h;cases h)
  ·rename_i hu;obtain⟨a,l,c,rfl⟩:=okWide_slice hu hv;exact one (by intro cs h;cases h) (by intro fs h;rw[hu]at h;cases h)
  ·rename_i fs hu
   obtain⟨cs,rfl,_⟩:=okWide_struct hu hv
   have e:Xdx P t ys= .agg (ys.map .d):=by unfold Xdx;rw[hu]
   rw[e]
   have h1'':RelDs E.w E.S ys cs.toList:=h1'
   refine .agg _ cs (by have:=h1''.length;simp at this;simp[this]) ?_ (fun u hu=>h1''.ones u (by simpa using hu))
   intro j y hy
   rw[List.getElem?_map]at hy
   obtain⟨x,hx,rfl⟩:=Option.map_eq_some_iff.1 hy
   obtain⟨u,hu,hr⟩:=h1''.get j x hx
   have:cs.getD j undef=u:=by
    rw[Array.getElem?_toList]at hu
    rw[Array.getD_eq_getD_getElem?,hu];rfl
   rw[this]
   exact .d _ _ hr
  ·cases hp
theorem XeK{g:Nat}(hEw:E.w=W)(hES:E.S=fun b=>b<W.heap.size):∀{ts:List TypeId} {vs:List Value} {ds:List (DataW H)} {p:List MemPlace},ts.all (Mu P g)=true→(∀(j:Nat) t v,ts[j]? =some t→vs[j]? =some v→Value.okWide P W .any base' t v)→
  DataW.TrodAll enc P W base spare held ts vs ds p→(∀m∈DataW.weightsEach P ts ds,m≤reachBytes)→∃yss,ShAll P ts yss∧(Lj P ts yss).length=vs.length∧∀(j:Nat) y,(Lj P ts yss)[j]? =some y→∃v,vs[j]? =some v∧RelAV E y v
 |[],vs,ds,p,_,_,h,_=>by
  cases vs with
  |nil=>exact⟨[],.nil,rfl,by simp[Lj]⟩
  |cons v vs=>cases ds<;>simp[DataW.TrodAll]at h
 |t::ts,vs,ds,p,hp,hv,h,hw=>by
  obtain⟨v,vs',d,ds',p1,q,rfl,rfl,rfl,h1,h2⟩:=trodAll_cons h
  simp only[List.all_cons,Bool.and_eq_true]at hp
  simp only[DataW.weightsEach,List.mem_append]at hw
  obtain⟨ys,k1,k2⟩:=Xkx hEw hES hp.1 (hv 0 t v rfl rfl) h1 (fun m hm=>hw m (.inl hm))
  obtain⟨yss,k3,k4,k5⟩:=XeK hEw hES hp.2 (fun j t v a b=>hv (j+1) t v (by simpa using a) (by simpa using b)) h2 (fun m hm=>hw m (.inr hm))
  refine⟨ys::yss,.cons k1 k3,by simp[Lj,k4],?_⟩
  intro j y hy
  cases j with
  |zero=>simp[Lj]at hy;subst hy;exact⟨v,rfl,k2⟩
  |succ j=>simp[Lj]at hy;simpa using k5 j y hy
theorem XgO{f:FuncId}{g:Nat}{ts:List TypeId}{args:Array Value}{ds:List (DataW H)}{p:List MemPlace}(hp:ts.all (Mu P g)=true)(hcall:∀yss,ShAll P ts yss→CallOk P f (Lj P ts yss) [] ⟨.d (.sc (.bool true)),[],[]⟩)
  (hv:∀(j:Nat) t v,ts[j]? =some t→args.toList[j]? =some v→Value.okWide P W .any base' t v)(h:DataW.TrodAll enc P W base spare held ts args.toList ds p)(hw:∀m∈DataW.weightsEach P ts ds,m≤reachBytes)(hG:Globs.ok W fun b=>b<W.heap.size):
  Calls P f args W fun e W'=>e= .returned (.bool true)∧Below W.heap.size W W':=by
 let S:Nat→Prop:=fun b=>b<W.heap.size
 let β:Nat→Option Nat:=fun _=>none
 obtain⟨yss,h1,h2,h3⟩:=XeK (E:=Bh W S β [] []) rfl rfl hp hv h hw
 have hM:Mem (Ha W S β []) (Bh W S β [] []):={
  os:=rfl
  output:=rfl
  tape:=rfl
  size:=Nat.le_refl _
  keep:=fun _ _ _=>rfl
  shape:=fun _ _ h=>h
  s0:=fun _ h=>h
  slt:=fun _ h=>h
  glob:=hG
  snew:=fun _ h=>.inl h
  blt:=fun r b h=>absurd h (Nat.not_lt_zero r)
  bown:=fun r R b h=>absurd h (Nat.not_lt_zero r)
  bkeep:=fun r R h=>absurd h (Nat.not_lt_zero r)
  inj:=fun r r' R R' b h=>absurd h (Nat.not_lt_zero r)
  roots:=fun r R h=>absurd h (Nat.not_lt_zero r)}
 have hA:Xfr (Bh W S β [] []) (Lj P ts yss) args:=by
  refine⟨by rw[h2];simp,?_⟩
  intro j y hy
  obtain⟨v,hv,hr⟩:=h3 j y hy
  have:args.getD j undef=v:=by
   rw[Array.getElem?_toList]at hv
   rw[Array.getD_eq_getD_getElem?,hv];rfl
  rw[this]
  exact hr
 refine(hcall yss h1 W S β args hM hA).mono ?_
 rintro e W' ⟨v,E',rfl,rfl,hO⟩
 have hb:v= .bool true:=Xe0 hO.rel
 subst hb
 refine⟨rfl,hO.mem.os,hO.mem.tape,hO.mem.output,hO.mem.size,?_⟩
 intro k hk
 refine hO.mem.keep k hk ?_
 rintro⟨r,R,hR,_⟩
 simp at hR
end
section
variable {P:Program} {t:TypeId} {xs:List D}
theorem ShD.inv_int{k:IntKind}(hu:P.underlying t=some (.int k))(h:ShD P t xs):∃n,xs=[.sc (.int k n)]∧(Lit.int k n).wf=true:=by
 cases h with
 |int n h hw=>rw[hu]at h;obtain rfl:k=_:=by injection h with h;injection h
              exact⟨n,rfl,hw⟩
 |bool b h=>rw[hu]at h;cases h
 |str s h=>rw[hu]at h;cases h
 |sl ys h=>rw[hu]at h;cases h
 |st ys h=>rw[hu]at h;cases h
theorem ShD.inv_sl{e:TypeId}(hu:P.underlying t=some (.slice e))(h:ShD P t xs):∃ys,xs=[.row (P.cellsOf e) ys]∧ys.length*P.bytesOf e≤reachBytes∧∀x∈ys,ShD P e x:=by
 cases h with
 |sl ys h hl hx=>rw[hu]at h;obtain rfl:e=_:=by injection h with h;injection h
                 exact⟨ys,rfl,hl,hx⟩
 |bool b h=>rw[hu]at h;cases h
 |int n h=>rw[hu]at h;cases h
 |str ys h=>rw[hu]at h;cases h
 |st ys h=>rw[hu]at h;cases h
theorem XhC{α:Type}{c:α→List D}{p:α→Prop}:∀{ys:List (List D)},(∀x∈ys,∃a,x=c a∧p a)→∃as0:List α,as0.map c=ys∧as0.length=ys.length∧∀a∈as0,p a
 |[],_=>⟨[],rfl,rfl,by simp⟩
 |y::ys,h=>by
  obtain⟨a,rfl,ha⟩:=h y (by simp)
  obtain⟨as0,rfl,hl,hp⟩:=XhC (ys:=ys) (fun x hx=>h x (by simp[hx]))
  refine⟨a::as0,rfl,by simp,?_⟩
  intro b hb
  rcases List.mem_cons.1 hb with rfl|hb
  ·exact ha
  ·exact hp b hb
theorem Xjo:reachBytes<2^47:=by decide
end
open Go
section
variable {P:Program} {N:Nat} {Q:Exit→St→Prop} {st:St}
end
theorem T7{P:Program}{st:St}{t:Nat}{x x':D}(h:st.sl t= .d x')(e:x'=x):EndD P #[.tmp t] (.d x) .ret st:=by
 subst e
 exact Zw h rfl
open Go
section
variable {P:Program} {N:Nat} {Q:Exit→St→Prop} {st:St}
theorem Holds.ren{c:Ctx}{Ei:Env}{a:Act}{w:World}(h:Holds c Ei N st a w){n0:Nat}{ids:List Nat}{sl':Nat→AV}{rt':List Root}(hm:c.m≤n0)(hge:∀i∈ids,n0≤i)(hnd:ids.Nodup)(hlen:rt'.length=n0+ids.length)
  (hlow:∀(r:Nat) R',r<n0→rt'[r]? =some R'→∃R,st.rt[r]? =some R∧R.ren (D8 n0 ids)=some R')(hhigh:∀(j i:Nat) R',ids[j]? =some i→rt'[n0+j]? =some R'→∃R,st.rt[i]? =some R∧R.ren (D8 n0 ids)=some R')
  (hs:∀t,sl' t= .junk∨(st.sl t).ren (D8 n0 ids)=some (sl' t)):Holds c Ei N ⟨sl',rt'⟩ a w:=by
 obtain⟨E,rfl,hM,hSt,hrt,hpr,hsl,hdef,hsz,_⟩:=h
 let f:=D8 n0 ids
 let E':Env:=⟨fun r=>rt'[r]?,fun r=>r<rt'.length,fun r=>if r<n0 then E.β r else(ids[r - n0]?).bind E.β,E.S,E.w⟩
 have e_β:∀r,E'.β r=if r<n0 then E.β r else(ids[r - n0]?).bind E.β:=fun r=>rfl
 have src:∀{x R'},rt'[x]? =some R'→∃r R,f r=some x∧E.pres r∧E'.β x=E.β r∧E.rt r=some R∧R.ren f=some R':=by
  intro x R' hx
  have hxl:x<rt'.length:=(List.getElem?_eq_some_iff.1 hx).1
  by_cases hlt:x<n0
  ·obtain⟨R,h1,h2⟩:=hlow x R' hlt hx
   refine⟨x,R,if_pos hlt,?_,?_,?_,h2⟩
   ·rw[hpr];exact(List.getElem?_eq_some_iff.1 h1).1
   ·rw[e_β,if_pos hlt]
   ·rw[hrt];exact h1
  ·have hk:x - n0<ids.length:=by omega
   have hgi:ids[x - n0]? =some ids[x - n0]:=List.getElem?_eq_getElem hk
   obtain⟨R,h1,h2⟩:=hhigh (x - n0) _ R' hgi (by rw[show n0+(x - n0)=x by omega];exact hx)
   refine⟨ids[x - n0],R,?_,?_,?_,?_,h2⟩
   ·have:=Yd hnd hge hgi
    rwa[show n0+(x - n0)=x by omega]at this
   ·rw[hpr];exact(List.getElem?_eq_some_iff.1 h1).1
   ·rw[e_β,if_neg hlt,hgi];rfl
   ·rw[hrt];exact h1
 have inj':∀{r r' x},f r=some x→f r'=some x→r=r':=by
  intro r r' x h h'
  rcases Fk h with⟨h1,rfl⟩|⟨h1,h2,h3⟩<;>rcases Fk h' with⟨k1,k2⟩|⟨k1,k2,k3⟩
  ·exact k2
  ·omega
  ·omega
  ·rw[h3]at k3;exact Option.some.inj k3
 have dom:∀{r x},f r=some x→∃R',rt'[x]? =some R':=by
  intro r x h
  have:x<rt'.length:=by
   rcases Fk h with⟨h1,rfl⟩|⟨h1,h2,h3⟩
   ·omega
   ·have:=(List.getElem?_eq_some_iff.1 h3).1
    omega
  exact⟨_,List.getElem?_eq_getElem this⟩
 have hC:Conn f E E':=by
  refine⟨rfl,fun _ h=>h,?_,?_,?_⟩
  ·intro r x h
   obtain⟨R',hR'⟩:=dom h
   obtain⟨r',R,h1,_,_,h2,h3⟩:=src hR'
   rw[inj' h h1,h2]
   show Option.map Root.kind rt'[x]? =_
   rw[hR']
   simp[Ip h3]
  ·intro r x h
   obtain⟨R',hR'⟩:=dom h
   obtain⟨r',R,h1,h2,_⟩:=src hR'
   rw[inj' h h1]
   exact⟨fun _=>h2,fun _=>(List.getElem?_eq_some_iff.1 hR').1⟩
  ·intro r x h _
   obtain⟨R',hR'⟩:=dom h
   obtain⟨r',R,h1,_,h2,_⟩:=src hR'
   rw[h2,inj' h h1]
 have live:∀{x R'},rt'[x]? =some R'→R'≠.dead→∃r R,f r=some x∧E.pres r∧E'.β x=E.β r∧E.rt r=some R∧R≠.dead:=by
  intro x R' hx hd
  obtain⟨r,R,h1,h2,h3,h4,h5⟩:=src hx
  exact⟨r,R,h1,h2,h3,h4,fun e=>hd ((G5 h5).2 e)⟩
 have hM':Mem c E':={
  os:=hM.os
  output:=hM.output
  tape:=hM.tape
  size:=hM.size
  keep:=hM.keep
  shape:=hM.shape
  s0:=hM.s0
  slt:=hM.slt
  glob:=hM.glob
  snew:=hM.snew
  blt:=by
   intro x b hp hb
   obtain⟨r,R,_,h2,h3,_⟩:=src (List.getElem?_eq_getElem (show x<rt'.length from hp))
   rw[h3]at hb
   exact hM.blt r b h2 hb
  bown:=by
   intro x R b hp hR hd hb
   obtain⟨r,R0,_,h2,h3,h4,h5⟩:=live hR hd
   rw[h3]at hb
   exact hM.bown r R0 b h2 h4 h5 hb
  bkeep:=by
   intro x R hlt hp hR hd
   obtain⟨r,R0,h1,h2,h3,h4,h5⟩:=live hR hd
   rcases Fk h1 with⟨k1,rfl⟩|⟨k1,k2,_⟩
   ·rw[h3];exact hM.bkeep x R0 hlt h2 h4 h5
   ·omega
  inj:=by
   intro x x' R R' b hp hp' hR hd hR' hd' hb hb'
   obtain⟨r,R0,h1,h2,h3,h4,h5⟩:=live hR hd
   obtain⟨r',R0',h1',h2',h3',h4',h5'⟩:=live hR' hd'
   rw[h3]at hb
   rw[h3']at hb'
   have:=hM.inj r r' R0 R0' b h2 h2' h4 h5 h4' h5' hb hb'
   subst this
   rw[h1]at h1'
   exact Option.some.inj h1'
  roots:=by
   intro x R hp hR
   obtain⟨r,R0,h1,h2,h3,h4,h5⟩:=src (show rt'[x]? =some R from hR)
   exact RootRel.conn hC (fun _ h=>h) h1 h2 h5 (hM.roots r R0 h2 h4)}
 refine⟨E',rfl,hM',?_,rfl,fun _=>Iff.rfl,?_,hdef,hsz,?_⟩
 ·refine⟨?_,?_,?_,hSt.S,hSt.heap,hSt.shape⟩
  ·intro r R hr hR
   have hlt:r<n0:=by omega
   obtain⟨R1,h1,h2⟩:=hSt.rt r R hr hR
   have hx:rt'[r]? =some (rt'[r]'(by omega)):=List.getElem?_eq_getElem (by omega)
   obtain⟨R2,k1,k2⟩:=hlow r _ hlt hx
   have k3:E.rt r=some R2:=by rw[hrt];exact k1
   rw[h1]at k3
   obtain rfl:=Option.some.inj k3
   refine⟨_,hx,?_⟩
   rcases h2 with h2|h2
   ·exact .inl ((G5 k2).2 h2)
   ·exact .inr ((Ip k2).trans h2)
  ·intro r hr _
   show r<rt'.length
   omega
  ·intro r hr hp
   rw[e_β,if_pos (by omega)]
   exact hSt.β r hr hp
 ·intro t
  show RelAV E' (sl' t) _
  rcases hs t with h|h
  ·rw[h];exact .junk _
  ·exact RelAV.conn hC (hsl t) h
 ·show c.m≤rt'.length
  omega
def mvF(r n:Nat):Nat→Option Nat:=fun x=>if x=r then some n else if x<n then some x else none
def mvS(r n:Nat)(sl:Nat→AV):Nat→AV:=fun t=>((sl t).ren (mvF r n)).getD .junk
def Xac(n0:Nat)(sl:List (Nat×AV))(rt:List Root)(st':St):Prop:=
 ∃ids:List Nat,(∀i∈ids,n0≤i)∧ids.Nodup∧rt.length=n0+ids.length∧(∀(r:Nat) R',r<n0→rt[r]? =some R'→∃R,st'.rt[r]? =some R∧R.ren (D8 n0 ids)=some R')∧
  (∀(j i:Nat) R',ids[j]? =some i→rt[n0+j]? =some R'→∃R,st'.rt[i]? =some R∧R.ren (D8 n0 ids)=some R')∧∀p∈sl,(st'.sl p.1).ren (D8 n0 ids)=some p.2
theorem LpW.ofR{κ:Type}{body:Code}(inv:κ→Prop)(μ:κ→Nat)(sl:κ→List (Nat×AV))(rt:κ→List Root)(k0:κ)(n0:Nat)(h0:inv k0)(hw:WeakL (sl k0) st.sl)(hrt:st.rt=rt k0){m0:Nat}(ab:m0≤n0){st0:St}(aa:st0.rt.length=m0)
  (from0:∀c Ei a w,Holds c Ei N st0 a w→Holds c Ei N st a w)
  (round:∀k,inv k→AW P N body (Exit.thenQ (fun st'=>∃k',inv k'∧μ k'<μ k∧Xac n0 (sl k') (rt k') st') Q) ⟨look (sl k),rt k⟩):LpW P N body Q st0:=by
 refine⟨?_⟩
 intro c Ei a w hH0
 have hm:c.m≤n0:=by
  obtain⟨E,_,_,_,_,_,_,_,_,hm⟩:=hH0
  omega
 have hH:Holds c Ei N ⟨look (sl k0),rt k0⟩ a w:=by
  have h1:=from0 c Ei a w hH0
  obtain⟨E,hw',hM,hSt,hrt',hpr,hsl,hrest⟩:=h1
  rw[hrt]at hpr hrest
  refine⟨E,hw',hM,hSt,by rw[hrt'];unfold St.look;rw[hrt],hpr,?_,hrest⟩
  intro t
  rcases hw.look t with e|e
  ·show RelAV E (look (sl k0) t) _
   rw[e];exact hsl t
  ·show RelAV E (look (sl k0) t) _
   rw[e];exact .junk _
 let J:Act→World→Nat→Prop:=fun a w n=>∃k,inv k∧μ k=n∧Holds c Ei N ⟨look (sl k),rt k⟩ a w
 let ν:Act→World→Nat:=fun a w=>open Classical in if h:∃k,J a w k∧∀m,J a w m→k≤m then h.choose else 0
 have hν:∀{a w n},J a w n→J a w (ν a w)∧ν a w≤n:=by
  intro a w n h
  have hl:=Wy n h
  have:ν a w=hl.choose:=dif_pos hl
  rw[this]
  exact⟨hl.choose_spec.1,hl.choose_spec.2 n h⟩
 refine wp_loop (fun a w=>∃n,J a w n) ν ⟨μ k0,k0,h0,rfl,hH⟩ ?_
 rintro a w ⟨n,hn⟩
 obtain⟨⟨k,hk,hμ,hH'⟩,_⟩:=hν hn
 refine wp_mono (round k hk c Ei a w hH') ?_
 rintro e a' w' ⟨st',hq,hH''⟩
 cases e with
 |normal=>
  obtain⟨k',h1,h2,ids,i1,i2,i3,i4,i5,i6⟩:=hq
  have hD:=hH''.ren (n0:=n0) (ids:=ids) (sl':=look (sl k')) (rt':=rt k') hm i1 i2 i3 i4 i5 (by
   intro t
   have key:∀{l:List (Nat×AV)},(∀p∈l,(st'.sl p.1).ren (D8 n0 ids)=some p.2)→look l t= .junk∨(st'.sl t).ren (D8 n0 ids)=some (look l t):=by
    intro l
    induction l with
    |nil=>intro _;exact .inl rfl
    |cons p l ih=>
     intro hl
     obtain⟨s,x⟩:=p
     simp only[look]
     split
     ·rename_i e;subst e;exact .inr (hl (t,x) List.mem_cons_self)
     ·exact ih (fun p hp=>hl p (List.mem_cons_of_mem _ hp))
   exact key i6)
  have hJ:J a' w' (μ k'):=⟨k',h1,rfl,hD⟩
  exact⟨⟨_,hJ⟩,Nat.lt_of_le_of_lt (hν hJ).2 (by omega)⟩
 |_=>exact⟨st',hq,hH''⟩
end
open Go
section
variable {P:Program} {f:FuncId} {as0:List AV} {o0:Out} {av:AV} {L:List Nat}
end
def tx(l:List UInt8):ByteArray:=⟨l.toArray⟩
def cB(b:UInt8):List D:=[.sc (.int .u8 b.toNat)]
theorem Vk(s:ByteArray):tx s.data.toList=s:=by cases s;simp[tx]
theorem XjT{a b:List UInt8}(h:tx a=tx b):a=b:=by simpa[tx]using h
theorem XlY{a b:List UInt8}:tx a=tx b↔a=b:=⟨XjT,fun h=>by rw[h]⟩
theorem A3{l:List UInt8}:(tx l).size=l.length:=by simp[tx,ByteArray.size]
theorem Cw{a b:List UInt8}:tx a++tx b=tx (a++b):=by
 cases ha:tx a++tx b
 rename_i d
 have:(tx a++tx b).data=(tx (a++b)).data:=by simp[tx,ByteArray.data_append]
 rw[ha]at this
 simp only[tx]at this⊢
 rw[this]
theorem Jr:∀(l:List UInt8),Gw (l.map cB)=some (l.map fun b=>(b.toNat:Int))
 |[]=>rfl
 |b::l=>by
  show(Gw (l.map cB)).map ((b.toNat:Int)::·)=_
  rw[Jr l];rfl
theorem Xcc(l:List UInt8):std.bytes (l.map cB)=tx l:=by
 show(match Gw (l.map cB)with|some ns=>D3 ns|none=>default)=_
 rw[Jr]
 show D3 _=_
 unfold D3 tx
 rw[List.map_map]
 congr 2
 induction l with
 |nil=>rfl
 |cons b l ih=>simp only[List.map_cons,ih,Function.comp,Int.toNat_natCast,UInt8.ofNat_toNat]
theorem XjI{l:List UInt8}{a b:Int}:std.ssub (tx l) a b=tx ((l.drop a.toNat).take (b.toNat - a.toNat)):=by
 show(tx l).extract a.toNat b.toNat=_
 unfold tx
 cases h:ByteArray.extract ⟨l.toArray⟩ a.toNat b.toNat
 rename_i d
 have:(ByteArray.extract ⟨l.toArray⟩ a.toNat b.toNat).data=d:=by rw[h]
 rw[ByteArray.data_extract]at this
 rw[←this]
 simp[List.extract_eq_take_drop]
open Go
inductive LendL (rt:Nat→Option Root):List AV→List AV→Prop
 |nil:LendL rt [] []
 |d {x:AV} {ys zs:List AV} (h:x.isD=true) (t:LendL rt ys zs):LendL rt (x::ys) (x::zs)
 |ref {r n sz:Nat} {fz:Bool} {xs:List (List D)} {ys zs:List AV} (h:rt r=some (.row sz fz xs)) (hn:n=xs.length) (t:LendL rt ys zs):LendL rt (.ref r 0 n::ys) (.d (.row sz xs)::zs)
 |agg {l l' ys zs:List AV} (h:LendL rt l l') (t:LendL rt ys zs):LendL rt (.agg l::ys) (.agg l'::zs)
 |sub {r o n sz:Nat} {fz:Bool} {xs us:List (List D)} {ys zs:List AV} (h:rt r=some (.row sz fz xs)) (hn:o+n≤xs.length) (e:(xs.drop o).take n=us) (t:LendL rt ys zs):LendL rt (.ref r o n::ys) (.d (.row sz us)::zs)
theorem LendL.get{rt:Nat→Option Root}{ys zs:List AV}(h:LendL rt ys zs):∃L,AV.lendAs rt ys=some (zs,L):=by
 induction h with
 |nil=>exact⟨[],rfl⟩
 |d h _ ih=>
  obtain⟨L,hL⟩:=ih
  exact⟨L,by simp[AV.lendAs,(Kx rt h).1,hL]⟩
 | @ref r n sz fz xs ys zs h hn _ ih=>
   obtain⟨L,hL⟩:=ih
   subst hn
   exact⟨(if fz then[]else[r])++L,by simp[AV.lendAs,AV.lendA,h,hL]⟩
 |agg _ _ ih1 ih2=>
  obtain⟨L1,h1⟩:=ih1
  obtain⟨L2,h2⟩:=ih2
  exact⟨L1++L2,by simp[AV.lendAs,AV.lendA,h1,h2]⟩
 | @sub r o n sz fz xs us ys zs h hn e _ ih=>
   obtain⟨L,hL⟩:=ih
   subst e
   exact⟨(if fz then[]else[r])++L,by simp[AV.lendAs,AV.lendA,h,hL,hn]⟩
theorem Tt{α:Type}{c:α→List D}(h:∀a,(c a).all D.flat=true)(l:List α){sz:Nat}:([Root.row sz false (l.map c)]).all Root.flat=true:=by
 simp[Root.flat]
 intro a _ x hx
 have:=List.all_eq_true.1 (h a) x hx
 exact this
section
variable {P:Program} {o:Oper} {st:St} {K:Out→List Nat→Prop} {cl:Call} {x:Operand} {f:FuncId} {caps ys as0:List AV}
theorem ClW.lnt{av:AV}(hgd:o.guard=none)(hop:o.op= .call cl)(hc:cl.callee= .value x)(hx:Bw st.sl x= .clo f caps)(ha:ArgR st.sl cl.args.toList ys)(hl:LendL st.look (ys++caps) as0)(he:Gt P f)
  (hcall:CallOk P f as0 [] ⟨av,[],[]⟩)(hav:av.isDT=true)(hfl:av.flat=true)(k:K ⟨av,[],[]⟩ (AV.idss (ys++caps))):ClW P o st K:=by
 obtain⟨L,hL⟩:=hl.get
 exact ClW.val hgd hop hc hx ha hL he hcall (Zp _ hav) hfl k
theorem ClW.lntR{n sz:Nat}{xs:List (List D)}(hgd:o.guard=none)(hop:o.op= .call cl)(hc:cl.callee= .value x)(hx:Bw st.sl x= .clo f caps)(ha:ArgR st.sl cl.args.toList ys)(hl:LendL st.look (ys++caps) as0)(he:Gt P f)
  (hcall:CallOk P f as0 [] ⟨.ref 0 0 n,[.row sz false xs],[]⟩)(hfl:([Root.row sz false xs]).all Root.flat=true)(k:K ⟨.ref st.rt.length 0 n,[.row sz false xs],[]⟩ (AV.idss (ys++caps))):ClW P o st K:=by
 obtain⟨L,hL⟩:=hl.get
 refine ClW.pure (out:=⟨.ref st.rt.length 0 n,[.row sz false xs],[]⟩) hgd hop hc hx ha hL he hcall ?_ rfl rfl hfl k
 simp[Out.ren,AV.ren,Az,E4,Root.ren,XiG]
end
def wfI(n:Int):Prop:=-9223372036854775808≤n∧n<9223372036854775808
section
variable {α:Type} {mk:Nat→α} {a l:List α} {e:α→List D} {zs:List (List D)} {j:Nat} {i:Int}
end
open Go
section
variable {P:Program} {o:Oper} {st:St} {K:Out→List Nat→Prop} {cl:Call} {x:Operand} {f:FuncId} {caps ys:List AV}
theorem ClW.ddA{o0 out:Out}(hgd:o.guard=none)(hop:o.op= .call cl)(hc:cl.callee= .value x)(hx:Bw st.sl x= .clo f caps)(ha:ArgR st.sl cl.args.toList ys)(hd:AV.isDs (ys++caps)=true)(he:Gt P f)
  (hcall:CallOk P f (ys++caps) [] o0)(hren:o0.ren (Az [] st.rt.length o0.new.length)=some out)(hog:out.g=[])(hfa:out.av.flat=true)(hfn:out.new.all Root.flat=true)(k:K out []):ClW P o st K:=by
 have h:=J0 st.look hd
 refine ClW.pure (L:=[]) hgd hop hc hx ha h.1 he hcall hren hog hfa hfn ?_
 rw[h.2]
 exact k
end
theorem Aq{α:Type}{c:α→List D}(h:∀a,(c a).all D.flat=true){l:List α}{xs:List (List D)}{sz:Nat}(hx:l.map c=xs):Root.flat (.row sz false xs)=true:=by
 subst hx
 have:=Tt h l (sz:=sz)
 simpa using this
theorem LendsR.refl{rt:Nat→Option Root}:∀(l:List AV),LendsR rt [] l l
 |[]=>.nil
 |x::l=>.same (LendsR.refl l)
section
variable {P:Program} {o:Oper} {st:St} {K:Out→List Nat→Prop} {cl:Call} {x:Operand} {f:FuncId} {caps ys as0:List AV}
end
open Go Go.RowKit
theorem Mf{w w':World}(h:Below w.heap.size w w'){b:Nat}{s:TypeId×Nat}(hs:w.shape? b=some s):w'.shape? b=some s:=by
 rw[Iy (h.block b (Xez hs))];exact hs
section
variable {P:Program} {f:FuncId} {as0:List AV}
theorem CallOk.ofCallsG{y:D}(h:∀(E:Env) (vs:Array Value),(∀b,E.S b→b<E.w.heap.size)→Globs.ok E.w E.S→Xfr E as0 vs→Calls P f vs E.w fun e w'=>∃v,e= .returned v∧Below E.w.heap.size E.w w'∧RelD E.w E.S y v):CallOk P f as0 [] ⟨.d y,[],[]⟩:=by
 intro w S β vs hM hA
 refine(h (Bh w S β [] []) vs hM.slt hM.glob hA).mono ?_
 rintro e w' ⟨v,he,hb,hr⟩
 have hb:Below w.heap.size w w':=hb
 have st:Step (Bh w S β [] []) {Bh w S β [] []with w:=w'}:=⟨fun r R hR=>⟨R,hR,.inr rfl⟩,fun _ h=>h,fun _ _=>rfl,fun _ h=>h,fun b hS=>hb.block b (hM.slt b hS),fun b s hs=>Mf hb hs⟩
 refine⟨v,{Bh w S β [] []with w:=w'},he,rfl,?_,st,?_,?_,hb.size,.d _ _ (hr.step st.S st.heap)⟩
 ·exact{
   os:=hb.os.trans hM.os
   output:=hb.output.trans hM.output
   tape:=hb.tape.trans hM.tape
   size:=hb.size
   keep:=fun b hlt hn=>hb.block b hlt
   shape:=fun b s hs=>Mf hb hs
   s0:=hM.s0
   slt:=fun b hS=>Nat.lt_of_lt_of_le (hM.slt b hS) hb.size
   glob:=Globs.step st.S st.heap hM.glob
   snew:=hM.snew
   blt:=fun r b hp hβ=>absurd hp (Nat.not_lt_zero r)
   bown:=fun r R b hp=>absurd hp (Nat.not_lt_zero r)
   bkeep:=fun r R hlt hp=>absurd hp (Nat.not_lt_zero r)
   inj:=fun r r' R R' b hp=>absurd hp (Nat.not_lt_zero r)
   roots:=fun r R hp=>absurd hp (Nat.not_lt_zero r)}
 ·rfl
 ·intro r
  constructor
  ·exact fun h=>.inl h
  ·rintro(h|⟨_,h⟩)
   ·exact h
   ·exact absurd h (by simp)
theorem CallOk.ofCalls{y:D}(h:∀(E:Env) (vs:Array Value),(∀b,E.S b→b<E.w.heap.size)→Xfr E as0 vs→Calls P f vs E.w fun e w'=>∃v,e= .returned v∧Below E.w.heap.size E.w w'∧RelD E.w E.S y v):CallOk P f as0 [] ⟨.d y,[],[]⟩:=
 .ofCallsG fun E vs hS _ hA=>h E vs hS hA
theorem Xkw{E:Env}{x:AV}{vs:Array Value}(h:Xfr E [x] vs):∃v,vs= #[v]∧RelAV E x v:=by
 obtain⟨hs,hr⟩:=h
 have:vs.size=1:=hs
 obtain⟨l⟩:=vs
 match l,this with
 |[v],_=>exact⟨v,rfl,hr 0 x rfl⟩
theorem args2{E:Env}{x y:AV}{vs:Array Value}(h:Xfr E [x,y] vs):∃u v,vs= #[u,v]∧RelAV E x u∧RelAV E y v:=by
 obtain⟨hs,hr⟩:=h
 have:vs.size=2:=hs
 obtain⟨l⟩:=vs
 match l,this with
 |[u,v],_=>exact⟨u,v,rfl,hr 0 x rfl,hr 1 y rfl⟩
theorem R4{E:Env}{x v:Value}(h:RelAV E (.d (.sc x)) v):v=x:=by
 cases h with
 |d _ _ h=>cases h;rfl
end
open Go
inductive ArW (op:BinOp) (k k':IntKind) (a b:Int) (K:Int→Prop):Prop|mk (v:Int) (h:Jw op false (.int k a) (.int k' b)=some (.int k v)) (hk:K v):ArW op k k' a b K
inductive CmpW (op:BinOp) (k k':IntKind) (a b:Int) (K:Bool→Prop):Prop|mk (v:Bool) (h:Jw op false (.int k a) (.int k' b)=some (.bool v)) (hk:K v):CmpW op k k' a b K
inductive CatW (a b:ByteArray) (K:ByteArray→Prop):Prop|mk (v:ByteArray) (h:Xx .add a b=some (.string v)) (hk:K v):CatW a b K
inductive SCmpW (op:BinOp) (a b:ByteArray) (K:Bool→Prop):Prop|mk (v:Bool) (h:Xx op a b=some (.bool v)) (hk:K v):SCmpW op a b K
inductive BCmpW (op:BinOp) (a b:Bool) (K:Bool→Prop):Prop|mk (v:Bool) (h:Jw op true (.bool a) (.bool b)=some (.bool v)) (hk:K v):BCmpW op a b K
inductive AggW (ks:List EK) (xs ys:List AV) (K:Bool→Prop):Prop|mk (v:Bool) (h:Oq ks xs ys=some v) (hk:K v):AggW ks xs ys K
inductive EmpW (xs:List (List D)) (K:Bool→Prop):Prop|mk (v:Bool) (h:v=xs.isEmpty) (hk:K v):EmpW xs K
inductive Emp0W (n:Nat) (K:Bool→Prop):Prop|mk (v:Bool) (h:v=(n==0)) (hk:K v):Emp0W n K
inductive NegW (k:IntKind) (n:Int) (K:Int→Prop):Prop|mk (v:Int) (h:v=k.wrap (0 - n)) (hk:K v):NegW k n K
inductive RowW (xs:List (List D)) (i:Nat) (K:List D→Prop):Prop|mk (cs:List D) (h:xs[i]? =some cs) (hk:K cs):RowW xs i K
inductive IdxW (xs:List (List D)) (i:Int) (K:List D→Prop):Prop|mk (cs:List D) (h0:0≤i) (h:xs[i.toNat]? =some cs) (hk:K cs):IdxW xs i K
inductive RIdxW (off len:Nat) (i:Int) (K:Nat→Prop):Prop|mk (p:Nat) (h0:0≤i) (h1:i<len) (h:p=off+i.toNat) (hk:K p):RIdxW off len i K
inductive SIdxW (s:ByteArray) (i:Int) (K:Int→Prop):Prop|mk (v:Int) (h0:0≤i) (h1:i.toNat<s.size) (h:v=((s[i.toNat]'h1).toNat:Int)) (hk:K v):SIdxW s i K
inductive SSubW (s:ByteArray) (lo hi:Option Int) (K:ByteArray→Prop):Prop
 |mk (v:ByteArray) (h0:0≤lo.getD 0) (h1:lo.getD 0≤hi.getD s.size) (h2:hi.getD s.size≤s.size) (h:v=s.extract (lo.getD 0).toNat (hi.getD s.size).toNat) (hk:K v):SSubW s lo hi K
inductive RSubW (xs:List (List D)) (lo hi:Option Int) (K:List (List D)→Prop):Prop
 |mk (v:List (List D)) (h0:0≤lo.getD 0) (h1:lo.getD 0≤hi.getD xs.length) (h2:hi.getD xs.length≤xs.length) (h:v=(xs.drop (lo.getD 0).toNat).take ((hi.getD xs.length).toNat - (lo.getD 0).toNat)) (hk:K v):RSubW xs lo hi K
inductive NSubW (off len:Nat) (lo hi:Option Int) (K:Nat→Nat→Prop):Prop
 |mk (o n:Nat) (h0:0≤lo.getD 0) (h1:lo.getD 0≤hi.getD len) (h2:hi.getD len≤len) (ho:o=off+(lo.getD 0).toNat) (hn:n=(hi.getD len).toNat - (lo.getD 0).toNat) (hk:K o n):NSubW off len lo hi K
inductive WrapW (k:IntKind) (n:Int) (K:Int→Prop):Prop|mk (v:Int) (h:v=k.wrap n) (hk:K v):WrapW k n K
inductive BytesW (xs:List (List D)) (K:ByteArray→Prop):Prop|mk (v:ByteArray) (ns:List Int) (h:Gw xs=some ns) (hv:v=D3 ns) (hk:K v):BytesW xs K
inductive RBytesW (xs:List (List D)) (off len:Nat) (K:ByteArray→Prop):Prop
 |mk (v:ByteArray) (ns:List Int) (h0:off+len≤xs.length) (h:Gw ((xs.drop off).take len)=some ns) (hv:v=D3 ns) (hk:K v):RBytesW xs off len K
inductive SLenW (s:ByteArray) (K:Int→Prop):Prop|mk (v:Int) (h:v=(s.size:Int)) (hk:K v):SLenW s K
inductive LenW (xs:List (List D)) (K:Int→Prop):Prop|mk (v:Int) (h:v=(xs.length:Int)) (hk:K v):LenW xs K
inductive NLenW (n:Nat) (K:Int→Prop):Prop|mk (v:Int) (h:v=(n:Int)) (hk:K v):NLenW n K
inductive MaxW (a b:Int) (K:Int→Prop):Prop|mk (v:Int) (h:v=if b>a then b else a) (hk:K v):MaxW a b K
inductive MinW (a b:Int) (K:Int→Prop):Prop|mk (v:Int) (h:v=if b<a then b else a) (hk:K v):MinW a b K
inductive RSetW (xs:List (List D)) (i j:Nat) (ds:List D) (K:List (List D)→Prop):Prop
 |mk (v:List (List D)) (y:List D) (hy:xs[i]? =some y) (hj:j+ds.length≤y.length) (h:v=xs.set i (Mi y j ds)) (hk:K v):RSetW xs i j ds K
inductive MakeW (n m:Int) (bytes:Nat) (z:List D) (K:Nat→List (List D)→Prop):Prop
 |mk (l:Nat) (v:List (List D)) (h0:0≤n) (h1:n≤m) (h2:bytes*m≤2^48) (h3:m<2^63) (hl:l=n.toNat) (h:v=List.replicate n.toNat z) (hk:K l v):MakeW n m bytes z K
inductive Src where
 |str (s:ByteArray)
 |row (xs:List (List D))
 |sub (xs:List (List D)) (off len:Nat)
def Src.val:Src→Option (List (List D))
 | .str s=>some (strRow s)
 | .row xs=>some xs
 | .sub xs off len=>if off+len≤xs.length then some ((xs.drop off).take len)else none
inductive AppW (off len:Nat) (xs:List (List D)) (s:Src) (bytes:Nat) (K:Nat→List (List D)→Prop):Prop
 |mk (n:Nat) (v ys:List (List D)) (hs:s.val=some ys) (h0:off=0) (h1:len=xs.length) (h2:(2*(xs.length+ys.length)+1024)*bytes≤2^48) (h3:xs.length+ys.length<2^62) (hn:n=xs.length+ys.length) (h:v=xs++ys) (hk:K n v):AppW off len xs s bytes K
def isCmp:BinOp→Bool
 | .eql| .neq| .lss| .leq| .gtr| .geq=>true
 |_=>false
def sBin(R:TyRow)(op:BinOp)(x y:AV)(K:AV→Prop):Prop:=
 match x,y with
 | .d (.sc (.int k a)),.d (.sc (.int k' b))=>(match isCmp op with
   |true=>CmpW op k k' a b fun v=>K (.d (.sc (.bool v)))
   |false=>ArW op k k' a b fun v=>K (.d (.sc (.int k v))))
 | .d (.sc (.string a)),.d (.sc (.string b))=>(match op with
   | .add=>CatW a b fun s=>K (.d (.sc (.string s)))
   |_=>SCmpW op a b fun v=>K (.d (.sc (.bool v))))
 | .d (.sc (.bool a)),.d (.sc (.bool b))=>(match Zi R.sk with
   |true=>BCmpW op a b fun v=>K (.d (.sc (.bool v)))
   |false=>False)
 | .agg xs,.agg ys=>(match op,R.eq with
   | .eql,some ks=>AggW ks xs ys fun v=>K (.d (.sc (.bool v)))
   | .neq,some ks=>AggW ks xs ys fun v=>br v (fun _=>K (.d (.sc (.bool false)))) (fun _=>K (.d (.sc (.bool true))))
   |_,_=>False)
 |_,_=>False
def Xkn(rt:Nat→Option Root)(R:TyRow)(op:BinOp)(x y:AV)(yo:Operand)(K:AV→Prop):Prop:=
 match O5 yo with
 |true=>(match op,R.sk,x with
  | .eql,.sl _,.d (.row _ xs)=>EmpW xs fun v=>K (.anyb v)
  | .eql,.sl _,.ref r _ len=>(match K5 rt r with|true=>Emp0W len fun v=>K (.anyb v)|false=>False)
  |_,_,_=>False)
 |false=>sBin R op x y K
def sUn(op:UnOp)(x:AV)(K:AV→Prop):Prop:=
 match x with
 | .d (.sc (.bool b))=>(match op with| .not=>br b (fun _=>K (.d (.sc (.bool false)))) (fun _=>K (.d (.sc (.bool true))))|_=>False)
 | .d (.sc (.int k n))=>(match op with| .neg=>NegW k n fun v=>K (.d (.sc (.int k v)))|_=>False)
 |_=>False
def XlZ(x:Option AV)(K:AV→Prop):Prop:=match x with|some v=>K v|none=>False
def XkE(rt:Nat→Option Root)(R:TyRow)(x:AV)(K:AV→Prop):Prop:=
 match R.agg,R.sz with
 |some g,some n=>(match x with
  | .ptr r i j=>(match rt r with
    |some (.row _ _ xs)=>RowW xs i fun cs=>XlZ (K7 (cs.map AV.d) j n g) K
    |some (.box ty l)=>(match i with|0=>XlZ (K7 l j n g) K|_=>False)
    |_=>False)
  | .rptr cs=>XlZ (K7 (cs.map AV.d) 0 n g) K
  |_=>False)
 |_,_=>False
def Sl(rt:Nat→Option Root)(R:TyRow)(x:AV)(i:Int)(K:AV→Prop):Prop:=
 match R.el with
 |none=>False
 |some (esz,_)=>(match x with
  | .ref r off len=>(match rt r with
    |some (.row sz _ _)=>(match Nat.beq esz sz with|true=>RIdxW off len i fun p=>K (.ptr r p 0)|false=>False)
    |_=>False)
  | .d (.row sz xs)=>(match Nat.beq esz sz with|true=>IdxW xs i fun cs=>K (.rptr cs)|false=>False)
  |_=>False)
def Xcq(R:TyRow)(x:AV)(i:Int)(K:AV→Prop):Prop:=
 match x with
 | .d (.sc (.string s))=>(match G0 R.sk with|true=>SIdxW s i fun v=>K (.d (.sc (.int .u8 v)))|false=>False)
 |_=>False
def Xhh(rt:Nat→Option Root)(R:TyRow)(x:AV)(lo hi:Option Int)(K:AV→Prop):Prop:=
 match x with
 | .d (.sc (.string s))=>(match G0 R.sk with|true=>SSubW s lo hi fun v=>K (.d (.sc (.string v)))|false=>False)
 | .d (.row sz xs)=>(match R.el with
   |some (esz,_)=>(match Nat.beq esz sz with|true=>RSubW xs lo hi fun v=>K (.d (.row sz v))|false=>False)
   |none=>False)
 | .ref r off len=>(match rt r,R.el with
   |some (.row sz _ _),some (esz,_)=>(match Nat.beq esz sz with|true=>NSubW off len lo hi fun o n=>K (.ref r o n)|false=>False)
   |_,_=>False)
 |_=>False
def Xla(rt:Nat→Option Root)(S T:TyRow)(x:AV)(K:AV→Prop):Prop:=
 match T.sk,x with
 | .int k,.d (.sc (.int _ n))=>(match S.sk with| .int _=>WrapW k n fun v=>K (.d (.sc (.int k v)))|_=>False)
 | .str,.d (.sc (.string s))=>(match G0 S.sk with|true=>K (.d (.sc (.string s)))|false=>False)
 | .str,.d (.row sz xs)=>(match S.bsl,sz with|true,1=>BytesW xs fun v=>K (.d (.sc (.string v)))|_,_=>False)
 | .str,.ref r off len=>(match rt r with
   |some (.row sz _ xs)=>(match S.bsl,sz with|true,1=>RBytesW xs off len fun v=>K (.d (.sc (.string v)))|_,_=>False)
   |_=>False)
 |_,_=>False
def sLen(rt:Nat→Option Root)(R:TyRow)(x:AV)(K:AV→Prop):Prop:=
 match x with
 | .d (.sc (.string s))=>(match G0 R.sk with|true=>SLenW s fun v=>K (.d (.sc (.int .i64 v)))|false=>False)
 | .d (.row _ xs)=>(match R.sk with| .sl _=>LenW xs fun v=>K (.d (.sc (.int .i64 v)))|_=>False)
 | .ref r _ len=>(match R.sk,K5 rt r with| .sl _,true=>NLenW len fun v=>K (.d (.sc (.int .i64 v)))|_,_=>False)
 |_=>False
def sSrc(rt:Nat→Option Root):AV→Option (Nat×Src)
 | .d (.sc (.string s))=>some (1,.str s)
 | .d (.row sz xs)=>some (sz,.row xs)
 | .ref r off len=>(match rt r with
   |some (.row sz _ xs)=>some (sz,.sub xs off len)
   |_=>none)
 |_=>none
def XcN(rt:Nat→Option Root)(nb:Nat)(R X:TyRow)(s x:AV)(K:Out→Prop):Prop:=
 match s,R.el,R.ez,(match X.sk with| .sl _=>true| .str=>true|_=>false)with
 | .ref r off len,some (n,bytes),some _,true=>(match rt r,sSrc rt x with
   |some (.row sz false xs),some (sz',src)=>(match Nat.beq sz' sz&&Nat.beq n sz with
    |true=>AppW off len xs src bytes fun n v=>K ⟨.ref nb 0 n,[.row sz false v],[(r,.dead)]⟩
    |false=>False)
   |_,_=>False)
 |_,_,_,_=>False
def Xh2(rt:Nat→Option Root)(n:Nat)(p x:AV)(K:Nat×Root→Prop):Prop:=
 match p,x.leaves with
 | .ptr r i j,some ys=>(match rt r with
   |some (.box ty l)=>(match i,Nat.beq ys.length n&&Nat.ble (j+ys.length) l.length with
    |0,true=>K (r,.box ty (Mi l j ys))
    |_,_=>False)
   |some (.row sz false xs)=>(match Xcp rt ys with
    |some ds=>(match Nat.beq ds.length n with
     |true=>RSetW xs i j ds fun v=>K (r,.row sz false v)
     |false=>False)
    |none=>False)
   |_=>False)
 |_,_=>False
def Xiq(tab:List (Nat×TyRow))(sl:Nat→AV):List Operand→List TypeId→List AV
 |[],_=>[]
 |x::xs,[]=>Bw sl x::Xiq tab sl xs []
 |x::xs,t::ts=>(match O5 x with|true=>.d (.row (XiP (Cu tab t)) [])|false=>Bw sl x)::Xiq tab sl xs ts
def Xlf(tab:List (Nat×TyRow))(nb:Nat)(sl:Nat→AV)(rt:Nat→Option Root)(c:Call)(k:Out→Prop):Prop:=
 match c.callee,c.args.toList,c.argTypes.toList with
 | .builtin .len,[x],[t]=>(match Cu tab t with|some R=>sLen rt R (Bw sl x) fun v=>k ⟨v,[],[]⟩|none=>False)
 | .builtin .append,[s,x],[t,xt]=>(match Cu tab t,Cu tab xt with
   |some R,some X=>XcN rt nb R X (Bw sl s) (Bw sl x) k
   |_,_=>False)
 | .builtin .max,[x,y],_=>(match Bw sl x,Bw sl y with| .d (.sc (.int k' a)),.d (.sc (.int _ b))=>MaxW a b fun v=>k ⟨.d (.sc (.int k' v)),[],[]⟩|_,_=>False)
 | .builtin .min,[x,y],_=>(match Bw sl x,Bw sl y with| .d (.sc (.int k' a)),.d (.sc (.int _ b))=>MinW a b fun v=>k ⟨.d (.sc (.int k' v)),[],[]⟩|_,_=>False)
 |_,_,_=>False
def sv(tab:List (Nat×TyRow))(nb:Nat)(sl:Nat→AV)(rt:Nat→Option Root)(o:Oper)(k:Out→Prop):Prop:=
 match o.op with
 | .load t x=>(match Cu tab t with|some R=>XkE rt R (Bw sl x) fun v=>k ⟨v,[],[]⟩|none=>False)
 | .store t p x=>(match Cu tab t with
   |some R=>(match R.sz,opd nb (XiP (some R)) sl x with
    |some n,(av,new)=>Xh2 rt n (Bw sl p) av fun q=>(match Nat.blt q.1 nb with|true=>k ⟨.junk,new,[q]⟩|false=>False)
    |_,_=>False)
   |none=>False)
 | .binOp op t x y _=>(match Cu tab t with|some R=>Xkn rt R op (Bw sl x) (Bw sl y) y fun v=>k ⟨v,[],[]⟩|none=>False)
 | .unOp op _ x=>sUn op (Bw sl x) fun v=>k ⟨v,[],[]⟩
 | .convert s d x=>(match Cu tab s,Cu tab d with|some S,some T=>Xla rt S T (Bw sl x) fun v=>k ⟨v,[],[]⟩|_,_=>False)
 | .indexAddr t x i=>(match Cu tab t,Bw sl i with|some R,.d (.sc (.int _ n))=>Sl rt R (Bw sl x) n fun v=>k ⟨v,[],[]⟩|_,_=>False)
 | .index t x i=>(match Cu tab t,Bw sl i with|some R,.d (.sc (.int _ n))=>Xcq R (Bw sl x) n fun v=>k ⟨v,[],[]⟩|_,_=>False)
 | .slice t x lo hi none=>(match Cu tab t,G2 sl lo,G2 sl hi with|some R,some l,some h=>Xhh rt R (Bw sl x) l h fun v=>k ⟨v,[],[]⟩|_,_,_=>False)
 | .makeSlice t n m=>(match Cu tab t,Bw sl n,Bw sl m with
   |some R,.d (.sc (.int _ n)),.d (.sc (.int _ m))=>(match R.ez with|some z=>MakeW n m z.2.2 z.1 fun l v=>k ⟨.ref nb 0 l,[.row z.2.1 false v],[]⟩|none=>False)
   |_,_,_=>False)
 | .call c=>Xlf tab nb sl rt c k
 | .slice _ _ _ _ (some _)=>False
 |_=>(match vev std tab nb sl rt o with|some (out,ps)=>Xii ps (k out)|none=>False)
open Go
section
variable {P:Program} {rt:Nat→Option Root} {K:AV→Prop} {x y:AV} {t:TypeId}
theorem Xk8{op:BinOp}(h:sBin (Em P t) op x y K):∃v,Q7 P op t x y=some v∧K v:=by
 unfold sBin at h
 split at h
 ·rename_i k a k' b
  split at h
  ·obtain⟨v,h1,h2⟩:=h
   exact⟨_,by show(Jw op (Hd P t) (.int k a) (.int k' b)).map _=_;rw[show Jw op (Hd P t) (.int k a) (.int k' b)=some (.bool v)from h1];rfl,h2⟩
  ·obtain⟨v,h1,h2⟩:=h
   exact⟨_,by show(Jw op (Hd P t) (.int k a) (.int k' b)).map _=_;rw[show Jw op (Hd P t) (.int k a) (.int k' b)=some (.int k v)from h1];rfl,h2⟩
 ·rename_i a b
  split at h
  ·obtain⟨v,h1,h2⟩:=h
   exact⟨_,by show(Jw .add (Hd P t) (.string a) (.string b)).map _=_;rw[show Jw .add (Hd P t) (.string a) (.string b)=some (.string v)from h1];rfl,h2⟩
  ·obtain⟨v,h1,h2⟩:=h
   exact⟨_,by show(Jw op (Hd P t) (.string a) (.string b)).map _=_;rw[show Jw op (Hd P t) (.string a) (.string b)=some (.bool v)from h1];rfl,h2⟩
 ·rename_i a b
  split at h
  ·rename_i hb
   obtain⟨v,h1,h2⟩:=h
   have e:Hd P t=true:=Xcj hb
   exact⟨_,by show(Jw op (Hd P t) (.bool a) (.bool b)).map _=_;rw[e,h1];rfl,h2⟩
  ·exact h.elim
 ·rename_i xs ys
  split at h
  ·rename_i ks hks
   obtain⟨v,h1,h2⟩:=h
   have e:eqT P t=some ks:=hks
   exact⟨_,by show(eqT P t).bind _=_;rw[e,Option.bind_some,h1];rfl,h2⟩
  ·rename_i ks hks
   obtain⟨v,h1,h2⟩:=h
   have e:eqT P t=some ks:=hks
   refine⟨.d (.sc (.bool !v)),by show(eqT P t).bind _=_;rw[e,Option.bind_some,h1];rfl,?_⟩
   cases v<;>exact h2
  ·exact h.elim
 ·exact h.elim
theorem Xjv{op:BinOp}{yo:Operand}(h:Xkn rt (Em P t) op x y yo K):∃v,Mt P rt op t x y yo=some v∧K v:=by
 unfold Xkn at h
 unfold Mt
 split at h
 ·rename_i hy
  simp only[hy]
  split at h
  ·rename_i n sz xs hs
   obtain⟨v,h1,h2⟩:=h
   rw[if_pos (Lb hs)]
   subst h1
   exact⟨_,rfl,h2⟩
  ·rename_i n r off len hs
   split at h
   ·rename_i ha
    obtain⟨v,h1,h2⟩:=h
    rw[if_pos (Lb hs)]
    subst h1
    exact⟨_,by simp only[Lk,ha,if_true,Option.map_some],h2⟩
   ·exact h.elim
  ·exact h.elim
 ·rename_i hy
  simp only[hy]
  exact Xk8 h
theorem XlU{op:UnOp}(h:sUn op x K):∃v,XlH op x=some v∧K v:=by
 unfold sUn at h
 split at h
 ·rename_i b
  split at h
  ·refine⟨.d (.sc (.bool !b)),rfl,?_⟩
   cases b<;>exact h
  ·exact h.elim
 ·rename_i k n
  split at h
  ·obtain⟨v,h1,h2⟩:=h
   subst h1
   exact⟨_,rfl,h2⟩
  ·exact h.elim
 ·exact h.elim
theorem Vx{a:Option AV}(h:XlZ a K):∃v,a=some v∧K v:=by
 unfold XlZ at h
 split at h
 ·exact⟨_,rfl,h⟩
 ·exact h.elim
theorem Xje(h:XkE rt (Em P t) x K):∃g n v,Xam P t=some g∧szT P t=some n∧Ep rt n g x=some v∧K v:=by
 unfold XkE at h
 split at h
 ·rename_i g n hg hn
  refine⟨g,n,?_⟩
  have hg':Xam P t=some g:=hg
  have hn':szT P t=some n:=hn
  split at h
  ·rename_i r i j
   split at h
   ·rename_i sz fz xs hr
    obtain⟨cs,h1,h2⟩:=h
    obtain⟨v,h3,h4⟩:=Vx h2
    exact⟨v,hg',hn',by simp only[Ep,hr,h1,Option.bind_some,h3],h4⟩
   ·rename_i l hr
    split at h
    ·obtain⟨v,h3,h4⟩:=Vx h
     exact⟨v,hg',hn',by simp only[Ep,hr,if_true,h3],h4⟩
    ·exact h.elim
   ·exact h.elim
  ·rename_i cs
   obtain⟨v,h3,h4⟩:=Vx h
   exact⟨v,hg',hn',h3,h4⟩
  ·exact h.elim
 ·exact h.elim
theorem Xef{t:TypeId}{esz b sz:Nat}(h:(Em P t).el=some (esz,b))(e:Nat.beq esz sz=true):(elT P t).map (·.1)=some sz:=by
 have:elT P t=some (esz,b):=h
 rw[this,Option.map_some,Nat.eq_of_beq_eq_true e]
theorem Yk{i:Int}(h:Sl rt (Em P t) x i K):∃v,B2 rt (elT P t) x i=some v∧K v:=by
 unfold Sl at h
 split at h
 ·exact h.elim
 ·rename_i esz b hel
  split at h
  ·rename_i r off len
   split at h
   ·rename_i sz fz xs hr
    split at h
    ·rename_i he
     obtain⟨p,h0,h1,rfl,hk⟩:=h
     refine⟨_,?_,hk⟩
     simp only[B2,hr]
     rw[if_pos ⟨Xef hel he,h0,h1⟩]
    ·exact h.elim
   ·exact h.elim
  ·rename_i sz xs
   split at h
   ·rename_i he
    obtain⟨cs,h0,h1,hk⟩:=h
    refine⟨_,?_,hk⟩
    simp only[B2]
    rw[if_pos ⟨Xef hel he,h0⟩,h1]
    rfl
   ·exact h.elim
  ·exact h.elim
theorem Xfw{i:Int}(h:Xcq (Em P t) x i K):∃v,Ji (Hj P t) x i=some v∧K v:=by
 unfold Xcq at h
 split at h
 ·rename_i s
  split at h
  ·rename_i hs
   obtain⟨v,h0,h1,rfl,hk⟩:=h
   refine⟨_,?_,hk⟩
   simp only[Ji]
   rw[dif_pos ⟨K1 hs,h0,h1⟩]
  ·exact h.elim
 ·exact h.elim
theorem Xix{lo hi:Option Int}(h:Xhh rt (Em P t) x lo hi K):∃v,D6 rt (elT P t) (Hj P t) x lo hi=some v∧K v:=by
 unfold Xhh at h
 split at h
 ·rename_i s
  split at h
  ·rename_i hs
   obtain⟨v,h0,h1,h2,rfl,hk⟩:=h
   refine⟨_,?_,hk⟩
   simp only[D6]
   rw[if_pos ⟨K1 hs,h0,h1,h2⟩]
  ·exact h.elim
 ·rename_i sz xs
  split at h
  ·rename_i esz b hel
   split at h
   ·rename_i he
    obtain⟨v,h0,h1,h2,rfl,hk⟩:=h
    refine⟨_,?_,hk⟩
    simp only[D6]
    rw[if_pos ⟨Xef hel he,h0,h1,h2⟩]
   ·exact h.elim
  ·exact h.elim
 ·rename_i r off len
  split at h
  ·rename_i sz fz xs esz b hr hel
   split at h
   ·rename_i he
    obtain⟨o,n,h0,h1,h2,rfl,rfl,hk⟩:=h
    refine⟨_,?_,hk⟩
    simp only[D6,hr]
    rw[if_pos ⟨Xef hel he,h0,h1,h2⟩]
   ·exact h.elim
  ·exact h.elim
 ·exact h.elim
theorem Xd4{k:IntKind}(h:Tk P t= .int k):P.underlying t=some (.int k):=by
 unfold Tk at h
 split at h<;>first|(cases h;assumption)|cases h
theorem Qo(h:Tk P t= .str):P.underlying t=some .string:=by
 unfold Tk at h
 split at h<;>first|assumption|cases h
theorem Xhc(h:G0 (Tk P t)=true):P.underlying t=some .string:=by
 unfold G0 at h
 split at h
 ·rename_i e;exact Qo e
 ·cases h
theorem Xih(h:Cr P t=true):∃d,P.underlying t=some d:=by
 unfold Cr at h
 split at h
 ·exact⟨_,by assumption⟩
 ·cases h
theorem Xi2{nb:Nat}{s d:TypeId}(h:Xla rt (Em P s) (Em P d) x K):∃src dst v,P.underlying s=some src∧P.underlying d=some dst∧Ms rt nb src dst (Cr P s) x=some (v,[])∧K v:=by
 unfold Xla at h
 split at h
 ·rename_i k k0 n hk
  split at h
  ·rename_i k1 hs
   obtain⟨v,rfl,hk'⟩:=h
   exact⟨_,_,_,Xd4 hs,Xd4 hk,rfl,hk'⟩
  ·exact h.elim
 ·rename_i s' hd
  split at h
  ·rename_i hs
   exact⟨_,_,_,Xhc hs,Qo hd,rfl,h⟩
  ·exact h.elim
 ·rename_i sz xs hd
  split at h
  ·rename_i hb
   obtain⟨v,ns,h1,rfl,hk⟩:=h
   have hb':Cr P s=true:=hb
   obtain⟨src,hsrc⟩:=Xih hb'
   refine⟨src,_,_,hsrc,Qo hd,?_,hk⟩
   simp only[Ms,hb',if_true,AV.view,Option.bind_some,h1,Option.map_some]
  ·exact h.elim
 ·rename_i r off len hd
  split at h
  ·rename_i sz fz xs hr
   split at h
   ·rename_i hb
    obtain⟨v,ns,h0,h1,rfl,hk⟩:=h
    have hb':Cr P s=true:=hb
    obtain⟨src,hsrc⟩:=Xih hb'
    refine⟨src,_,_,hsrc,Qo hd,?_,hk⟩
    simp only[Ms,hb',if_true,AV.view,hr,h0,Option.bind_some,h1,Option.map_some]
   ·exact h.elim
  ·exact h.elim
 ·exact h.elim
theorem Xkr(h:sLen rt (Em P t) x K):∃v,Qs P rt t x=some v∧K v:=by
 unfold sLen at h
 split at h
 ·rename_i s
  split at h
  ·rename_i hs
   obtain⟨v,rfl,hk⟩:=h
   exact⟨_,by simp only[Qs];rw[if_pos (K1 hs)],hk⟩
  ·exact h.elim
 ·rename_i sz xs
  split at h
  ·rename_i n hs
   obtain⟨v,rfl,hk⟩:=h
   exact⟨_,by simp only[Qs];rw[if_pos (Lb hs)],hk⟩
  ·exact h.elim
 ·rename_i r off len
  split at h
  ·rename_i n hs ha
   obtain⟨v,rfl,hk⟩:=h
   exact⟨_,by simp only[Qs];rw[if_pos (by rw[Lb hs,ha];rfl)],hk⟩
  ·exact h.elim
 ·exact h.elim
theorem XkG{sz:Nat}{src:Src}{ys:List (List D)}(h:sSrc rt x=some (sz,src))(hy:src.val=some ys):x.src rt=some (sz,ys):=by
 unfold sSrc at h
 split at h
 ·cases h;cases hy;rfl
 ·cases h;cases hy;rfl
 ·rename_i r off len
  split at h
  ·rename_i s fz xs hr
   cases h
   simp only[Src.val]at hy
   show AV.view rt (.ref r off len)=_
   simp only[AV.view,hr]
   split at hy
   ·rename_i hle
    cases hy
    rw[if_pos hle]
   ·cases hy
  ·cases h
 ·cases h
theorem Xge{nb:Nat}{xt:TypeId}{s:AV}{k:Out→Prop}(h:XcN rt nb (Em P t) (Em P xt) s x k):
  ∃out,(if(ezT P t).isSome&&(Fr P xt||Hj P xt)then(Db rt nb (elT P t) s x).map fun(av,new,r)=>(⟨av,new,[(r,.dead)]⟩:Out)else none)=some out∧k out:=by
 unfold XcN at h
 split at h
 ·rename_i r off len n bytes z hel hez hx
  split at h
  ·rename_i sz xs sz' src hr hsrc
   split at h
   ·rename_i he
    simp only[Bool.and_eq_true]at he
    obtain⟨m,v,ys,hs,rfl,rfl,h2,h3,rfl,rfl,hk⟩:=h
    have e1:=Nat.eq_of_beq_eq_true he.1
    have e2:=Nat.eq_of_beq_eq_true he.2
    subst e1 e2
    refine⟨_,?_,hk⟩
    have hel':elT P t=some (n,bytes):=hel
    have hez':ezT P t=some z:=hez
    have hsl:(Fr P xt||Hj P xt)=true:=by
     have hx':(match Tk P xt with| .sl _=>true| .str=>true|_=>false)=true:=hx
     split at hx'
     ·rename_i m hm;rw[Lb hm];rfl
     ·rename_i hm;rw[show Hj P xt=true from K1 (by rw[hm];rfl)];simp
     ·cases hx'
    rw[hez',hsl]
    simp only[Option.isSome_some,Bool.and_self,if_true,Db,hr,XkG hsrc hs,Option.bind_some,hel']
    rw[if_pos (by exact⟨trivial,trivial,trivial,trivial,h2,h3⟩)]
    rfl
   ·exact h.elim
  ·exact h.elim
 ·exact h.elim
theorem XgN{n:Nat}{p:AV}{k:Nat×Root→Prop}(h:Xh2 rt n p x k):∃q,Fp rt n p x=some q∧k q:=by
 unfold Xh2 at h
 split at h
 ·rename_i r i j ys hys
  split at h
  ·rename_i l hr
   split at h
   ·rename_i hb
    simp only[Bool.and_eq_true]at hb
    refine⟨_,?_,h⟩
    simp only[Fp,hr,hys,Option.bind_some]
    rw[if_pos (by exact⟨trivial,Nat.eq_of_beq_eq_true hb.1,Nat.le_of_ble_eq_true hb.2⟩)]
   ·exact h.elim
  ·rename_i sz xs hr
   split at h
   ·rename_i ds hds
    split at h
    ·rename_i hn
     obtain⟨v,y,hy,hj,rfl,hk⟩:=h
     refine⟨_,?_,hk⟩
     simp only[Fp,hr,hys,Option.bind_some,hds,hy]
     rw[if_pos ⟨Nat.eq_of_beq_eq_true hn,hj⟩]
    ·exact h.elim
   ·exact h.elim
  ·exact h.elim
 ·exact h.elim
theorem XiQ{tab:List (Nat×TyRow)}(hT:Bl P tab){nb:Nat}{sl:Nat→AV}{c:Call}{k:Out→Prop}(h:Xlf tab nb sl rt c k):∃out,Nl P nb sl rt c=some out∧k out:=by
 unfold Xlf at h
 split at h
 ·rename_i x t hc ha ht
  split at h
  ·rename_i R hR
   have e:=hT t R hR
   subst e
   obtain⟨v,h1,h2⟩:=Xkr h
   exact⟨_,by simp only[Nl,hc,ha,ht,h1,Option.map_some],h2⟩
  ·exact h.elim
 ·rename_i s x t xt hc ha ht
  split at h
  ·rename_i R X hR hX
   have e:=hT t R hR
   subst e
   have e:=hT xt X hX
   subst e
   obtain⟨v,h1,h2⟩:=Xge h
   exact⟨_,by simp only[Nl,hc,ha,ht];exact h1,h2⟩
  ·exact h.elim
 ·rename_i x y hc ha
  split at h
  ·rename_i k' a k2 b hx hy
   obtain⟨v,rfl,h2⟩:=h
   refine⟨_,?_,h2⟩
   simp only[Nl]
   rw[hc,ha]
   simp only[hx,hy,Km,if_true,Option.map_some]
  ·exact h.elim
 ·rename_i x y hc ha
  split at h
  ·rename_i k' a k2 b hx hy
   obtain⟨v,rfl,h2⟩:=h
   refine⟨_,?_,h2⟩
   simp only[Nl]
   rw[hc,ha]
   simp only[hx,hy,Km,Bool.false_eq_true,if_false,Option.map_some]
  ·exact h.elim
 ·exact h.elim
end
theorem sv_ok{P:Program}{tab:List (Nat×TyRow)}(hT:Bl P tab){nb:Nat}{sl:Nat→AV}{rt:Nat→Option Root}{o:Oper}{k:Out→Prop}(h:sv tab nb sl rt o k):∃out,ev P nb sl rt o=some out∧k out:=by
 unfold sv at h
 split at h
 ·rename_i t x ho
  split at h
  ·rename_i R hR
   have e:=hT t R hR
   subst e
   obtain⟨g,n,v,h1,h2,h3,h4⟩:=Xje h
   exact⟨_,by simp only[ev,ho,h1,h2,h3,Option.bind_some,Option.map_some],h4⟩
  ·exact h.elim
 ·rename_i t p x ho
  split at h
  ·rename_i R hR
   have e:=hT t R hR
   subst e
   split at h
   ·rename_i n av new hn hopd
    have hn':szT P t=some n:=hn
    have hopd':opd nb (Ry P t) sl x=(av,new):=hopd
    obtain⟨q,h1,h2⟩:=XgN h
    split at h2
    ·rename_i hlt
     refine⟨_,?_,h2⟩
     simp only[ev,ho,hn',Option.bind_some,hopd',h1]
     rw[if_pos (by simpa[Nat.blt_eq]using hlt)]
    ·exact h2.elim
   ·exact h.elim
  ·exact h.elim
 ·rename_i op t x y yt ho
  split at h
  ·rename_i R hR
   have e:=hT t R hR
   subst e
   obtain⟨v,h1,h2⟩:=Xjv h
   exact⟨_,by simp only[ev,ho,h1,Option.map_some],h2⟩
  ·exact h.elim
 ·rename_i op t x ho
  obtain⟨v,h1,h2⟩:=XlU h
  exact⟨_,by simp only[ev,ho,h1,Option.map_some],h2⟩
 ·rename_i s d x ho
  split at h
  ·rename_i S T hS hT'
   have e:=hT s S hS
   subst e
   have e:=hT d T hT'
   subst e
   obtain⟨src,dst,v,h1,h2,h3,h4⟩:=Xi2 (nb:=nb) h
   exact⟨_,by simp only[ev,ho,h1,h2,h3,Option.bind_some,Option.map_some],h4⟩
  ·exact h.elim
 ·rename_i t x i ho
  split at h
  ·rename_i R k' n hR hi
   have e:=hT t R hR
   subst e
   obtain⟨v,h1,h2⟩:=Yk h
   exact⟨_,by simp only[ev,ho,K0 hi,h1,Option.bind_some,Option.map_some],h2⟩
  ·exact h.elim
 ·rename_i t x i ho
  split at h
  ·rename_i R k' n hR hi
   have e:=hT t R hR
   subst e
   obtain⟨v,h1,h2⟩:=Xfw h
   exact⟨_,by simp only[ev,ho,K0 hi,h1,Option.bind_some,Option.map_some],h2⟩
  ·exact h.elim
 ·rename_i t x lo hi ho
  split at h
  ·rename_i R l m hR hl hm
   have e:=hT t R hR
   subst e
   obtain⟨v,h1,h2⟩:=Xix h
   exact⟨_,by simp only[ev,ho,hl,hm,h1,Option.bind_some,Option.map_some],h2⟩
  ·exact h.elim
 ·rename_i t n m ho
  split at h
  ·rename_i R k1 n k2 m hR hn hm
   have e:=hT t R hR
   subst e
   split at h
   ·rename_i z hz
    have hz':ezT P t=some z:=hz
    obtain⟨l,v,h0,h1,h2,h3,rfl,rfl,hk⟩:=h
    refine⟨_,?_,hk⟩
    simp only[ev,ho,hz',K0 hn,K0 hm,Option.bind_some,Xck]
    rw[if_pos ⟨h0,h1,h2,h3⟩]
    rfl
   ·exact h.elim
  ·exact h.elim
 ·rename_i c ho
  obtain⟨out,h1,h2⟩:=XiQ hT h
  exact⟨out,by simp only[ev,ho,h1],h2⟩
 ·exact h.elim
 ·split at h
  ·rename_i out ps hv
   obtain⟨h1,h2⟩:=Xbq h
   exact⟨out,Xif hT hv h1,h2⟩
  ·exact h.elim
end
section
open Go
theorem XbK{P:Program}{c:Ctx}{E:Env}(hM:Mem c E){nb:Nat}{s d e:TypeId}{u:TypeDesc}{str:ByteArray}(hs:P.underlying s=some u)(hd:P.underlying d=some (.slice e))(he:P.underlying e=some (.int .u8))
  (hF:Fresh c E nb [.row 1 false (strRow str)]):Yields1 c P E nb (.ref nb 0 str.size,[.row 1 false (strRow str)]) (convert s d (.string str)):=by
 have hnew:=Lib.bytesWorld_at_new E.w e str
 have g:Grow E.w (Lib.bytesWorld E.w e str) (.cells (Lib.bytesCells E.w e str) e ((Lib.bytesCells E.w e str).size,(Lib.bytesCells E.w e str).size+1)):=by
  refine⟨?_,rfl,rfl,rfl⟩
  refine Array.ext_getElem? ?_
  intro j
  rw[Array.getElem?_push]
  split
  ·rename_i h;subst h;exact hnew
  ·rename_i h
   by_cases hj:j<E.w.heap.size
   ·exact Lib.bytesWorld_at_old E.w e str j hj
   ·rw[Array.getElem?_eq_none (by rw[Lib.bytesWorld_size];omega),Array.getElem?_eq_none (by omega)]
 have hlen:(strRow str).length=str.size:=by unfold strRow;rw[List.length_map];exact Array.length_toList
 have hsz:str.size≤(Lib.bytesCells E.w e str).size:=by
  unfold Lib.bytesCells
  rw[Array.size_append,Array.size_map]
  show str.data.size≤_
  omega
 have hcap:grownCap E.w str.size 0 e≤(Lib.bytesCells E.w e str).size:=by
  unfold Lib.bytesCells
  rw[Array.size_append,Array.size_map,Array.size_replicate]
  show _≤str.data.size+_
  have:str.size=str.data.size:=rfl
  omega
 have hcap0:str.size≤grownCap E.w str.size 0 e:=grownCap_ge _ _ _ _
 obtain⟨q,hrel⟩:=XhZ hM (r:=nb) (sz:=1) (xs:=strRow str) (t:=e) (by simpa using hF.rt 0 _ rfl) (by simpa using hF.np 0 (by simp)) hF.m g ⟨fun o ho hh=>by omega,.inl rfl⟩
  (by intro i x hx;obtain⟨b,_,rfl⟩:=List.mem_map.1 (List.mem_of_getElem? hx);rfl)
  (by rw[hlen];omega)
  (by
   intro i x j y hx hy
   unfold strRow at hx
   rw[List.getElem?_map]at hx
   obtain⟨b,hb,rfl⟩:=Option.map_eq_some_iff.1 hx
   cases j with
   |succ j=>simp at hy
   |zero=>
    simp at hy
    subst hy
    refine⟨.int .u8 b.toNat,?_,.sc _ rfl⟩
    have hi:i<str.data.size:=by have:=(List.getElem?_eq_some_iff.1 hb).1;simpa using this
    rw[show i*1+0=i by omega]
    unfold Lib.bytesCells
    rw[Array.getElem?_append_left (by simpa using hi),Array.getElem?_map]
    rw[Array.getElem?_toList]at hb
    rw[hb]
    rfl)
 refine⟨_,_,Lib.run_convert_string_bytes E.w s d e str hs hd he,q,hrel _ _ hcap0 (by omega)⟩
theorem OpSem.strB{P:Program}{ops:Array Oper}{i nb:Nat}{o:Oper}{sl:Nat→AV}{rt:Nat→Option Root}{s d e:TypeId}{u:TypeDesc}{x:Operand}{str:ByteArray}(ho:ops[i]? =some o)(hg:Ey ops o sl=some true)(hop:o.op= .convert s d x)
  (hx:Bw sl x= .d (.sc (.string str)))(hs:P.underlying s=some u)(hd:P.underlying d=some (.slice e))(he:P.underlying e=some (.int .u8)):OpSem P ops i [] sl rt nb ⟨.ref nb 0 str.size,[.row 1 false (strRow str)],[]⟩:=by
 refine⟨o,ho,?_⟩
 intro c E a hM hl hT hnb hF K Q k
 unfold wpOp
 rw[ho]
 simp only[B8 hl hg,if_true]
 obtain⟨hsl,hop0⟩:=F7 hl
 have hv:=A4 hsl x
 rw[←hop0 x (by rw[hop];simp[Op.operands]),hx]at hv
 have hval:=R4 hv
 refine .inl (Done.wp ?_ k)
 refine Done.of (r:=(.ref nb 0 str.size,[.row 1 false (strRow str)])) (s:=convert s d (.string str)) (XbK hM hs hd he hF) ?_
 simp[execOp,hop,hval]
theorem Mem.recast{c:Ctx}{E:Env}(hM:Mem c E){rt1:Nat→Option Root}(h1:∀x R,E.rt x=some R→∃R',rt1 x=some R'∧R'.kind=R.kind)(h2:∀x R',rt1 x=some R'→∃R,E.rt x=some R∧R'.kind=R.kind)
  (h3:∀x R',E.pres x→rt1 x=some R'→RootRel E x R'):Mem c {E with rt:=rt1}∧Step E {E with rt:=rt1}∧Step {E with rt:=rt1} E:=by
 have st:Step E {E with rt:=rt1}:=⟨fun x R h=>by obtain⟨R',a,b⟩:=h1 x R h;exact⟨R',a,.inr b⟩,fun _ h=>h,fun _ _=>rfl,fun _ h=>h,fun _ _=>rfl,fun _ _ h=>h⟩
 have st':Step {E with rt:=rt1} E:=⟨fun x R h=>by obtain⟨R',a,b⟩:=h2 x R h;exact⟨R',a,.inr b.symm⟩,fun _ h=>h,fun _ _=>rfl,fun _ h=>h,fun _ _=>rfl,fun _ _ h=>h⟩
 have dd:∀{R R':Root},R'.kind=R.kind→R'≠.dead→R≠.dead:=by
  intro R R' hk hd e
  exact hd (kind_dead.1 (hk.trans (kind_dead.2 e)))
 refine⟨{os:=hM.os,output:=hM.output,tape:=hM.tape,size:=hM.size,keep:=hM.keep,shape:=hM.shape,s0:=hM.s0,slt:=hM.slt,snew:=hM.snew,glob:=hM.glob,blt:=hM.blt,bown:=?_,bkeep:=?_,inj:=?_,roots:=?_},st,st'⟩
 ·intro r R b hp hr hd hb
  obtain⟨R0,a,k⟩:=h2 r R hr
  exact hM.bown r R0 b hp a (dd k hd) hb
 ·intro r R hm hp hr hd
  obtain⟨R0,a,k⟩:=h2 r R hr
  exact hM.bkeep r R0 hm hp a (dd k hd)
 ·intro r r' R R' b hp hp' hr hd hr' hd' hb hb'
  obtain⟨R0,a,k⟩:=h2 r R hr
  obtain⟨R1,a',k'⟩:=h2 r' R' hr'
  exact hM.inj r r' R0 R1 b hp hp' a (dd k hd) a' (dd k' hd') hb hb'
 ·intro r R hp hr
  exact(h3 r R hp hr).step st hp (fun _ _=>rfl) (fun _ _ h=>h)
theorem cB_at{bs:List UInt8}{i j:Nat}{x:List D}{y:D}(hx:(bs.map cB)[i]? =some x)(hy:x[j]? =some y):j=0∧∃u:UInt8,bs[i]? =some u∧y= .sc (.int .u8 u.toNat):=by
 rw[List.getElem?_map]at hx
 obtain⟨u,hu,rfl⟩:=Option.map_eq_some_iff.1 hx
 cases j with
 |succ j=>simp[cB]at hy
 |zero=>simp[cB]at hy;exact⟨rfl,u,hu,hy.symm⟩
theorem XfK{P:Program}{c:Ctx}{E:Env}(hM:Mem c E){nb t xT ty r len e inf_bytes:Nat}{bs:List UInt8}{s:ByteArray}{vs:Value}(hx:P.underlying xT=some .string)(hz:(ezT P t).isSome=true)(hel:elT P t=some (1,inf_bytes))
  (hu:P.underlying t=some (.slice e))(hr:E.rt r=some (.buf e false bs))(hs:RelAV E (.ref r 0 len) vs)(hlen:len=bs.length)(h48:(2*(bs.length+s.size)+1024)*inf_bytes≤2^48)(h62:bs.length+s.size<2^62)
  (hp:E.pres r)(hF:Fresh c E nb [.buf e false (bs++s.data.toList)]):
  ∃v E',(Builtin.append_ #[t,xT] ty #[vs,.string s]).run P E.w= .ok v E'.w∧Appended c E nb r E'∧RelAV E' (.ref nb 0 (bs.length+s.size)) v:=by
 have hstr:strRow s=s.data.toList.map cB:=rfl
 have hsl:(strRow s).length=s.size:=by rw[hstr,List.length_map];exact Array.length_toList
 have hnb:E.rt nb=some (.buf e false (bs++s.data.toList)):=by simpa using hF.rt 0 _ rfl
 have hnp:¬E.pres nb:=by simpa using hF.np 0 (by simp)
 have hne:nb≠r:=by rintro rfl;exact hnp hp
 obtain⟨hM1,st,st'⟩:=hM.recast (rt1:=fun x=>if x=r then some (.row 1 false (bs.map cB))else if x=nb then some (.row 1 false (bs.map cB++strRow s))else E.rt x)
  (by
   intro x R hR
   by_cases h:x=r
   ·subst h;rw[hr]at hR;obtain rfl:=Option.some.inj hR;exact⟨_,if_pos rfl,rfl⟩
   ·by_cases h':x=nb
    ·subst h';rw[hnb]at hR;obtain rfl:=Option.some.inj hR;exact⟨.row 1 false (bs.map cB++strRow s),by rw[if_neg h,if_pos rfl],rfl⟩
    ·exact⟨R,by rw[if_neg h,if_neg h'];exact hR,rfl⟩)
  (by
   intro x R hR
   by_cases h:x=r
   ·subst h;rw[if_pos rfl]at hR;obtain rfl:=Option.some.inj hR;exact⟨_,hr,rfl⟩
   ·rw[if_neg h]at hR
    by_cases h':x=nb
    ·subst h';rw[if_pos rfl]at hR;obtain rfl:=Option.some.inj hR;exact⟨_,hnb,rfl⟩
    ·rw[if_neg h']at hR;exact⟨R,hR,rfl⟩)
  (by
   intro x R hpx hR
   by_cases h:x=r
   ·subst h
    rw[if_pos rfl]at hR
    obtain rfl:=Option.some.inj hR
    rcases hM.roots x _ hpx hr with⟨h1,h2⟩|⟨b,cs,fr,h1,h2,h3,h4,h5,h6⟩
    ·exact .inl ⟨h1,by rw[h2];rfl⟩
    ·refine .inr ⟨b,cs,e,fr,h1,h2,?_,by simpa using h3,?_,.inr ⟨rfl,h5,h6 rfl,.inl rfl⟩⟩
     ·intro i y hy
      obtain⟨u,_,rfl⟩:=List.mem_map.1 (List.mem_of_getElem? hy)
      rfl
     ·intro i y j z hy hz'
      obtain⟨rfl,u,hu',rfl⟩:=cB_at hy hz'
      exact⟨_,by simpa using h4 i u hu',.sc _ rfl⟩
   ·rw[if_neg h]at hR
    by_cases h':x=nb
    ·subst h';exact absurd hpx hnp
    ·rw[if_neg h']at hR;exact hM.roots x R hpx hR)
 generalize hE1:({E with rt:=_}:Env)=E1 at hM1 st st'
 have ae:E1.rt r=some (.row 1 false (bs.map cB)):=by rw[←hE1];exact if_pos rfl
 have aa:E1.rt nb=some (.row 1 false (bs.map cB++strRow s)):=by rw[←hE1];show(if nb=r then _ else _)=_;rw[if_neg hne,if_pos rfl]
 have ab:∀x,x≠r→x≠nb→E1.rt x=E.rt x:=by intro x h1 h2;rw[←hE1];show(if x=r then _ else _)=_;rw[if_neg h1,if_neg h2]
 have ac:E1.w=E.w:=by rw[←hE1]
 have ad:E1.pres=E.pres:=by rw[←hE1]
 have af:E1.β=E.β:=by rw[←hE1]
 have e1S:E1.S=E.S:=by rw[←hE1]
 have hF1:Fresh c E1 nb [.row 1 false (bs.map cB++strRow s)]:=⟨hF.m,fun k R hk=>by
   cases k with
   |zero=>simp at hk;subst hk;exact aa
   |succ k=>simp at hk,fun k hk=>by
   have:k=0:=by simpa using hk
   subst this
   rw[ad];exact hnp⟩
 have hev:Db E1.rt nb (elT P t) (.ref r 0 len) (.d (.sc (.string s)))=some (.ref nb 0 ((bs.map cB).length+(strRow s).length),[.row 1 false (bs.map cB++strRow s)],r):=by
  simp only[Db,ae,AV.src,Option.bind_some,hel]
  rw[if_pos (by refine⟨trivial,?_,trivial,trivial,?_,?_⟩<;>simp only[List.length_map,hsl]<;>assumption)]
 obtain⟨v,E2,hrun,hA,hrel,hty⟩:=O6 (ty:=ty) hM1 (.inr hx) hz (hs.step st) (.d _ _ (.sc (.string s) rfl)) hev hF1
 have hlb:(bs.map cB).length+(strRow s).length=bs.length+s.size:=by rw[hsl,List.length_map]
 rw[hlb]at hrel
 have e2:∀x,E2.rt x=(E1.kill r).rt x:=fun x=>by rw[hA.rt]
 have kr:∀x,(E.kill r).rt x=if x=r then some .dead else E.rt x:=fun x=>rfl
 have kr1:∀x,(E1.kill r).rt x=if x=r then some .dead else E1.rt x:=fun x=>rfl
 have hpn:E2.pres nb:=(hA.pres nb).2 (.inr rfl)
 obtain⟨hM2,st2,st2'⟩:=hA.mem.recast (rt1:=(E.kill r).rt)
  (by
   intro x R hR
   rw[e2,kr1]at hR
   rw[kr]
   by_cases h:x=r
   ·rw[if_pos h]at hR⊢;exact⟨R,hR,rfl⟩
   ·rw[if_neg h]at hR⊢
    by_cases h':x=nb
    ·subst h';rw[aa]at hR;obtain rfl:=Option.some.inj hR;exact⟨_,hnb,rfl⟩
    ·rw[ab x h h']at hR;exact⟨R,hR,rfl⟩)
  (by
   intro x R hR
   rw[kr]at hR
   simp only[e2,kr1]
   by_cases h:x=r
   ·rw[if_pos h]at hR⊢;exact⟨R,hR,rfl⟩
   ·rw[if_neg h]at hR⊢
    by_cases h':x=nb
    ·subst h';rw[hnb]at hR;obtain rfl:=Option.some.inj hR;exact⟨_,aa,rfl⟩
    ·rw[ab x h h'];exact⟨R,hR,rfl⟩)
  (by
   intro x R hpx hR
   rw[kr]at hR
   by_cases h:x=r
   ·rw[if_pos h]at hR;obtain rfl:=Option.some.inj hR;trivial
   ·rw[if_neg h]at hR
    by_cases h':x=nb
    ·subst h'
     rw[hnb]at hR
     obtain rfl:=Option.some.inj hR
     have hroot:=hA.mem.roots x _ hpn (by rw[e2,kr1,if_neg h];exact aa)
     rcases hroot with⟨h1,h2⟩|⟨b,cs,tt,fr,h1,h2,h3,h4,h5,h6⟩
     ·refine .inl ⟨h1,?_⟩
      rw[hstr,←List.map_append]at h2
      simpa using h2
     ·have htt:tt=e:=by
       have key:∃n,E2.w.shape? b=some (e,n):=by
        rcases hty e hu b h1 with hb|hb
        ·rw[af]at hb
         rcases hM.roots r _ hp hr with⟨g1,_⟩|⟨b',cs',fr',g1,g2,_⟩
         ·rw[g1]at hb;cases hb
         ·rw[g1]at hb
          obtain rfl:=Option.some.inj hb
          exact⟨_,hA.step.shape b' _ (by rw[ac];unfold World.shape?;rw[g2])⟩
        ·exact hb
       obtain⟨n,hn⟩:=key
       unfold World.shape? at hn
       rw[h2]at hn
       simp only[Option.some.injEq,Prod.mk.injEq]at hn
       exact hn.1
      subst htt
      rw[hstr,←List.map_append]at h4 h5
      refine .inr ⟨b,cs,fr,h1,h2,by simpa using h4,?_,?_⟩
      ·intro i u hu'
       obtain⟨w',hw,hd⟩:=h5 i (cB u) 0 (.sc (.int .u8 u.toNat)) (by rw[List.getElem?_map,hu'];rfl) rfl
       cases hd
       simpa using hw
      ·rcases h6 with⟨h6,_⟩|⟨_,h7,h8⟩
       ·cases h6
       ·exact⟨h7,fun _=>h8.1⟩
    ·rw[←ab x h h']at hR
     exact hA.mem.roots x R hpx (by rw[e2,kr1,if_neg h];exact hR))
 refine⟨v,_,?_,⟨hM2,(st.trans hA.step).trans st2,rfl,?_,?_,?_⟩,hrel.step st2⟩
 ·rw[ac]at hrun;exact hrun
 ·intro x
  have:=hA.pres x
  rw[ad]at this
  exact this
 ·show E2.S=E.S
  rw[hA.S,e1S]
 ·have:=hA.size
  rw[ac]at this
  exact this
theorem OpSem.appB{P:Program}{ops:Array Oper}{i nb:Nat}{o:Oper}{sl:Nat→AV}{rt:Nat→Option Root}{cl:Call}{x y:Operand}{t xT r len e bytes:Nat}{bs:List UInt8}{str:ByteArray}(ho:ops[i]? =some o)(hg:Ey ops o sl=some true)(hop:o.op= .call cl)
  (hc:cl.callee= .builtin .append)(ha:cl.args= #[x,y])(ht:cl.argTypes= #[t,xT])(hx:Bw sl x= .ref r 0 len)(hy:Bw sl y= .d (.sc (.string str)))(hxT:P.underlying xT=some .string)(hz:(ezT P t).isSome=true)(hel:elT P t=some (1,bytes))
  (hu:P.underlying t=some (.slice e))(hr:rt r=some (.buf e false bs))(hlen:len=bs.length)(h48:(2*(bs.length+str.size)+1024)*bytes≤2^48)(h62:bs.length+str.size<2^62):
  OpSem P ops i [r] sl rt nb ⟨.ref nb 0 (bs.length+str.size),[.buf e false (bs++str.data.toList)],[(r,.dead)]⟩:=by
 refine⟨o,ho,?_⟩
 intro c E a hM hl hT hnb hF K Q k
 unfold wpOp
 rw[ho]
 simp only[B8 hl hg,if_true]
 obtain⟨hsl,hop0⟩:=F7 hl
 have hv:=A4 hsl x
 rw[←hop0 x (by rw[hop];simp[Op.operands,Call.operands,hc,ha]),hx]at hv
 have hw:=A4 hsl y
 rw[←hop0 y (by rw[hop];simp[Op.operands,Call.operands,hc,ha]),hy]at hw
 have hval:=R4 hw
 have hr':E.rt r=some (.buf e false bs):=by
  rcases hT r (by simp)with h|h
  ·rw[h]at hr;cases hr
  ·rw[h];exact hr
 have hp:E.pres r:=L4 hv (by simp[AV.ids]) hr' (by simp)
 obtain⟨v,E',hrun,hA,hrel⟩:=XfK (ty:=o.type) hM hxT hz hel hu hr' hv hlen h48 h62 hp hF
 refine .inl (Done.wp ?_ k)
 refine⟨v,E',.inl ?_,hA.mem,hA.step,?_,?_,hA.size,hrel⟩
 ·simp[execOp,hop,resolve,hc,ha,ht,invoke,builtin,hval,hrun]
 ·rw[hA.rt];rfl
 ·intro z
  rw[hA.pres]
  constructor
  ·rintro(h|rfl)
   ·exact .inl h
   ·exact .inr ⟨Nat.le_refl _,by simp⟩
  ·rintro(h|⟨h1,h2⟩)
   ·exact .inl h
   ·have h2':z<nb+1:=by simpa using h2
    exact .inr (by omega)
open Go
theorem Z5{P:Program}{c:Ctx}{E:Env}(hM:Mem c E){nb:Nat}{t:TypeId}{n:Nat}{k:IntKind}(hz:La P t=some (List.replicate n (.int k 0,0)))(hF:Fresh c E nb [.row 1 false (List.replicate n [.sc (.int k 0)])]):
  Yields1 c P E nb (.ptr nb 0 0,[.row 1 false (List.replicate n [.sc (.int k 0)])]) (Instr.alloc t true (.tuple #[])):=by
 obtain⟨z,hrun,hcells,h1,_⟩:=E3 (w:=E.w) hz
 have hsz:z.cells.size=n:=by rw[←Array.length_toList,hcells];simp
 have hcell:∀i,i<n→z.cells[i]? =some (.int k 0):=by
  intro i hi
  rw[←Array.getElem?_toList,hcells,List.getElem?_map,List.getElem?_replicate,if_pos hi]
  rfl
 have hrt:E.rt nb=some (.row 1 false (List.replicate n [.sc (.int k 0)])):=by simpa using hF.rt 0 _ rfl
 obtain⟨q,_⟩:=XhZ hM (r:=nb) (sz:=1) (xs:=List.replicate n [.sc (.int k 0)]) (t:=t) (cs:=z.cells) (fr:=(0,0)) (w':=E.w.alloc (.cells z.cells t)) hrt
  (by simpa using hF.np 0 (by simp)) hF.m (Grow.alloc _ _) ⟨H0 _,.inr rfl⟩
  (by intro i x hx;rw[List.eq_of_mem_replicate (List.mem_of_getElem? hx)];rfl)
  (by rw[List.length_replicate];omega)
  (by
   intro i x j y hx hy
   have hi:i<n:=by have:=(List.getElem?_eq_some_iff.1 hx).1;simpa using this
   rw[List.eq_of_mem_replicate (List.mem_of_getElem? hx)]at hy
   cases j with
   |succ j=>simp at hy
   |zero=>
    simp at hy
    subst hy
    exact⟨.int k 0,by simpa using hcell i hi,.sc _ rfl⟩)
 refine⟨.pointer (some ⟨E.w.heap.size,0,none⟩),_,?_,q,?_⟩
 ·simp[Instr.alloc,hrun,newVar,newRow,Env.withBlk]
 ·have:=RelAV.ptr (E:=E.withBlk nb (E.w.alloc (.cells z.cells t))) nb 0 0 _ E.w.heap.size hrt (Or.inr rfl) (D2 _ _ _)
  simpa[Root.kind]using this
section
variable {P:Program} {ops:Array Oper} {i nb:Nat} {o:Oper} {sl:Nat→AV} {rt:Nat→Option Root}
theorem OpSem.allocA{t:TypeId}{n:Nat}{k:IntKind}(ho:ops[i]? =some o)(hg:Ey ops o sl=some true)(hop:o.op= .alloc t)(hz:La P t=some (List.replicate n (.int k 0,0))):
  OpSem P ops i [] sl rt nb ⟨.ptr nb 0 0,[.row 1 false (List.replicate n [.sc (.int k 0)])],[]⟩:=by
 refine⟨o,ho,?_⟩
 intro c E a hM hl hT hnb hF K Q k
 unfold wpOp
 rw[ho]
 simp only[B8 hl hg,if_true]
 refine .inl (Done.wp ?_ k)
 exact Done.of (Z5 hM hz hF) (by simp[execOp,hop])
theorem XgZ{E:Env}{r i j:Nat}{R:Root}{v:Value}(h:RelAV E (.ptr r i j) v)(hr:E.rt r=some R)(hd:R≠.dead)(hm:∀ks,R≠.map ks:=by intro ks h;cases h):∃b,E.pres r∧E.β r=some b∧v= .pointer (some ⟨b,i*R.kind.sz+j,none⟩):=by
 cases h with
 |dptr _ _ _ _ h1 _=>rw[hr]at h1;exact absurd (Option.some.inj h1) hd
 |ptr _ _ _ R' b h1 h2 h3=>
  rw[hr]at h1
  obtain rfl:=Option.some.inj h1
  refine⟨b,h2,h3,?_⟩
  cases R with
  |map ks=>exact absurd rfl (hm ks)
  |_=>rfl
theorem OpSem.idxA{t e:TypeId}{x y:Operand}{n r:Nat}{fz:Bool}{xs:List (List D)}{k:IntKind}{j:Int}(ho:ops[i]? =some o)(hg:Ey ops o sl=some true)(hop:o.op= .indexAddr t x y)(hx:Bw sl x= .ptr r 0 0)
  (hy:Bw sl y= .d (.sc (.int k j)))(hu:P.underlying t=some (.array n e))(hs:szT P e=some 1)(hr:rt r=some (.row 1 fz xs))(h0:0≤j)(h1:j<(n:Int)):OpSem P ops i [r] sl rt nb ⟨.ptr r j.toNat 0,[],[]⟩:=by
 refine⟨o,ho,?_⟩
 intro c E a hM hl hT hnb hF K Q kk
 unfold wpOp
 rw[ho]
 simp only[B8 hl hg,if_true]
 obtain⟨hsl,hop0⟩:=F7 hl
 have hv:=A4 hsl x
 rw[←hop0 x (by rw[hop];simp[Op.operands]),hx]at hv
 have hw:=A4 hsl y
 rw[←hop0 y (by rw[hop];simp[Op.operands]),hy]at hw
 have hval:=R4 hw
 have hr':E.rt r=some (.row 1 fz xs):=by
  rcases hT r (by simp)with h|h
  ·rw[h]at hr;cases hr
  ·rw[h];exact hr
 obtain⟨b,hp,hb,hv'⟩:=XgZ hv hr' (by simp)
 refine .inl (Done.wp ?_ kk)
 refine Done.same hM (s:=Instr.indexAt t (.pointer (some ⟨b,0,none⟩)) (.int k j)) ⟨.pointer (some ⟨b,j.toNat*1+0,none⟩),?_,.ptr r _ 0 _ b hr' hp hb⟩ (by simp[execOp,hop,hval,hv'])
 simp only[Instr.indexAt,asIntOf,Sem.run_bind,Sem.run_pure,Result.andThen_ok,run_underlying hu]
 simp[h0,h1,B6 hs,G6,Instr.sureAddr]
theorem OpSem.slcA{t e:TypeId}{x:Operand}{xlo xhi:Option Operand}{lo hi:Option Int}{n r:Nat}{fz:Bool}{xs:List (List D)}(ho:ops[i]? =some o)(hg:Ey ops o sl=some true)(hop:o.op= .slice t x xlo xhi none)(hx:Bw sl x= .ptr r 0 0)
  (hlo:G2 sl xlo=some lo)(hhi:G2 sl xhi=some hi)(hu:P.underlying t=some (.array n e))(hs:szT P e=some 1)(hr:rt r=some (.row 1 fz xs))(hn:xs.length=n)(h0:0≤lo.getD 0)(h1:lo.getD 0≤hi.getD (n:Int))(h2:hi.getD (n:Int)≤(n:Int)):
  OpSem P ops i [r] sl rt nb ⟨.ref r (lo.getD 0).toNat ((hi.getD (n:Int)).toNat - (lo.getD 0).toNat),[],[]⟩:=by
 refine⟨o,ho,?_⟩
 intro c E a hM hl hT hnb hF K Q kk
 unfold wpOp
 rw[ho]
 simp only[B8 hl hg,if_true]
 obtain⟨hsl,hop0⟩:=F7 hl
 have hv:=A4 hsl x
 rw[←hop0 x (by rw[hop];simp[Op.operands]),hx]at hv
 have hr':E.rt r=some (.row 1 fz xs):=by
  rcases hT r (by simp)with h|h
  ·rw[h]at hr;cases hr
  ·rw[h];exact hr
 have hbd:∀(q:Option Operand),(∀z,q=some z→z∈o.op.operands)→G2 sl q=G2 (fun t=>open Classical in if t∈o.looksAt ops then sl t else .junk) q:=by
  intro q hq
  cases q with
  |none=>rfl
  |some z=>unfold G2;simp only;rw[hop0 z (hq z rfl)]
 rw[hbd xlo (by intro z hz;rw[hop,hz];simp[Op.operands])]at hlo
 rw[hbd xhi (by intro z hz;rw[hop,hz];simp[Op.operands])]at hhi
 obtain⟨kl,hkl⟩:=P0 hsl hlo
 obtain⟨kh,hkh⟩:=P0 hsl hhi
 obtain⟨b,hp,hb,hv'⟩:=XgZ hv hr' (by simp)
 have hroot:=hM.roots r _ hp hr'
 refine .inl (Done.wp ?_ kk)
 have hbnd:=Fg (P:=P) (w:=E.w) (isSl:=false) (len:=n) (cap:=n) (kl:=kl) (kh:=kh) h0 h1 h2 (Nat.le_refl _)
 generalize hL:(lo.getD 0).toNat=L at*
 generalize hH:(hi.getD (n:Int)).toNat=H at*
 have hLH:L≤H:=by omega
 have hHn:H≤n:=by omega
 refine Done.same hM (s:=Instr.sliceAt t (.pointer (some ⟨b,0,none⟩)) (lo.map (Value.int kl)) (hi.map (Value.int kh)) none) ⟨.slice (some (if n=L then⟨b,0,none⟩else⟨b,L*1,none⟩)) (H - L) (n - L),?_,?_⟩ (by simp[execOp,hop,hkl,hkh,hv'])
 ·simp[Instr.sliceAt,run_underlying hu,hbnd,B6 hs,Instr.sureAddr,G6]
 ·rcases hroot with⟨g1,_⟩|⟨b',cs,tt,fr,g1,g2,g3,g4,g5,g6⟩
  ·rw[g1]at hb;cases hb
  ·rw[hb]at g1
   obtain rfl:=Option.some.inj g1
   by_cases hnl:n=L
   ·rw[if_pos hnl,show H - L=0 by omega,show n - L=0 by omega]
    exact .refz r L _ 1 _ hr' rfl hp
   ·rw[if_neg hnl]
    exact .ref r L (H - L) _ 1 b (n - L) tt cs.size hr' rfl hp hb (by unfold World.shape?;rw[g2]) (by omega) (by omega)
end
open Go
def H6(xs:List (List D))(off len:Nat)(z:List D):List (List D):=xs.take off++(List.replicate len z++xs.drop (off+len))
theorem Xgi{xs:List (List D)}{off len:Nat}{z:List D}(h:off+len≤xs.length):(H6 xs off len z).length=xs.length:=by
 unfold H6
 rw[List.length_append,List.length_append,List.length_take,List.length_replicate,List.length_drop]
 omega
theorem Si{xs:List (List D)}{off len:Nat}{z:List D}(h:off+len≤xs.length){i:Nat}:(H6 xs off len z)[i]? =if off≤i∧i<off+len then some z else xs[i]? :=by
 unfold H6
 rcases Nat.lt_or_ge i off with h1|h1
 ·rw[if_neg (by omega),List.getElem?_append_left (by rw[List.length_take];omega),List.getElem?_take_of_lt h1]
 ·rw[List.getElem?_append_right (by rw[List.length_take];omega),List.length_take,Nat.min_eq_left (by omega)]
  rcases Nat.lt_or_ge i (off+len)with h2|h2
  ·rw[if_pos ⟨h1,h2⟩,List.getElem?_append_left (by rw[List.length_replicate];omega),List.getElem?_replicate,if_pos (by omega)]
  ·rw[if_neg (by omega),List.getElem?_append_right (by rw[List.length_replicate];omega),List.length_replicate,List.getElem?_drop]
   congr 1
   omega
section
variable {P:Program} {c:Ctx} {E:Env}
def Nu(zs:List Value)(n:Nat):List Value:=(List.range (n*zs.length)).map fun i=>zs.getD (i% zs.length) undef
theorem XbN{zs:List Value}{n:Nat}:(Nu zs n).length=n*zs.length:=by simp[Nu]
theorem XgW{zs:List Value}{n k j:Nat}(hk:k<n)(hj:j<zs.length):(Nu zs n)[k*zs.length+j]? =zs[j]? :=by
 have hlt:k*zs.length+j<n*zs.length:=by
  calc k*zs.length+j<k*zs.length+zs.length:=by omega
   _=(k+1)*zs.length:=by rw[Nat.succ_mul]
   _≤n*zs.length:=Nat.mul_le_mul_right _ hk
 have hm:(k*zs.length+j)% zs.length=j:=by
  rw[Nat.mul_comm,Nat.mul_add_mod]
  exact Nat.mod_eq_of_lt hj
 unfold Nu
 rw[List.getElem?_map,List.getElem?_range hlt]
 simp[hm,hj]
theorem Xh9{zs:List Value}{n:Nat}(h1:∀z∈zs,z.oneCell'=true)(h0:0<zs.length):∀u∈Nu zs n,u.oneCell'=true:=by
 intro u hu
 unfold Nu at hu
 obtain⟨i,_,rfl⟩:=List.mem_map.1 hu
 have hm:=Nat.mod_lt i h0
 rw[List.getD_eq_getElem?_getD,List.getElem?_eq_getElem hm]
 exact h1 _ (List.getElem_mem hm)
theorem Xim(hM:Mem c E){r b off len:Nat}{xs:List (List D)}{zs:List Value}(hp:E.pres r)(hr:E.rt r=some (.row zs.length false xs))(hb:E.β r=some b)(h0:0<zs.length)(h1:∀z∈zs,z.oneCell'=true)(hn:off+len≤xs.length):
  (storeCells ⟨b,off*zs.length,none⟩ (Nu zs len)).run P E.w= .ok () (E.w.setCells b (off*zs.length) (Nu zs len))∧(E.w.setCells b (off*zs.length) (Nu zs len)).heap.size=E.w.heap.size∧
   Mem c (E.upd r (.row zs.length false (H6 xs off len (zs.map D.sc))) (E.w.setCells b (off*zs.length) (Nu zs len)))∧Step E (E.upd r (.row zs.length false (H6 xs off len (zs.map D.sc))) (E.w.setCells b (off*zs.length) (Nu zs len))):=by
 rcases hM.roots r _ hp hr with⟨hb',_⟩|⟨b',cs,ty,fr,hb',hh,hlen,hcsz,hcs,hfz⟩
 ·rw[hb]at hb';cases hb'
 rw[hb]at hb'
 obtain rfl:=Option.some.inj hb'
 rcases hfz with⟨hf,_⟩|⟨_,hnS,hfr⟩
 ·cases hf
 have hle:off*zs.length+(Nu zs len).length≤cs.size:=by
  rw[XbN,←Nat.add_mul]
  exact Nat.le_trans (Nat.mul_le_mul_right _ hn) hcsz
 have hst:=run_storeCells_cells (P:=P) b (off*zs.length) (Nu zs len) 0 E.w (by
   intro j hj
   have:off*zs.length+j<cs.size:=by omega
   simp[World.cell?,hh,this])
  (by
   intro j hj
   have hlt:off*zs.length+j<cs.size:=by omega
   rw[Nat.add_zero]
   exact L5 hh hfr.1 hlt) (Xh9 h1 h0)
 obtain⟨cs',hw,hget⟩:=Fz b ty fr (Nu zs len) (off*zs.length) E.w cs hh hle
 have st:Step E (E.upd r (.row zs.length false (H6 xs off len (zs.map D.sc))) (E.w.setCells b (off*zs.length) (Nu zs len))):=Step.upd hr (.inr rfl) (fun x hx=>hw.others x (fun e=>hnS (e▸hx))) (hw.shape hh)
 refine⟨by simpa using hst,hw.hsize,?_⟩
 refine hM.upd (R:=.row zs.length false xs) (cs':=cs') hp hr (by simp) rfl hb hnS hh hw ?_
 refine .inr ⟨b,cs',ty,fr,hb,hw.at_,?_,by rw[hw.size,Xgi hn];exact hcsz,?_,.inr ⟨rfl,hnS,by rw[hw.size];exact hfr⟩⟩
 ·intro a x hx
  rw[Si hn]at hx
  split at hx
  ·rw[←Option.some.inj hx,List.length_map]
  ·exact hlen a x hx
 ·intro a x k y hx hy
  have hxl:x.length=zs.length:=by
   rw[Si hn]at hx
   split at hx
   ·rw[←Option.some.inj hx,List.length_map]
   ·exact hlen a x hx
  have hk:k<zs.length:=by rw[←hxl];exact(List.getElem?_eq_some_iff.1 hy).1
  rw[hget,XbN,←Nat.add_mul]
  rw[Si hn]at hx
  split at hx
  ·rename_i ha
   obtain rfl:=Option.some.inj hx
   rw[List.getElem?_map]at hy
   obtain⟨z,hz,rfl⟩:=Option.map_eq_some_iff.1 hy
   have e1:off*zs.length≤a*zs.length+k:=Nat.le_trans (Nat.mul_le_mul_right _ ha.1) (Nat.le_add_right _ _)
   have e2:a*zs.length+k<(off+len)*zs.length:=by
    calc a*zs.length+k<a*zs.length+zs.length:=by omega
     _=(a+1)*zs.length:=by rw[Nat.succ_mul]
     _≤(off+len)*zs.length:=Nat.mul_le_mul_right _ ha.2
   rw[if_pos ⟨e1,e2⟩]
   have e3:a*zs.length+k - off*zs.length=(a - off)*zs.length+k:=by
    rw[Nat.sub_mul]
    have:=Nat.mul_le_mul_right zs.length ha.1
    omega
   rw[e3,XgW (by omega) hk]
   exact⟨z,hz,.sc _ (h1 z (List.mem_of_getElem? hz))⟩
  ·rename_i ha
   have e1:¬(off*zs.length≤a*zs.length+k∧a*zs.length+k<(off+len)*zs.length):=by
    rintro⟨k1,k2⟩
    apply ha
    constructor
    ·rcases Nat.lt_or_ge a off with h|h
     ·have:=Nat.mul_le_mul_right zs.length (show a+1≤off by omega)
      rw[Nat.succ_mul]at this
      omega
     ·exact h
    ·rcases Nat.lt_or_ge a (off+len)with h|h
     ·exact h
     ·have:=Nat.mul_le_mul_right zs.length h
      omega
   rw[if_neg e1]
   obtain⟨u,hu,hr⟩:=hcs a x k y hx hy
   exact⟨u,hu,hr.step st.S st.heap⟩
end
section
variable {P:Program} {ops:Array Oper} {i nb:Nat} {o:Oper} {sl:Nat→AV} {rt:Nat→Option Root}
theorem OpSem.clrR{cl:Call}{x:Operand}{t e r off len:Nat}{xs:List (List D)}{zz:List (Value×Nat)}{zs:List Value}(ho:ops[i]? =some o)(hg:Ey ops o sl=some true)(hop:o.op= .call cl)(hc:cl.callee= .builtin .clear)(ha:cl.args= #[x])(ht:cl.argTypes= #[t])
  (hx:Bw sl x= .ref r off len)(hu:P.underlying t=some (.slice e))(hz:La P e=some zz)(hzs:zz.map (·.1)=zs)(h0:0<zs.length)(hr:rt r=some (.row zs.length false xs))(hn:off+len≤xs.length):
  OpSem P ops i [r] sl rt nb ⟨.junk,[],[(r,.row zs.length false (H6 xs off len (zs.map D.sc)))]⟩:=by
 refine⟨o,ho,?_⟩
 intro c E a hM hl hT hnb hF K Q kk
 unfold wpOp
 rw[ho]
 simp only[B8 hl hg,if_true]
 obtain⟨hsl,hop0⟩:=F7 hl
 have hv:=A4 hsl x
 rw[←hop0 x (by rw[hop];simp[Op.operands,Call.operands,hc,ha]),hx]at hv
 have hr':E.rt r=some (.row zs.length false xs):=by
  rcases hT r (by simp)with h|h
  ·rw[h]at hr;cases hr
  ·rw[h];exact hr
 obtain⟨zv,hzr,hzc,ab,_⟩:=E3 (w:=E.w) hz
 have hone:∀z∈zs,z.oneCell'=true:=by
  intro z hz
  rw[←hzs]at hz
  obtain⟨p,hp,rfl⟩:=List.mem_map.1 hz
  exact ab p hp
 have hzl:zv.cells.toList=zs:=by rw[hzc,hzs]
 have hzsz:zv.cells.size=zs.length:=by rw[←hzl,Array.length_toList]
 have hrep:(Builtin.zeroCells zv.cells len).toList=Nu zs len:=by
  unfold Builtin.zeroCells Nu
  rw[Array.toList_map,Array.toList_range,hzsz]
  apply List.map_congr_left
  intro i _
  have hm:=Nat.mod_lt i h0
  have g:zs[i% zs.length]? =zv.cells[i% zs.length]? :=by rw[←Array.getElem?_toList,hzl]
  rw[List.getD_eq_getElem?_getD,g,Array.getElem?_eq_getElem (by rw[hzsz];exact hm),getElem!_pos zv.cells _ (by rw[hzsz];exact hm)]
  rfl
 have fin:∀(v:Value) (w':World),a.eval x=v→(Builtin.clear_ #[t] o.type #[v]).run P E.w= .ok (.tuple #[]) w'→w'.heap.size=E.w.heap.size→Mem c (E.upd r (.row zs.length false (H6 xs off len (zs.map D.sc))) w')→Step E (E.upd r (.row zs.length false (H6 xs off len (zs.map D.sc))) w')→
   Done P c E nb ⟨.junk,[],[(r,.row zs.length false (H6 xs off len (zs.map D.sc)))]⟩ (execOp a.eval o):=by
  intro v w' hval hrun hsz hM' st
  refine⟨.tuple #[],_,.inl ?_,hM',st,rfl,?_,?_,.junk _⟩
  ·simp[execOp,hop,resolve,hc,ha,ht,invoke,builtin,hval,hrun,Env.upd]
  ·intro y
   constructor
   ·exact fun h=>.inl h
   ·rintro(h|⟨h1,h2⟩)
    ·exact h
    ·simp at h2;omega
  ·show E.w.heap.size≤w'.heap.size
   omega
 have same:len=0→E.upd r (.row zs.length false (H6 xs off len (zs.map D.sc))) E.w=E:=by
  rintro rfl
  have e1:H6 xs off 0 (zs.map D.sc)=xs:=by unfold H6;simp
  rw[e1]
  unfold Env.upd
  have e2:(fun y=>if y=r then some (Root.row zs.length false xs)else E.rt y)=E.rt:=by
   funext y
   split
   ·rename_i h;rw[h,hr']
   ·rfl
  rw[e2]
 refine .inl (Done.wp ?_ kk)
 generalize hval:a.eval x=v at hv
 cases hv with
 |ref _ _ _ R sz b cap tt n h1 hk h2 h3 h4 h5 h6=>
  rw[hr']at h1
  obtain rfl:=Option.some.inj h1
  have ac:sz=zs.length:=by simp[Root.kind]at hk;exact hk.symm
  subst ac
  by_cases aa:len=0
  ·have hs:=same aa
   refine fin _ E.w hval ?_ rfl (by rw[hs];exact hM) (by rw[hs];exact Step.refl E)
   subst aa
   simp[Builtin.clear_,run_underlying hu]
  ·obtain⟨g1,g2,g3,g4⟩:=Xim (P:=P) hM h2 hr' h3 h0 hone hn
   refine fin _ _ hval ?_ g2 g3 g4
   obtain⟨k,rfl⟩:∃k,len=k+1:=⟨len - 1,by omega⟩
   simp[Builtin.clear_,run_underlying hu,hzr,hrep,g1]
 |refz _ _ R sz ad h1 hk h2=>
  have hs:=same rfl
  refine fin _ E.w hval ?_ rfl (by rw[hs];exact hM) (by rw[hs];exact Step.refl E)
  cases ad<;>simp[Builtin.clear_,run_underlying hu]
 |dref _ _ _ _ h1 ho'=>
  rw[hr']at h1
  cases h1
end
end
section
open Go Go.MapKept
def Vn(ks:List Int)(n:Int):List Int:=if n∈ks then ks else ks++[n]
section
variable {P:Program} {c:Ctx} {E:Env}
theorem Mem.updM(hM:Mem c E){r b:Nat}{ks ks':List Int}{w:World}{es es':Array MapEntry}{cl cl':Nat}(hp:E.pres r)(hr:E.rt r=some (.map ks))
  (hb:E.β r=some b)(hns:¬E.S b)(hblk:E.w.heap[b]? =some (.map es cl))(hw:w={E.w with heap:=E.w.heap.setIfInBounds b (.map es' cl')})(hks:es'.toList.map (fun e=>(e.key,e.val))=ks'.map (fun k=>(Value.int .i64 k,Value.bool true))):
  Mem c (E.upd r (.map ks') w)∧Step E (E.upd r (.map ks') w):=by
 obtain⟨at_,others⟩:=heap_set (o':=.map es' cl') hblk
 have hsz:w.heap.size=E.w.heap.size:=by rw[hw];simp
 have hat:w.heap[b]? =some (.map es' cl'):=by rw[hw];exact at_
 have hot:∀x,x≠b→w.heap[x]? =E.w.heap[x]? :=by intro x hx;rw[hw];exact others x hx
 have hsh:∀x s,E.w.shape? x=some s→w.shape? x=some s:=by
  intro x s hs
  by_cases e:x=b
  ·subst e
   unfold World.shape? at hs
   rw[hblk]at hs
   cases hs
  ·rw[Iy (hot x e)]
   exact hs
 have st:Step E (E.upd r (.map ks') w):=Step.upd hr (.inr rfl) (fun x hx=>hot x (fun e=>hns (e▸hx))) hsh
 have live:∀x R0,(E.upd r (.map ks') w).rt x=some R0→R0≠.dead→∃R1,E.rt x=some R1∧R1≠.dead:=by
  intro x R0 hx hR0
  by_cases e:x=r
  ·subst e;exact⟨_,hr,by simp⟩
  ·exact⟨R0,by simpa[Env.upd,e]using hx,hR0⟩
 refine⟨?_,st⟩
 exact{
  os:=by show w.os=_;rw[hw];exact hM.os
  output:=by show w.output=_;rw[hw];exact hM.output
  tape:=by show w.tape=_;rw[hw];exact hM.tape
  size:=by show _≤w.heap.size;rw[hsz];exact hM.size
  keep:=by
   intro x hx ho
   have hne:x≠b:=by
    rintro rfl
    rcases hM.bown r _ x hp hr (by simp) hb with h|h
    ·omega
    ·exact ho h
   exact(hot x hne).trans (hM.keep x hx ho)
  shape:=fun x s hs=>hsh x s (hM.shape x s hs)
  s0:=hM.s0
  slt:=by intro x hx;show x<w.heap.size;rw[hsz];exact hM.slt x hx
  glob:=Globs.step (fun _ h=>h) (fun x hx=>hot x (fun e=>hns (e▸hx))) hM.glob
  snew:=hM.snew
  blt:=by intro x y hx hy;show y<w.heap.size;rw[hsz];exact hM.blt x y hx hy
  bown:=by
   intro x R0 y hx hR0 aa hy
   obtain⟨R1,h1,h2⟩:=live x R0 hR0 aa
   exact hM.bown x R1 y hx h1 h2 hy
  bkeep:=by
   intro x R0 hlt hx hR0 aa
   obtain⟨R1,h1,h2⟩:=live x R0 hR0 aa
   exact hM.bkeep x R1 hlt hx h1 h2
  inj:=by
   intro x y R0 R1 z hx hy hR0 aa hR1 ab hz hz'
   obtain⟨R2,h1,h2⟩:=live x R0 hR0 aa
   obtain⟨R3,h3,h4⟩:=live y R1 hR1 ab
   exact hM.inj x y R2 R3 z hx hy h1 h2 h3 h4 hz hz'
  roots:=by
   intro x R0 hx hR0
   by_cases e:x=r
   ·subst e
    have:Root.map ks'=R0:=by simpa[Env.upd]using hR0
    subst this
    exact⟨b,es',cl',hb,hat,hks,hns⟩
   ·have hR0':E.rt x=some R0:=by simpa[Env.upd,e]using hR0
    by_cases hdd:R0= .dead
    ·subst hdd;trivial
    ·refine(hM.roots x R0 hx hR0').step st hx ?_ (fun _ _ h=>h)
     intro y hy
     refine hot y ?_
     rintro rfl
     exact e (hM.inj x r R0 _ y hx hp hR0' hdd hr (by simp) hy hb)}
theorem Xhk{r i j:Nat}{ks:List Int}{v:Value}(h:RelAV E (.ptr r i j) v)(hr:E.rt r=some (.map ks)):∃b,E.pres r∧E.β r=some b∧v= .map (some b):=by
 cases h with
 |dptr _ _ _ _ h1 _=>rw[hr]at h1;cases h1
 |ptr _ _ _ R' b h1 h2 h3=>
  rw[hr]at h1
  obtain rfl:=Option.some.inj h1
  exact⟨b,h2,h3,rfl⟩
theorem XeD{es:Array MapEntry}{ks:List Int}(h:es.toList.map (fun e=>(e.key,e.val))=ks.map (fun k=>(Value.int .i64 k,Value.bool true))):(∀x∈es.toList,IsKey (.int .i64) x.key∧x.val= .bool true)∧∀n:Int,(∃x∈es.toList,x.key= .int .i64 n)↔n∈ks:=by
 refine⟨?_,?_⟩
 ·intro x hx
  have:(x.key,x.val)∈es.toList.map (fun e=>(e.key,e.val)):=List.mem_map.2 ⟨x,hx,rfl⟩
  rw[h]at this
  obtain⟨k,_,e⟩:=List.mem_map.1 this
  obtain⟨e1,e2⟩:=Prod.mk.inj e
  rw[←e1,←e2]
  exact⟨rfl,rfl⟩
 ·intro n
  constructor
  ·rintro⟨x,hx,hk⟩
   have:(x.key,x.val)∈es.toList.map (fun e=>(e.key,e.val)):=List.mem_map.2 ⟨x,hx,rfl⟩
   rw[h]at this
   obtain⟨k,aa,e⟩:=List.mem_map.1 this
   have e1:=(Prod.mk.inj e).1
   rw[hk]at e1
   simp only[Value.int.injEq,true_and]at e1
   rw[←e1]
   exact aa
  ·intro hn
   have:(Value.int .i64 n,Value.bool true)∈ks.map (fun k=>(Value.int .i64 k,Value.bool true)):=List.mem_map.2 ⟨n,hn,rfl⟩
   rw[←h]at this
   obtain⟨x,hx,e⟩:=List.mem_map.1 this
   exact⟨x,hx,(Prod.mk.inj e).1⟩
end
section
variable {P:Program} {ops:Array Oper} {i nb:Nat} {o:Oper} {sl:Nat→AV} {rt:Nat→Option Root}
theorem OpSem.mapN{t:TypeId}(ho:ops[i]? =some o)(hg:Ey ops o sl=some true)(hop:o.op= .makeMap t none):OpSem P ops i [] sl rt nb ⟨.ptr nb 0 0,[.map []],[]⟩:=by
 refine⟨o,ho,?_⟩
 intro c E a hM hl hT hnb hF K Q k
 unfold wpOp
 rw[ho]
 simp only[B8 hl hg,if_true]
 refine .inl (Done.wp ?_ k)
 have hrt:E.rt nb=some (.map []):=by simpa using hF.rt 0 _ rfl
 refine Done.of (nb:=nb) (r:=(.ptr nb 0 0,[.map []])) (s:=Instr.makeMap t none) ?_ (by simp[execOp,hop])
 refine⟨.map (some E.w.heap.size),E.withBlk nb (E.w.alloc (.map #[] 0)),?_,?_,?_⟩
 ·simp[Instr.makeMap,Result.andThen,Env.withBlk]
 ·refine Quiet.blk hM hrt (by simpa using hF.np 0 (by simp)) hF.m (Grow.alloc _ _) ?_
  refine⟨E.w.heap.size,#[],0,D2 _ _ _,(Grow.alloc E.w (.map #[] 0)).new,rfl,?_⟩
  intro h
  have:=hM.slt _ h
  omega
 ·have:=RelAV.ptr (E:=E.withBlk nb (E.w.alloc (.map #[] 0))) nb 0 0 _ E.w.heap.size hrt (Or.inr rfl) (D2 _ _ _)
  simpa[Root.kind]using this
theorem OpSem.mapG{t kt et:TypeId}{x y:Operand}{r:Nat}{ks:List Int}{n:Int}(ho:ops[i]? =some o)(hg:Ey ops o sl=some true)(hop:o.op= .lookup t x y false)(hx:Bw sl x= .ptr r 0 0)(hy:Bw sl y= .d (.sc (.int .i64 n)))
  (hu:P.underlying t=some (.map kt et))(hk:P.underlying kt=some (.int .i64))(hz:La P et=some [(.bool false,0)])(aa:(P.info? et).bind (·.zero)=some (.bool false))(hr:rt r=some (.map ks)):OpSem P ops i [r] sl rt nb ⟨.d (.sc (.bool (decide (n∈ks)))),[],[]⟩:=by
 refine⟨o,ho,?_⟩
 intro c E a hM hl hT hnb hF K Q kk
 unfold wpOp
 rw[ho]
 simp only[B8 hl hg,if_true]
 obtain⟨hsl,hop0⟩:=F7 hl
 have hv:=A4 hsl x
 rw[←hop0 x (by rw[hop];simp[Op.operands]),hx]at hv
 have hw:=A4 hsl y
 rw[←hop0 y (by rw[hop];simp[Op.operands]),hy]at hw
 have hval:=R4 hw
 have hr':E.rt r=some (.map ks):=by
  rcases hT r (by simp)with h|h
  ·rw[h]at hr;cases hr
  ·rw[h];exact hr
 obtain⟨b,hp,hb,hv'⟩:=Xhk hv hr'
 obtain⟨b',es,cl,g1,g2,g3,g4⟩:=hM.roots r _ hp hr'
 rw[hb]at g1
 obtain rfl:=Option.some.inj g1
 obtain⟨ab,ac⟩:=XeD g3
 refine .inl (Done.wp ?_ kk)
 refine Done.same hM (s:=Instr.lookup t (.map (some b)) (.int .i64 n) false) ⟨.bool (decide (n∈ks)),?_,.d _ _ (.sc _ rfl)⟩ (by simp[execOp,hop,hval,hv'])
 have hky:IsKey (.int .i64) (.int .i64 n):=rfl
 rcases findNow_spec hky es.toList 0 (fun x hx=>(ab x hx).1)with⟨h1,h2⟩|⟨j,e,h1,h2,h3⟩
 ·obtain⟨zv,hzr,hzc,af,inf,ad,ae⟩:=E3 (w:=E.w) hz
  have hzv:zv= .bool false:=by
   rw[ad,Option.bind_some,ae]at aa
   exact Option.some.inj aa
  have hnot:n∉ks:=by
   intro hn
   obtain⟨x,hx,e⟩:=(ac n).2 hn
   exact h2 x hx e
  rw[decide_eq_false hnot]
  simp[Instr.lookup,run_underlying hu,MapKept.run_getObj_map g2,MapKept.run_checkKey hk hky,MapKept.run_findKey hk h1,Result.andThen,hzr,hzv]
 ·have hin:n∈ks:=(ac n).1 ⟨e,List.mem_of_getElem? h2,h3⟩
  rw[decide_eq_true hin]
  have hval2:e.val= .bool true:=(ab e (List.mem_of_getElem? h2)).2
  simp[Instr.lookup,run_underlying hu,MapKept.run_getObj_map g2,MapKept.run_checkKey hk hky,MapKept.run_findKey hk h1,Result.andThen,hval2]
theorem OpSem.mapS{t kt et:TypeId}{x y z:Operand}{r:Nat}{ks:List Int}{n:Int}(ho:ops[i]? =some o)(hg:Ey ops o sl=some true)(hop:o.op= .mapUpdate t x y z)(hx:Bw sl x= .ptr r 0 0)(hy:Bw sl y= .d (.sc (.int .i64 n)))(hz:Bw sl z= .d (.sc (.bool true)))
  (hu:P.underlying t=some (.map kt et))(hk:P.underlying kt=some (.int .i64))(hr:rt r=some (.map ks)):OpSem P ops i [r] sl rt nb ⟨.junk,[],[(r,.map (Vn ks n))]⟩:=by
 refine⟨o,ho,?_⟩
 intro c E a hM hl hT hnb hF K Q kk
 unfold wpOp
 rw[ho]
 simp only[B8 hl hg,if_true]
 obtain⟨hsl,hop0⟩:=F7 hl
 have hv:=A4 hsl x
 rw[←hop0 x (by rw[hop];simp[Op.operands]),hx]at hv
 have hw:=A4 hsl y
 rw[←hop0 y (by rw[hop];simp[Op.operands]),hy]at hw
 have hwz:=A4 hsl z
 rw[←hop0 z (by rw[hop];simp[Op.operands]),hz]at hwz
 have hval:=R4 hw
 have hvalz:=R4 hwz
 have hr':E.rt r=some (.map ks):=by
  rcases hT r (by simp)with h|h
  ·rw[h]at hr;cases hr
  ·rw[h];exact hr
 obtain⟨b,hp,hb,hv'⟩:=Xhk hv hr'
 obtain⟨b',es,cl,g1,g2,g3,g4⟩:=hM.roots r _ hp hr'
 rw[hb]at g1
 obtain rfl:=Option.some.inj g1
 obtain⟨aa,ab⟩:=XeD g3
 have hky:IsKey (.int .i64) (.int .i64 n):=rfl
 have fin:∀(es':Array MapEntry) (cl':Nat),(Instr.mapUpdate t (.map (some b)) (.int .i64 n) (.bool true)).run P E.w= .ok () {E.w with heap:=E.w.heap.setIfInBounds b (.map es' cl')}→
   es'.toList.map (fun e=>(e.key,e.val))=(Vn ks n).map (fun k=>(Value.int .i64 k,Value.bool true))→Done P c E nb ⟨.junk,[],[(r,.map (Vn ks n))]⟩ (execOp a.eval o):=by
  intro es' cl' hrun he
  obtain⟨hM',st'⟩:=hM.updM (es':=es') (cl':=cl') hp hr' hb g4 g2 rfl he
  refine⟨undef,_,.inr ⟨?_,rfl⟩,hM',st',rfl,?_,?_,.junk _⟩
  ·simp[execOp,hop,hval,hvalz,hv',hrun,Env.upd]
  ·intro y
   constructor
   ·exact fun h=>.inl h
   ·rintro(h|⟨h1,h2⟩)
    ·exact h
    ·simp at h2;omega
  ·show E.w.heap.size≤(E.w.heap.setIfInBounds b _).size
   simp
 refine .inl (Done.wp ?_ kk)
 rcases findNow_spec hky es.toList 0 (fun x hx=>(aa x hx).1)with⟨h1,h2⟩|⟨j,e,h1,h2,h3⟩
 ·have hnot:n∉ks:=by
   intro hn
   obtain⟨x,hx,e⟩:=(ab n).2 hn
   exact h2 x hx e
  refine fin (es.push ⟨.int .i64 n,.bool true,cl⟩) (cl+1) ?_ ?_
  ·simp[Instr.mapUpdate,run_underlying hu,MapKept.run_getObj_map g2,MapKept.run_checkKey hk hky,MapKept.run_findKey hk h1,MapKept.run_setObj_map _ g2,Result.andThen]
  ·unfold Vn
   rw[if_neg hnot,Array.toList_push,List.map_append,List.map_append,g3]
   rfl
 ·have hin:n∈ks:=(ab n).1 ⟨e,List.mem_of_getElem? h2,h3⟩
  have hval2:e.val= .bool true:=(aa e (List.mem_of_getElem? h2)).2
  have hj:es[j]? =some e:=by simpa using h2
  refine fin (es.modify j fun e=>{e with key:=.int .i64 n,val:=.bool true}) cl ?_ ?_
  ·simp[Instr.mapUpdate,run_underlying hu,MapKept.run_getObj_map g2,MapKept.run_checkKey hk hky,MapKept.run_findKey hk h1,hj,h3,MapKept.run_keyThatStays hky,MapKept.run_setObj_map _ g2,Result.andThen]
  ·unfold Vn
   rw[if_pos hin,←g3,Array.toList_modify]
   refine List.ext_getElem? fun q=>?_
   rw[List.getElem?_map,List.getElem?_map,List.getElem?_modify]
   by_cases hq:j=q
   ·subst hq
    simp[h2,h3,hval2]
   ·simp[hq]
end
open Go
inductive BslL (rt:Nat→Option Root):List AV→List (List D)→List Nat→Prop
 |nil:BslL rt [] [] []
 |d {x:D} {ys:List AV} {v:List (List D)} {L:List Nat} (t:BslL rt ys v L):BslL rt (.d x::ys) ([x]::v) L
 |ref {r n sz:Nat} {xs:List (List D)} {ys:List AV} {v:List (List D)} {L:List Nat} (h:rt r=some (.row sz false xs)) (hn:n=xs.length) (t:BslL rt ys v L):BslL rt (.ref r 0 n::ys) ([.row sz xs]::v) (r::L)
def XgA:List (List D)→Nat→List (Nat×List D)
 |[],_=>[]
 |x::v,k=>(k,x)::XgA v (k+1)
def Xfj:List (Nat×Operand)→Nat→Bool
 |[],_=>true
 |(i,_)::l,k=>i==k&&Xfj l (k+1)
theorem Xj{z:List D}:∀(v:List (List D)) (a:List (List D)),Rk (a++List.replicate v.length z) (XgA v a.length)=a++v
 |[],a=>by simp[XgA,Rk]
 |x::v,a=>by
  have h:=Xj (z:=z) v (a++[x])
  simp only[List.length_append,List.length_singleton,List.append_assoc]at h
  simp only[XgA,Rk,List.length_cons,List.replicate_succ]
  rw[List.set_append_right _ _ (Nat.le_refl _),Nat.sub_self,List.set_cons_zero]
  simpa using h
theorem XeO{n:Nat}:∀(v:List (List D)) (k:Nat),k+v.length≤n→(∀x∈v,x.length=1)→(XgA v k).all (fun p=>p.1<n∧p.2.length=1)=true
 |[],_,_,_=>rfl
 |x::v,k,h,h1=>by
  rw[List.length_cons]at h
  simp only[XgA,List.all_cons,Bool.and_eq_true,decide_eq_true_eq]
  exact⟨⟨by omega,h1 x (by simp)⟩,XeO v (k+1) (by omega) fun y hy=>h1 y (by simp[hy])⟩
theorem BslL.len{rt:Nat→Option Root}{ys:List AV}{v:List (List D)}{L:List Nat}(h:BslL rt ys v L):v.length=ys.length∧∀x∈v,x.length=1:=by
 induction h with
 |nil=>exact⟨rfl,by simp⟩
 |d _ ih=>exact⟨by simp[ih.1],by intro x hx;rcases List.mem_cons.1 hx with rfl|hx;rfl;exact ih.2 x hx⟩
 |ref _ _ _ ih=>exact⟨by simp[ih.1],by intro x hx;rcases List.mem_cons.1 hx with rfl|hx;rfl;exact ih.2 x hx⟩
theorem BslL.rows{rt:Nat→Option Root}{ys:List AV}{v:List (List D)}{L:List Nat}(h:BslL rt ys v L):∀r∈L,r∈AV.idss ys∧(∃n,AV.ref r 0 n∈ys)∧∃sz xs,rt r=some (.row sz false xs):=by
 induction h with
 |nil=>intro r hr;cases hr
 |d _ ih=>
  intro r hr
  obtain⟨h1,⟨n,h2⟩,h3⟩:=ih r hr
  exact⟨by simp[AV.idss,h1],⟨n,by simp[h2]⟩,h3⟩
 | @ref q n sz xs ys v L h hn _ ih=>
   intro r hr
   rcases List.mem_cons.1 hr with rfl|hr
   ·exact⟨by simp[AV.idss,AV.ids],⟨n,by simp⟩,_,_,h⟩
   ·obtain⟨h1,⟨m,h2⟩,h3⟩:=ih r hr
    exact⟨by simp[AV.idss,h1],⟨m,by simp[h2]⟩,h3⟩
theorem Zm{rt rt':Nat→Option Root}{sl:Nat→AV}{M:List Nat}(hrt:∀r∈M,rt' r=(rt r).map Yg):∀{ps:List (Nat×Operand)} {v:List (List D)} {L:List Nat} {k:Nat},BslL rt (ps.map fun p=>Bw sl p.2) v L→(∀r∈L,r∈M)→Xfj ps k=true→I1 rt' sl ps=some (XgA v k)
 |[],v,L,k,h,_,_=>by cases h;rfl
 |(i,x)::ps,v,L,k,h,hs,hi=>by
  simp only[Xfj,Bool.and_eq_true,beq_iff_eq]at hi
  obtain⟨rfl,hi⟩:=hi
  rw[List.map_cons]at h
  generalize hy:Bw sl x=y at h
  cases h with
  |d t=>
   have ih:=Zm hrt t hs hi
   simp only[I1,hy,AV.leaves,Option.bind_some,Xcp,AV.toD,Option.map_some,ih,XgA]
  | @ref r n sz xs _ _ L h hn t=>
    have ih:=Zm hrt t (fun q hq=>hs q (List.mem_cons_of_mem _ hq)) hi
    have h1:rt' r=some (.row sz true xs):=by rw[hrt r (hs r (by simp)),h];rfl
    subst hn
    simp only[I1,hy,AV.leaves,Option.bind_some,Xcp,AV.toD,Option.map_some,ih,XgA,h1,Nat.zero_add,Nat.le_refl,if_true,List.drop_zero,List.take_length]
inductive BslW (P:Program) (t:TypeId) (n:Nat) (l:List AV) (rt:Nat→Option Root) (K:List Nat→List (List D)→Prop):Prop
 |mk (z:List D×Nat×Nat) (L:List Nat) (v:List (List D)) (hz:ezT P t=some z) (h1:z.2.1=1) (hl:BslL rt l v L) (hn:l.length=n) (h24:n≤2^24) (hk:K L v):BslW P t n l rt K
section
variable {P:Program} {ops:Array Oper} {i nb:Nat} {o:Oper} {sl:Nat→AV} {rt:Nat→Option Root}
theorem OpSem.bslF{t n:Nat}{ps:Array (Nat×Operand)}{z:List D×Nat×Nat}{v:List (List D)}{L:List Nat}(ho:ops[i]? =some o)(hg:Ey ops o sl=some true)(hop:o.op= .buildSlice t n ps)(hix:Xfj ps.toList 0=true)(hz:ezT P t=some z)(h1:z.2.1=1)
  (hl:BslL rt (ps.toList.map fun p=>Bw sl p.2) v L)(hn:(ps.toList.map fun p=>Bw sl p.2).length=n)(h24:n≤2^24):
  OpSem P ops i (AV.idss (ps.toList.map fun p=>Bw sl p.2)) sl rt nb ⟨.ref nb 0 n,[.row 1 false v],Xa2 rt L⟩:=by
 refine⟨o,ho,?_⟩
 intro c E a hM hlk hT hnb hF K Q k
 unfold wpOp
 rw[ho]
 simp only[B8 hlk hg,if_true]
 obtain⟨hsl,hop0⟩:=F7 hlk
 have hops:∀p∈ps.toList,Bw sl p.2=Bw (fun t=>open Classical in if t∈o.looksAt ops then sl t else .junk) p.2:=by
  intro p hp
  refine hop0 p.2 ?_
  rw[hop]
  simp only[Op.operands]
  rw[List.mem_toArray]
  exact List.mem_map_of_mem hp
 have hrel:∀p∈ps.toList,RelAV E (Bw sl p.2) (a.eval p.2):=fun p hp=>by rw[hops p hp];exact A4 hsl p.2
 obtain⟨hvl,ab⟩:=hl.len
 have hrows:∀r∈L,Fu E r∧rt r=E.rt r:=by
  intro r hr
  obtain⟨g1,⟨m,g2⟩,sz,xs,g3⟩:=hl.rows r hr
  have he:E.rt r=rt r:=by
   rcases hT r g1 with h|h
   ·rw[h]at g3;cases g3
   ·exact h
  refine⟨?_,he.symm⟩
  obtain⟨p,hp,hpe⟩:=List.mem_map.1 g2
  have aa:=hrel p hp
  generalize hu:a.eval p.2=u at aa
  rw[hpe]at aa
  refine⟨?_,sz,false,xs,by rw[he];exact g3⟩
  cases aa with
  |ref _ _ _ _ _ _ _ _ _ _ _ h2=>exact h2
  |refz _ _ _ _ _ _ _ h2=>exact h2
  |dref _ _ _ _ h1 _=>rw[he,g3]at h1;cases h1
 have hM1:Mem c (E.lent L):=Oi hM fun r hr=>(hrows r hr).1
 have hnew:nb∉L:=by
  intro h
  have:=hF.np 0 (by simp)
  rw[Nat.add_zero]at this
  exact this (hrows nb h).1.1
 have hF1:Fresh c (E.lent L) nb [.row 1 false v]:=by
  refine⟨hF.m,?_,hF.np⟩
  intro q R hq
  have ac:q=0:=by
   have:=(List.getElem?_eq_some_iff.1 hq).1
   simpa using this
  subst ac
  show(if nb+0∈L then(E.rt (nb+0)).map Yg else E.rt (nb+0))=some R
  rw[Nat.add_zero,if_neg hnew]
  simpa using hF.rt 0 R hq
 have hpart:I1 (E.lent L).rt sl ps.toList=some (XgA v 0):=by
  refine Zm (rt:=rt) (M:=L) (fun r hr=>?_) hl (fun _ h=>h) hix
  show(if r∈L then(E.rt r).map Yg else E.rt r)=_
  rw[if_pos hr,(hrows r hr).2]
 obtain⟨hlen,hgp⟩:=Rv hpart
 have hcnt:v.length=n:=by rw[hvl];exact hn
 have hev:Hf nb z n (XgA v 0)=some (.ref nb 0 n,[.row 1 false v]):=by
  unfold Hf
  have hall:=XeO (n:=n) v 0 (by omega) ab
  have hset:=Xj (z:=z.1) v []
  simp only[List.length_nil,List.nil_append]at hset
  rw[h1,if_pos ⟨by omega,hall⟩,←hcnt,hset]
 have hy:=Kt (P:=P) (t:=t) (vs:=ps.map fun p=>(p.1,a.eval p.2)) hM1 hz (by simpa using hlen) (by
  intro q e hq
  obtain⟨p,ls,hp,hpq,g1,g2⟩:=hgp q e hq
  refine⟨a.eval p.2,?_,Sr hM1 (Ju ((hrel p (List.mem_of_getElem? hp)).step lent_step) g1) g2⟩
  rw[Array.getElem?_map]
  rw[Array.getElem?_toList]at hp
  simp[hp,hpq]) hev hF1
 obtain⟨val,E',hrun,q,hre⟩:=hy
 have hrun':(Instr.buildSlice t n (ps.map fun p=>(p.1,a.eval p.2))).run P E.w= .ok val E'.w:=hrun
 refine .inl (Done.wp (out:=⟨.ref nb 0 n,[.row 1 false v],Xa2 rt L⟩) ⟨val,E',.inl (by simp[execOp,hop,hrun']),⟨q.mem,lent_step.trans q.step,q.rt.trans (U3 L hrows).symm,q.pres,q.size,hre⟩⟩ k)
end
open Go
structure Fn (P:Program) (f:FuncId) (as0:List AV) (r0:List Root) (o:Out):Prop where
 ent:Gt P f
 ok:CallOk P f as0 r0 o
inductive IsCall (o:Oper) (st:St) (f:FuncId) (ys:List AV):Prop
 |mk (cl:Call) (x:Operand) (caps ys0:List AV) (hgd:o.guard=none) (hop:o.op= .call cl) (hc:cl.callee= .value x) (hx:Bw st.sl x= .clo f caps) (ha:ArgR st.sl cl.args.toList ys0) (e:ys0++caps=ys):IsCall o st f ys
inductive CallW (P:Program) (f:FuncId) (ys:List AV) (rt:List Root) (k:Out→List Nat→Prop):Prop
 |mk (h:∀(o:Oper) (st:St),st.rt=rt→IsCall o st f ys→ClW P o st k):CallW P f ys rt k
inductive LoopW (P:Program) (N:Nat) (body:Code) (Q:Exit→St→Prop) (st:St):Prop
 |mk (h:LpW P N body Q st):LoopW P N body Q st
def Ym(o:Oper):Option (Operand×Call):=
 match o.op with
 | .call c=>(match c.callee with| .value x=>some (x,c)|_=>none)
 |_=>none
inductive StrBW (s:ByteArray) (K:Nat→List (List D)→Prop):Prop|mk (n:Nat) (v:List (List D)) (hn:n=s.size) (hv:v=strRow s) (hk:K n v):StrBW s K
inductive AppBW (P:Program) (t e bytes len:Nat) (bs:List UInt8) (s:ByteArray) (K:Nat→List UInt8→Prop):Prop
 |mk (n:Nat) (v:List UInt8) (hu:P.underlying t=some (.slice e)) (hl:len=bs.length) (h48:(2*(bs.length+s.size)+1024)*bytes≤2^48) (h62:bs.length+s.size<2^62) (hn:n=bs.length+s.size) (hv:v=bs++s.data.toList) (hk:K n v):AppBW P t e bytes len bs s K
inductive AllAW (P:Program) (t:TypeId) (K:List (List D)→Prop):Prop|mk (n:Nat) (k:IntKind) (v:List (List D)) (hz:La P t=some (List.replicate n (.int k 0,0))) (hv:v=List.replicate n [.sc (.int k 0)]) (hk:K v):AllAW P t K
inductive AIdxW (P:Program) (t:TypeId) (j:Int) (K:Nat→Prop):Prop|mk (n e p:Nat) (hu:P.underlying t=some (.array n e)) (hs:szT P e=some 1) (h0:0≤j) (h1:j<(n:Int)) (hp:p=j.toNat) (hk:K p):AIdxW P t j K
inductive ASlcW (P:Program) (t:TypeId) (xs:List (List D)) (lo hi:Option Int) (K:Nat→Nat→Prop):Prop
 |mk (n e o m:Nat) (hu:P.underlying t=some (.array n e)) (hs:szT P e=some 1) (hn:xs.length=n) (h0:0≤lo.getD 0) (h1:lo.getD 0≤hi.getD (n:Int)) (h2:hi.getD (n:Int)≤(n:Int)) (ho:o=(lo.getD 0).toNat) (hm:m=(hi.getD (n:Int)).toNat - (lo.getD 0).toNat) (hk:K o m):ASlcW P t xs lo hi K
inductive AClrW (P:Program) (t sz:Nat) (xs:List (List D)) (off len:Nat) (K:List (List D)→Prop):Prop
 |mk (e:Nat) (zz:List (Value×Nat)) (zs:List Value) (v:List (List D)) (hu:P.underlying t=some (.slice e)) (hz:La P e=some zz) (hzs:zz.map (·.1)=zs) (h0:0<zs.length) (hsz:sz=zs.length) (hn:off+len≤xs.length) (hv:v=H6 xs off len (zs.map D.sc)) (hk:K v):AClrW P t sz xs off len K
inductive MapGW (P:Program) (t:TypeId) (ks:List Int) (n:Int) (K:Bool→Prop):Prop
 |mk (kt et:TypeId) (v:Bool) (hu:P.underlying t=some (.map kt et)) (hkt:P.underlying kt=some (.int .i64)) (hz:La P et=some [(.bool false,0)]) (hz2:(P.info? et).bind (·.zero)=some (.bool false)) (hv:v=decide (n∈ks)) (hk:K v):MapGW P t ks n K
inductive MapSW (P:Program) (t:TypeId) (ks:List Int) (n:Int) (K:List Int→Prop):Prop
 |mk (kt et:TypeId) (v:List Int) (hu:P.underlying t=some (.map kt et)) (hkt:P.underlying kt=some (.int .i64)) (hv:v=Vn ks n) (hk:K v):MapSW P t ks n K
inductive Sp where
 |no
 |mapN (t:Nat)
 |bslF (t n:Nat) (l:List AV)
 |mapG (t r:Nat) (ks:List Int) (n:Int)
 |mapS (t r:Nat) (ks:List Int) (n:Int)
 |clrA (t r sz:Nat) (xs:List (List D)) (off len:Nat)
 |allocA (t:Nat)
 |idxA (t r:Nat) (xs:List (List D)) (j:Int)
 |slcA (t r:Nat) (xs:List (List D)) (lo hi:Option Int)
 |strB (s:ByteArray)
 |appB (t r len e bytes:Nat) (bs:List UInt8) (s:ByteArray)
def Wm(tab:List (Nat×TyRow))(o:Oper)(st:St):Sp:=
 match o.op with
 | .convert s d x=>(match Bw st.sl x with
   | .d (.sc (.string str))=>(match Cu tab s,Cu tab d with
     |some S,some D=>(match G0 S.sk,D.bsl with
      |true,true=>.strB str
      |_,_=>.no)
     |_,_=>.no)
   |_=>.no)
 | .call cl=>(match cl.callee,cl.args.toList,cl.argTypes.toList with
   | .builtin .append,[x,y],[t,xT]=>(match Bw st.sl x with
     | .ref r 0 len=>(match st.look r with
       |some (.buf e false bs)=>(match Bw st.sl y with
        | .d (.sc (.string s))=>(match Cu tab t,Cu tab xT with
          |some R,some X=>(match R.el,R.ez,G0 X.sk with
           |some (1,bytes),some _,true=>.appB t r len e bytes bs s
           |_,_,_=>.no)
          |_,_=>.no)
        |_=>.no)
       |_=>.no)
     |_=>.no)
   | .builtin .clear,[x],[t]=>(match Bw st.sl x with
     | .ref r off len=>(match st.look r with
       |some (.row sz false xs)=>.clrA t r sz xs off len
       |_=>.no)
     |_=>.no)
   |_,_,_=>.no)
 | .alloc t=>(match Cu tab t with
   |none=>.allocA t
   |some _=>.no)
 | .indexAddr t x i=>(match Cu tab t with
   |none=>(match Bw st.sl x,Bw st.sl i with
    | .ptr r 0 0,.d (.sc (.int _ j))=>(match st.look r with
      |some (.row 1 _ xs)=>.idxA t r xs j
      |_=>.no)
    |_,_=>.no)
   |some _=>.no)
 | .slice t x lo hi none=>(match Cu tab t with
   |none=>(match Bw st.sl x,G2 st.sl lo,G2 st.sl hi with
    | .ptr r 0 0,some l,some h=>(match st.look r with
      |some (.row 1 _ xs)=>.slcA t r xs l h
      |_=>.no)
    |_,_,_=>.no)
   |some _=>.no)
 | .makeMap t none=>.mapN t
 | .lookup t x y false=>(match Bw st.sl x,Bw st.sl y with
   | .ptr r 0 0,.d (.sc (.int .i64 n))=>(match st.look r with
     |some (.map ks)=>.mapG t r ks n
     |_=>.no)
   |_,_=>.no)
 | .mapUpdate t x y z=>(match Bw st.sl x,Bw st.sl y,Bw st.sl z with
   | .ptr r 0 0,.d (.sc (.int .i64 n)),.d (.sc (.bool true))=>(match st.look r with
     |some (.map ks)=>.mapS t r ks n
     |_=>.no)
   |_,_,_=>.no)
 | .buildSlice t n ps=>(match Cu tab t,Xfj ps.toList 0 with
   |none,true=>.bslF t n (ps.toList.map fun p=>Bw st.sl p.2)
   |_,_=>.no)
 |_=>.no
def Xkp(tab:List (Nat×TyRow))(sl:Nat→AV)(m:Option TyRow)(c:Call):List AV:=
 match m with
 |some _=>c.args.toList.map (Bw sl)
 |none=>Xiq tab sl c.args.toList c.argTypes.toList
def Xfl(P:Program)(tab:List (Nat×TyRow))(o:Oper)(st:St)(k:Out→List Nat→Prop):Prop:=
 match Ym o with
 |some (x,c)=>(match Bw st.sl x with
  | .clo f caps=>CallW P f (Xkp tab st.sl (Cu tab (4000000+f)) c++caps) st.rt k
  |_=>False)
 |none=>(match Wm tab o st with
  | .strB s=>StrBW s fun n v=>k ⟨.ref st.rt.length 0 n,[.row 1 false v],[]⟩ []
  | .appB t r len e bytes bs s=>AppBW P t e bytes len bs s fun n v=>k ⟨.ref st.rt.length 0 n,[.buf e false v],[(r,.dead)]⟩ [r]
  | .clrA t r sz xs off len=>AClrW P t sz xs off len fun v=>k ⟨.junk,[],[(r,.row sz false v)]⟩ [r]
  | .allocA t=>AllAW P t fun v=>k ⟨.ptr st.rt.length 0 0,[.row 1 false v],[]⟩ []
  | .idxA t r _ j=>AIdxW P t j fun p=>k ⟨.ptr r p 0,[],[]⟩ [r]
  | .slcA t r xs lo hi=>ASlcW P t xs lo hi fun o n=>k ⟨.ref r o n,[],[]⟩ [r]
  | .bslF t n l=>BslW P t n l st.look fun L v=>k ⟨.ref st.rt.length 0 n,[.row 1 false v],Xa2 st.look L⟩ (AV.idss l)
  | .mapN _=>k ⟨.ptr st.rt.length 0 0,[.map []],[]⟩ []
  | .mapG t r ks n=>MapGW P t ks n fun v=>k ⟨.d (.sc (.bool v)),[],[]⟩ [r]
  | .mapS t r ks n=>MapSW P t ks n fun v=>k ⟨.junk,[],[(r,.map v)]⟩ [r]
  | .no=>sv tab st.rt.length st.sl st.look o fun out=>(match out.g.all (fun p=>Nat.blt p.1 (st.rt.length+out.new.length))with
    |true=>k out (Op.touched st.sl o.op)
    |false=>False))
def Xh3(ds:List (Option Tmp))(o:Oper)(sl:Nat→AV):GV:=
 match o.guard with
 |none=>.yes
 |some (g,w)=>match ds[g]? with
  |some (some t)=>(match sl t with| .d (.sc (.bool b))=>.test t b w| .tup []=>.no|_=>.bad)
  |_=>.bad
theorem Xhz{ops:Array Oper}{o:Oper}{sl:Nat→AV}:Xh3 (ops.toList.map (·.dst)) o sl=Sy ops o sl:=by
 unfold Xh3 Sy
 cases o.guard with
 |none=>rfl
 |some p=>
  obtain⟨g,w⟩:=p
  simp only[List.getElem?_map,Array.getElem?_toList]
  cases h:ops[g]? with
  |none=>rfl
  |some og=>
   simp only[Option.map_some]
   cases og.dst<;>rfl
def XcU(P:Program)(tab:List (Nat×TyRow))(ds:List (Option Tmp)):List Oper→St→List Eff→(List Eff→St→Prop)→Prop
 |[],st,acc,K=>K acc st
 |o::l,st,acc,K=>
  match Xh3 ds o st.sl with
  | .yes=>Xfl P tab o st fun out T=>XcU P tab ds l (st.put o.dst out) (acc++[⟨out.g.map (·.1),out.new.length,T⟩]) K
  | .test t b true=>br b (fun _=>Xfl P tab o ⟨Xap st.sl t (.d (.sc (.bool true))),st.rt⟩ fun out T=>XcU P tab ds l (St.put ⟨Xap st.sl t (.d (.sc (.bool true))),st.rt⟩ o.dst out) (acc++[⟨out.g.map (·.1),out.new.length,T⟩]) K)
    (fun _=>XcU P tab ds l (St.put ⟨Xap st.sl t (.d (.sc (.bool false))),st.rt⟩ o.dst ⟨.tup [],[],[]⟩) (acc++[⟨[],0,[]⟩]) K)
  | .test t b false=>br b (fun _=>XcU P tab ds l (St.put ⟨Xap st.sl t (.d (.sc (.bool true))),st.rt⟩ o.dst ⟨.tup [],[],[]⟩) (acc++[⟨[],0,[]⟩]) K)
    (fun _=>Xfl P tab o ⟨Xap st.sl t (.d (.sc (.bool false))),st.rt⟩ fun out T=>XcU P tab ds l (St.put ⟨Xap st.sl t (.d (.sc (.bool false))),st.rt⟩ o.dst out) (acc++[⟨out.g.map (·.1),out.new.length,T⟩]) K)
  | .no=>XcU P tab ds l (st.put o.dst ⟨.tup [],[],[]⟩) (acc++[⟨[],0,[]⟩]) K
  | .bad=>False
def wReg(P:Program)(tab:List (Nat×TyRow))(N:Nat)(ops:Array Oper)(draw:Bool)(st:St)(K:St→Prop):Prop:=
 match draw with
 |false=>XcU P tab (ops.toList.map (·.dst)) ops.toList st [] fun _ st'=>ifB true fun _=>K st'
 |true=>XcU P tab (ops.toList.map (·.dst)) ops.toList st [] fun effs st'=>ifB (Ot ops N st.rt.length effs) fun _=>K st'
structure DrawW (f:Unit→Bool) (K:Unit→Prop):Prop where
 h:f ()=true
 k:K ()
def XkV(P:Program)(tab:List (Nat×TyRow))(N:Nat)(ops:Array Oper)(draw:Bool)(st:St)(K:St→Prop):Prop:=
 match draw with
 |false=>XcU P tab (ops.toList.map (·.dst)) ops.toList st [] fun _ st'=>ifB true fun _=>K st'
 |true=>XcU P tab (ops.toList.map (·.dst)) ops.toList st [] fun effs st'=>DrawW (fun _=>Ot ops N st.rt.length effs) fun _=>K st'
def XlD(tab:List (Nat×TyRow))(n:Nat):Bool:=match Cu tab n with|some _=>true|none=>false
structure JoinW (P:Program) (N:Nat) (a b:Code) (Q:Exit→St→Prop) (st:St):Prop where
 h:AW P N (.seq a b) Q st
def Xg1:Code→Nat
 | .cond (.tmp t) _ _=>1000000+t
 | .seq _ b=>Xg1 b
 | .block id _=>2000000+id
 |_=>0
def joinB(tab:List (Nat×TyRow))(a:Code):Bool:=match Xg1 a with
 |0=>false
 |k=>XlD tab k
def wc(P:Program)(tab:List (Nat×TyRow))(N:Nat):Code→(Exit→St→Prop)→St→Prop
 | .skip,Q,st=>Q .normal st
 | .ret,Q,st=>Q .ret st
 | .exit id,Q,st=>Q (.exit id) st
 | .label _,Q,st=>Q .normal st
 | .seq a b,Q,st=>(match joinB tab a with
   |true=>JoinW P N a b Q st
   |false=>wc P tab N a (Exit.thenQ (fun st'=>wc P tab N b Q st') Q) st)
 | .cond x t e,Q,st=>(match Bw st.sl x with
   | .d (.sc (.bool b))=>br b (fun _=>wc P tab N t Q (st.known x true)) (fun _=>wc P tab N e Q (st.known x false))
   | .anyb p=>anyB p (fun _=>wc P tab N t Q st) (fun _=>wc P tab N e Q st)
   |_=>False)
 | .block id b,Q,st=>wc P tab N b (Exit.blockQ id Q) st
 | .loop b,Q,st=>LoopW P N b Q st
 | .region id ops draw,Q,st=>ifB (ops.toList.all (Xcx N)) fun _=>(match XlD tab (3000000+id)with
   |true=>XkV P tab N ops draw st fun st'=>ifB true fun _=>Q .normal st'
   |false=>wReg P tab N ops draw st fun st'=>ifB true fun _=>Q .normal st')
 |_,_,_=>False
section
variable {P:Program} {N:Nat} {tab:List (Nat×TyRow)} {Q:Exit→St→Prop}
theorem Od{sl:Nat→AV}:∀{xs:List Operand} {ts:List TypeId},ArgR sl xs (Xiq tab sl xs ts)
 |[],_=>.nil
 |x::xs,[]=>.cons rfl Od
 |x::xs,t::ts=>by
  simp only[Xiq]
  split
  ·rename_i h
   unfold O5 at h
   split at h
   ·exact .nilS Od
   ·cases h
  ·exact .cons rfl Od
theorem Xaj{o:Oper}{x:Operand}{c:Call}(h:Ym o=some (x,c)):o.op= .call c∧c.callee= .value x:=by
 unfold Ym at h
 split at h
 ·rename_i c' hc
  split at h
  ·rename_i x' hx
   simp only[Option.some.injEq,Prod.mk.injEq]at h
   obtain⟨rfl,rfl⟩:=h
   exact⟨hc,hx⟩
  ·cases h
 ·cases h
theorem Xew{sl:Nat→AV}:∀{xs:List Operand},ArgR sl xs (xs.map (Bw sl))
 |[]=>.nil
 |_::_=>.cons rfl Xew
theorem Xf9{sl:Nat→AV}{m:Option TyRow}{c:Call}:ArgR sl c.args.toList (Xkp tab sl m c):=by
 unfold Xkp
 split
 ·exact Xew
 ·exact Od
theorem Xip{o:Oper}{st:St}{s:ByteArray}(hT:Bl P tab)(h:Wm tab o st= .strB s):∃a d x e,o.op= .convert a d x∧Bw st.sl x= .d (.sc (.string s))∧P.underlying a=some .string∧P.underlying d=some (.slice e)∧P.underlying e=some (.int .u8):=by
 unfold Wm at h
 split at h
 ·rename_i a d x hop
  split at h
  ·rename_i str hx
   split at h
   ·rename_i S D hS hD
    split at h
    ·rename_i h1 h2
     obtain rfl:=hT _ _ hS
     obtain rfl:=hT _ _ hD
     simp only[Sp.strB.injEq]at h
     subst h
     have h1':G0 (Tk P a)=true:=h1
     have h2':Cr P d=true:=h2
     have ha:P.underlying a=some .string:=by
      unfold Tk at h1'
      split at h1'<;>first|assumption|(simp[G0]at h1')
     unfold Cr at h2'
     split at h2'
     ·rename_i e he
      split at h2'
      ·rename_i aa
       exact⟨a,d,x,e,hop,hx,ha,he,aa⟩
      ·cases h2'
     ·cases h2'
    ·cases h
   ·cases h
  ·cases h
 all_goals (repeat' (split at h))
 all_goals cases h
theorem XgS{o:Oper}{st:St}{t r len e bytes:Nat}{bs:List UInt8}{s:ByteArray}(hT:Bl P tab)(h:Wm tab o st= .appB t r len e bytes bs s):
  ∃cl x y xT,o.op= .call cl∧cl.callee= .builtin .append∧cl.args= #[x,y]∧cl.argTypes= #[t,xT]∧Bw st.sl x= .ref r 0 len∧Bw st.sl y= .d (.sc (.string s))∧P.underlying xT=some .string∧(ezT P t).isSome=true∧elT P t=some (1,bytes)∧st.look r=some (.buf e false bs):=by
 unfold Wm at h
 split at h
 ·repeat' (split at h)
  all_goals cases h
 ·rename_i cl hop
  split at h
  ·rename_i x y t' xT hc ha ht
   split at h
   ·rename_i r' len' hx
    split at h
    ·rename_i e' bs' hr
     split at h
     ·rename_i s' hy
      split at h
      ·rename_i R X hR hX
       split at h
       ·rename_i b' z h1 h2 h3
        obtain rfl:=hT _ _ hR
        obtain rfl:=hT _ _ hX
        simp only[Sp.appB.injEq]at h
        obtain⟨rfl,rfl,rfl,rfl,rfl,rfl,rfl⟩:=h
        have h3':G0 (Tk P xT)=true:=h3
        have hxT:P.underlying xT=some .string:=by
         unfold Tk at h3'
         split at h3'<;>first|assumption|(simp[G0]at h3')
        have h2':ezT P t'=some z:=h2
        exact⟨cl,x,y,xT,hop,hc,by rw[←ha],by rw[←ht],hx,hy,hxT,by rw[h2'];rfl,h1,hr⟩
       ·cases h
      ·cases h
     ·cases h
    ·cases h
   ·cases h
  all_goals (repeat' (split at h))
  all_goals cases h
 all_goals (repeat' (split at h))
 all_goals cases h
theorem Xdc{o:Oper}{st:St}{t:Nat}(h:Wm tab o st= .allocA t):o.op= .alloc t:=by
 unfold Wm at h
 split at h
 case h_3 t' hop=>
  split at h
  ·cases h;exact hop
  ·cases h
 all_goals (repeat' (split at h))
 all_goals cases h
theorem Xgx{o:Oper}{st:St}{t r:Nat}{xs:List (List D)}{j:Int}(h:Wm tab o st= .idxA t r xs j):∃x y k fz,o.op= .indexAddr t x y∧Bw st.sl x= .ptr r 0 0∧Bw st.sl y= .d (.sc (.int k j))∧st.look r=some (.row 1 fz xs):=by
 unfold Wm at h
 split at h
 case h_4 t' x y hop=>
  split at h
  ·split at h
   ·rename_i r' k j' hx hy
    split at h
    ·rename_i fz xs' hr
     cases h
     exact⟨x,y,k,fz,hop,hx,hy,hr⟩
    ·cases h
   ·cases h
  ·cases h
 all_goals (repeat' (split at h))
 all_goals cases h
theorem XgF{o:Oper}{st:St}{t r:Nat}{xs:List (List D)}{lo hi:Option Int}(h:Wm tab o st= .slcA t r xs lo hi):∃x xlo xhi fz,o.op= .slice t x xlo xhi none∧Bw st.sl x= .ptr r 0 0∧G2 st.sl xlo=some lo∧G2 st.sl xhi=some hi∧st.look r=some (.row 1 fz xs):=by
 unfold Wm at h
 split at h
 case h_5 t' x xlo xhi hop=>
  split at h
  ·split at h
   ·rename_i r' l hh hx hl hh'
    split at h
    ·rename_i fz xs' hr
     cases h
     exact⟨x,xlo,xhi,fz,hop,hx,hl,hh',hr⟩
    ·cases h
   ·cases h
  ·cases h
 all_goals (repeat' (split at h))
 all_goals cases h
theorem Xhq{o:Oper}{st:St}{t r sz off len:Nat}{xs:List (List D)}(h:Wm tab o st= .clrA t r sz xs off len):∃cl x,o.op= .call cl∧cl.callee= .builtin .clear∧cl.args= #[x]∧cl.argTypes= #[t]∧Bw st.sl x= .ref r off len∧st.look r=some (.row sz false xs):=by
 unfold Wm at h
 split at h
 case h_2 cl hop=>
  split at h
  ·repeat' (split at h)
   all_goals cases h
  ·rename_i x t' hc ha ht
   split at h
   ·rename_i r' off' len' hx
    split at h
    ·rename_i sz' xs' hr
     cases h
     exact⟨cl,x,hop,hc,Array.toList_inj.1 (by rw[ha]),Array.toList_inj.1 (by rw[ht]),hx,hr⟩
    ·cases h
   ·cases h
  ·cases h
 all_goals (repeat' (split at h))
 all_goals cases h
theorem XgH{o:Oper}{st:St}{t:Nat}(h:Wm tab o st= .mapN t):o.op= .makeMap t none:=by
 unfold Wm at h
 split at h
 case h_6 t' hop=>cases h;exact hop
 all_goals (repeat' (split at h))
 all_goals cases h
theorem Xic{o:Oper}{st:St}{t r:Nat}{ks:List Int}{n:Int}(h:Wm tab o st= .mapG t r ks n):∃x y,o.op= .lookup t x y false∧Bw st.sl x= .ptr r 0 0∧Bw st.sl y= .d (.sc (.int .i64 n))∧st.look r=some (.map ks):=by
 unfold Wm at h
 split at h
 case h_7 t' x y hop=>
  split at h
  ·rename_i hx hy
   split at h
   ·rename_i hr
    cases h
    exact⟨x,y,hop,hx,hy,hr⟩
   ·cases h
  ·cases h
 all_goals (repeat' (split at h))
 all_goals cases h
theorem Xgp{o:Oper}{st:St}{t r:Nat}{ks:List Int}{n:Int}(h:Wm tab o st= .mapS t r ks n):∃x y z,o.op= .mapUpdate t x y z∧Bw st.sl x= .ptr r 0 0∧Bw st.sl y= .d (.sc (.int .i64 n))∧Bw st.sl z= .d (.sc (.bool true))∧st.look r=some (.map ks):=by
 unfold Wm at h
 split at h
 case h_8 t' x y z hop=>
  split at h
  ·rename_i hx hy hz
   split at h
   ·rename_i hr
    cases h
    exact⟨x,y,z,hop,hx,hy,hz,hr⟩
   ·cases h
  ·cases h
 all_goals (repeat' (split at h))
 all_goals cases h
theorem Xgl{o:Oper}{st:St}{t n:Nat}{l:List AV}(h:Wm tab o st= .bslF t n l):∃ps,o.op= .buildSlice t n ps∧Xfj ps.toList 0=true∧l=ps.toList.map fun p=>Bw st.sl p.2:=by
 unfold Wm at h
 split at h
 case h_9 t' n' ps hop=>
  split at h
  ·rename_i hx hy
   cases h
   exact⟨ps,hop,hy,rfl⟩
  ·cases h
 all_goals (repeat' (split at h))
 all_goals cases h
theorem Xjs(hT:Bl P tab){ops:Array Oper}{i:Nat}{o:Oper}{st:St}{acc:List Eff}{K:List Eff→St→Prop}{k:Out→List Nat→Prop}(h:Xfl P tab o st k)(ho:ops[i]? =some o)(hd:Xcx N o=true)(hg:Ey ops o st.sl=some true)
  (hk:∀out T,k out T→RW P N ops (i+1) (st.put o.dst out) (acc++[⟨out.g.map (·.1),out.new.length,T⟩]) K):RW P N ops i st acc K:=by
 unfold Xfl at h
 split at h
 ·rename_i x c hc
  obtain⟨h1,h2⟩:=Xaj hc
  split at h
  ·rename_i f caps hx
   obtain⟨h⟩:=h
   obtain⟨out,T,h1,h2,h3⟩:=h (XlO o) st rfl ⟨c,x,caps,_,rfl,h1,h2,hx,Xf9,rfl⟩
   exact RW.cons ho (Eb hd) (h1.at ho hg) h2 (hk out T h3)
  ·exact h.elim
 ·split at h
  ·rename_i s hsp
   obtain⟨a,d,x,e,hop,hx,ha,hd',he⟩:=Xip hT hsp
   obtain⟨n,v,rfl,rfl,h⟩:=h
   exact RW.cons ho (Eb hd) (OpSem.strB ho hg hop hx ha hd' he) (by simp) (hk _ _ h)
  ·rename_i t r len e bytes bs s hsp
   obtain⟨cl,x,y,xT,hop,hc,ha,ht,hx,hy,hxT,hz,hel,hr⟩:=XgS hT hsp
   obtain⟨n,v,hu,hl,h48,h62,rfl,rfl,h⟩:=h
   refine RW.cons ho (Eb hd) (OpSem.appB ho hg hop hc ha ht hx hy hxT hz hel hu hr hl h48 h62) ?_ (hk _ _ h)
   intro p hp
   have:p=(r,Root.dead):=by simpa using hp
   subst this
   have hlt:r<st.rt.length:=(List.getElem?_eq_some_iff.1 (show st.rt[r]? =some _ from hr)).1
   show r<_
   omega
  ·rename_i t r sz xs off len hsp
   obtain⟨cl,x,hop,hc,ha,ht,hx,hr⟩:=Xhq hsp
   obtain⟨e,zz,zs,v,hu,hz,hzs,h0,rfl,hn,rfl,h⟩:=h
   refine RW.cons ho (Eb hd) (OpSem.clrR ho hg hop hc ha ht hx hu hz hzs h0 hr hn) ?_ (hk _ _ h)
   intro p hp
   have:p=(r,Root.row zs.length false (H6 xs off len (zs.map D.sc))):=by simpa using hp
   subst this
   have hlt:r<st.rt.length:=(List.getElem?_eq_some_iff.1 (show st.rt[r]? =some _ from hr)).1
   show r<_
   omega
  ·rename_i t hsp
   obtain⟨n,k',v,hz,rfl,h⟩:=h
   exact RW.cons ho (Eb hd) (OpSem.allocA ho hg (Xdc hsp) hz) (by simp) (hk _ _ h)
  ·rename_i t r xs j hsp
   obtain⟨x,y,k',fz,hop,hx,hy,hr⟩:=Xgx hsp
   obtain⟨n,e,p,hu,hs,h0,h1,rfl,h⟩:=h
   exact RW.cons ho (Eb hd) (OpSem.idxA ho hg hop hx hy hu hs hr h0 h1) (by simp) (hk _ _ h)
  ·rename_i t r xs lo hi hsp
   obtain⟨x,xlo,xhi,fz,hop,hx,hlo,hhi,hr⟩:=XgF hsp
   obtain⟨n,e,o',m,hu,hs,hn,h0,h1,h2,rfl,rfl,h⟩:=h
   exact RW.cons ho (Eb hd) (OpSem.slcA ho hg hop hx hlo hhi hu hs hr hn h0 h1 h2) (by simp) (hk _ _ h)
  ·rename_i t n l hsp
   obtain⟨ps,hop,hix,rfl⟩:=Xgl hsp
   obtain⟨z,L,v,hz,h1,hl,hn,h24,h⟩:=h
   refine RW.cons ho (Eb hd) (OpSem.bslF ho hg hop hix hz h1 hl hn h24) ?_ (hk _ _ h)
   intro p hp
   obtain⟨r,hr,rfl⟩:=List.mem_map.1 hp
   obtain⟨_,_,sz,xs,h3⟩:=hl.rows r hr
   have hlt:r<st.rt.length:=(List.getElem?_eq_some_iff.1 (show st.rt[r]? =some _ from h3)).1
   show r<_
   omega
  ·rename_i t hsp
   exact RW.cons ho (Eb hd) (OpSem.mapN ho hg (XgH hsp)) (by simp) (hk _ _ h)
  ·rename_i t r ks n hsp
   obtain⟨x,y,hop,hx,hy,hr⟩:=Xic hsp
   obtain⟨kt,et,v,hu,hkt,hz,aa,rfl,h⟩:=h
   exact RW.cons ho (Eb hd) (OpSem.mapG ho hg hop hx hy hu hkt hz aa hr) (by simp) (hk _ _ h)
  ·rename_i t r ks n hsp
   obtain⟨x,y,z,hop,hx,hy,hz,hr⟩:=Xgp hsp
   obtain⟨kt,et,v,hu,hkt,rfl,h⟩:=h
   refine RW.cons ho (Eb hd) (OpSem.mapS ho hg hop hx hy hz hu hkt hr) ?_ (hk _ _ h)
   intro p hp
   have:p=(r,Root.map (Vn ks n)):=by simpa using hp
   subst this
   have hlt:r<st.rt.length:=(List.getElem?_eq_some_iff.1 (show st.rt[r]? =some _ from hr)).1
   show r<_
   omega
  ·obtain⟨out,hev,h⟩:=sv_ok hT h
   split at h
   ·rename_i hall
    refine RW.cons ho (Eb hd) (OpSem.ev ho hg hev) ?_ (hk out _ h)
    intro p hp
    simpa[Nat.blt_eq]using List.all_eq_true.1 hall p hp
   ·exact h.elim
theorem Xct(hT:Bl P tab){ops:Array Oper}{K:List Eff→St→Prop}:∀{l:List Oper} {i:Nat} {st:St} {acc:List Eff},(∀(k:Nat) o,l[k]? =some o→ops[i+k]? =some o∧Xcx N o=true)→i+l.length=ops.size→XcU P tab (ops.toList.map (·.dst)) l st acc K→RW P N ops i st acc K
 |[],i,st,acc,_,hn,h=>RW.done (by simpa using hn) h
 |o::l,i,st,acc,hl,hn,h=>by
  obtain⟨ho,hd⟩:=hl 0 o rfl
  simp only[Nat.add_zero]at ho
  have hl':∀(k:Nat) o,l[k]? =some o→ops[i+1+k]? =some o∧Xcx N o=true:=by
   intro k' o' h'
   have:=hl (k'+1) o' (by simpa using h')
   rwa[show i+(k'+1)=i+1+k' by omega]at this
  have hn':i+1+l.length=ops.size:=by simp at hn;omega
  have skip:∀{st:St},Ey ops o st.sl=some false→XcU P tab (ops.toList.map (·.dst)) l (st.put o.dst ⟨.tup [],[],[]⟩) (acc++[⟨[],0,[]⟩]) K→RW P N ops i st acc K:=
   fun hg hk=>RW.cons ho (Eb hd) (OpSem.skip ho hg) (by simp) (Xct hT hl' hn' hk)
  have step:∀{st:St},Ey ops o st.sl=some true→Xfl P tab o st (fun out T=>XcU P tab (ops.toList.map (·.dst)) l (st.put o.dst out) (acc++[⟨out.g.map (·.1),out.new.length,T⟩]) K)→RW P N ops i st acc K:=
   fun hg hk=>Xjs hT hk ho hd hg (fun out T hk=>Xct hT hl' hn' hk)
  simp only[XcU,Xhz]at h
  split at h
  ·rename_i hg
   exact step (XfZ hg) h
  ·rename_i t b hg
   obtain⟨h1,h2⟩:=Ul hg
   cases b with
   |true=>
    simp only[br]at h
    rw[Nw h1]at h
    exact step h2 h
   |false=>
    simp only[br]at h
    rw[Nw h1]at h
    exact skip h2 h
  ·rename_i t b hg
   obtain⟨h1,h2⟩:=Ul hg
   cases b with
   |true=>
    simp only[br]at h
    rw[Nw h1]at h
    exact skip h2 h
   |false=>
    simp only[br]at h
    rw[Nw h1]at h
    exact step h2 h
  ·rename_i hg
   exact skip (Xh5 hg) h
  ·exact h.elim
theorem XhP(hT:Bl P tab)(hm:P.follows .mixedOrders=true):∀{code:Code} {Q:Exit→St→Prop} {st:St},wc P tab N code Q st→AW P N code Q st:=by
 intro code
 induction code with
 |skip=>intro Q st h;exact AW.skip h
 |ret=>intro Q st h;exact AW.ret h
 |exit id=>intro Q st h;exact AW.exit h
 |label l=>intro Q st h;exact AW.label h
 |seq a b iha ihb=>
  intro Q st h
  unfold wc at h
  split at h
  ·exact h.h
  refine AW.seq ((iha h).mono ?_)
  intro e st' he
  cases e with
  |normal=>exact ihb he
  |_=>exact he
 |cond x t e iht ihe=>
  intro Q st h
  simp only[wc]at h
  split at h
  ·rename_i b hx
   refine AW.cond hx ?_ ?_
   ·rintro rfl
    have h':=iht h
    rwa[Xa hx]at h'
   ·rintro rfl
    have h':=ihe h
    rwa[Xa hx]at h'
  ·rename_i p hx
   exact AW.condAny hx (fun hb=>iht (h.1 hb)) (ihe h.2)
  ·exact h.elim
 |block id b ih=>intro Q st h;exact AW.block (ih h)
 |loop b ih=>intro Q st h;obtain⟨⟨h⟩⟩:=h;exact h
 |region id ops draw=>
  intro Q st h
  have key:ops.toList.all (Xcx N)=true∧XcU P tab (ops.toList.map (·.dst)) ops.toList st [] (fun effs st'=>(draw=true→Ot ops N st.rt.length effs=true)∧Q .normal st'):=by
   cases draw with
   |false=>
    simp only[wc,wReg,XkV,ifB]at h
    split at h
    ·rename_i hd
     refine⟨hd,?_⟩
     split at h
     ·simpa using h
     ·simpa using h
    ·exact h.elim
   |true=>
    simp only[wc,wReg,XkV,ifB]at h
    split at h
    ·rename_i hd
     refine⟨hd,?_⟩
     split at h
     ·have e:(fun effs st'=>DrawW (fun _=>Ot ops N st.rt.length effs) fun _=>Q .normal st')=(fun effs st'=>((true=true→Ot ops N st.rt.length effs=true)∧Q .normal st')):=by
       funext effs st'
       exact propext ⟨fun q=>⟨fun _=>q.h,q.k⟩,fun q=>⟨q.1 rfl,q.2⟩⟩
      rw[←e]
      exact h
     have e:(fun effs st'=>(match Ot ops N st.rt.length effs with|true=>Q .normal st'|false=>False))=(fun effs st'=>((true=true→Ot ops N st.rt.length effs=true)∧Q .normal st')):=by
      funext effs st'
      cases Ot ops N st.rt.length effs<;>simp
     rw[←e]
     exact h
    ·exact h.elim
  obtain⟨hd,h⟩:=key
  refine AW.reg' ?_
  have hK:=Xct (N:=N) hT (l:=ops.toList) (i:=0) (fun k o hk=>⟨by simpa using hk,List.all_eq_true.1 hd o (List.mem_of_getElem? hk)⟩) (by simp) h
  obtain⟨l,st',hw,hb,hk⟩:=hK
  exact⟨l,st',hw,fun hdr=>⟨hm,hb hdr⟩,hk⟩
 |_=>intro Q st h;exact h.elim
theorem Fn.data{f:FuncId}{fn:Func}{body:Code}{as0:List AV}{av:AV}(he:Gt P f)(hT:Bl P tab)(hm:P.follows .mixedOrders=true)(hf:P.funcs[f]? =some fn)(hb:fn.body=some body)(hN:as0.length≤fn.ntmps)
  (hwa:AV.rens (Gu 0) as0=some as0)(h:∀P',P'=P→∀Q:Exit→St→Prop,(∀e st,EndD P fn.results av e st→Q e st)→wc P' tab fn.ntmps body Q ⟨N7 as0,[]⟩):Fn P f as0 [] ⟨av,[],[]⟩:=
 ⟨he,CallOk.of_bodyD hf hb hN hwa (XhP hT hm (h P rfl _ fun _ _ h=>h))⟩
theorem Fn.gen{f:FuncId}{fn:Func}{body:Code}{as0:List AV}{r0:List Root}{o:Out}(he:Gt P f)(hT:Bl P tab)(hm:P.follows .mixedOrders=true)(hf:P.funcs[f]? =some fn)(hb:fn.body=some body)(hN:as0.length≤fn.ntmps)
  (hwa:AV.rens (Gu r0.length) as0=some as0)(hwr:E4 (Gu r0.length) r0=some r0)(h:∀P',P'=P→∀Q:Exit→St→Prop,(∀e st,EndQ P fn.results r0 o e st→Q e st)→wc P' tab fn.ntmps body Q ⟨N7 as0,r0⟩):Fn P f as0 r0 o:=
 ⟨he,CallOk.of_body hf hb hN hwa hwr (XhP hT hm (h P rfl _ fun _ _ h=>h))⟩
end
section
variable {P P':Program} {f:FuncId} {ys as0:List AV} {rt:List Root} {K:Out→List Nat→Prop}
theorem CallW.dd{av:AV}(hP:P'=P)(h:Fn P f ys [] ⟨av,[],[]⟩)(k:K ⟨av,[],[]⟩ [])(hd:AV.isDs ys=true:=by rfl)(hav:av.isDT=true:=by rfl):CallW P' f ys rt K:=by
 subst hP
 refine⟨fun o st hst hc=>?_⟩
 obtain⟨cl,x,caps,ys0,hgd,hop,hcl,hx,ha,rfl⟩:=hc
 exact ClW.dd hgd hop hcl hx ha hd h.ent h.ok hav k
theorem CallW.ddA{o0 out:Out}(hP:P'=P)(h:Fn P f ys [] o0)(hog:out.g=[])(hren:o0.ren (Az [] rt.length o0.new.length)=some out)(hfa:out.av.flat=true)(hfn:out.new.all Root.flat=true)(k:K out [])(hd:AV.isDs ys=true:=by rfl):CallW P' f ys rt K:=by
 subst hP
 refine⟨fun o st hst hc=>?_⟩
 subst hst
 obtain⟨cl,x,caps,ys0,hgd,hop,hcl,hx,ha,rfl⟩:=hc
 exact ClW.ddA hgd hop hcl hx ha hd h.ent h.ok hren hog hfa hfn k
theorem CallW.lnt{av:AV}(hP:P'=P)(h:Fn P f as0 [] ⟨av,[],[]⟩)(hl:LendL (fun r=>rt[r]?) ys as0)(k:K ⟨av,[],[]⟩ (AV.idss ys))(hav:av.isDT=true:=by rfl)(hfl:av.flat=true:=by rfl):CallW P' f ys rt K:=by
 subst hP
 refine⟨fun o st hst hc=>?_⟩
 subst hst
 obtain⟨cl,x,caps,ys0,hgd,hop,hcl,hx,ha,rfl⟩:=hc
 exact ClW.lnt hgd hop hcl hx ha hl h.ent h.ok hav hfl k
theorem CallW.lntR{n sz:Nat}{xs:List (List D)}(hP:P'=P)(h:Fn P f as0 [] ⟨.ref 0 0 n,[.row sz false xs],[]⟩)(hl:LendL (fun r=>rt[r]?) ys as0)(hfl:([Root.row sz false xs]).all Root.flat=true)(k:K ⟨.ref rt.length 0 n,[.row sz false xs],[]⟩ (AV.idss ys)):CallW P' f ys rt K:=by
 subst hP
 refine⟨fun o st hst hc=>?_⟩
 subst hst
 obtain⟨cl,x,caps,ys0,hgd,hop,hcl,hx,ha,rfl⟩:=hc
 exact ClW.lntR hgd hop hcl hx ha hl h.ent h.ok hfl k
end
open Go
def rnR(r n:Nat)(R:Root):Root:=(R.ren (mvF r n)).getD R
theorem Z8{r n:Nat}{R:Root}:(rnR r n R).kind=R.kind:=by
 unfold rnR
 cases h:R.ren (mvF r n)with
 |none=>rfl
 |some R'=>exact Ip h
theorem rnR_dead{r n:Nat}{R:Root}:rnR r n R= .dead↔R= .dead:=by rw[←kind_dead,Z8,kind_dead]
section
variable {N:Nat} {st:St}
theorem Holds.move2{c:Ctx}{Ei:Env}{a:Act}{w:World}(h:Holds c Ei N st a w){r:Nat}{R00:Root}(hcl:∀f,R00.ren f=some R00)(hr:st.rt[r]? =some R00):
  Holds c Ei N ⟨mvS r st.rt.length st.sl,((st.rt.map (rnR r st.rt.length)).set r .dead)++[R00]⟩ a w:=by
 obtain⟨E,rfl,hM,hSt,hrt,hpr,hsl,hdef,hsz,hm⟩:=h
 have hlt:r<st.rt.length:=(List.getElem?_eq_some_iff.1 hr).1
 generalize hn:st.rt.length=n at*
 have hER:E.rt r=some R00:=by rw[hrt];exact hr
 have hEn:∀x,E.rt x≠none→x<n:=by
  intro x hx
  rw[hrt]at hx
  rcases Nat.lt_or_ge x n with h|h
  ·exact h
  ·exact absurd (List.getElem?_eq_none (by omega)) hx
 let rt':=((st.rt.map (rnR r n)).set r .dead)++[R00]
 have hl':rt'.length=n+1:=by simp[rt',hn]
 have get':∀x,rt'[x]? =if x=r then some .dead else if x=n then some R00 else(E.rt x).map (rnR r n):=by
  intro x
  show(((st.rt.map (rnR r n)).set r .dead)++[R00])[x]? =_
  by_cases h1:x=r
  ·subst h1
   rw[if_pos rfl,List.getElem?_append_left (by simp;omega),List.getElem?_set_self (by simp;omega)]
  ·rw[if_neg h1]
   by_cases h2:x=n
   ·subst h2
    rw[if_pos rfl,List.getElem?_append_right (by simp;omega)]
    simp[hn]
   ·rw[if_neg h2]
    by_cases h3:x<n
    ·rw[List.getElem?_append_left (by simp;omega),List.getElem?_set_ne (fun e=>h1 e.symm),List.getElem?_map,hrt];rfl
    ·rw[List.getElem?_eq_none (by simp;omega)]
     cases hx:E.rt x with
     |none=>rfl
     |some R=>exact absurd (hEn x (by rw[hx];simp)) h3
 let E':Env:=⟨fun x=>rt'[x]?,fun x=>x<rt'.length,fun x=>if x=n then E.β r else E.β x,E.S,E.w⟩
 have e_rt:∀x,E'.rt x=if x=r then some .dead else if x=n then some R00 else(E.rt x).map (rnR r n):=get'
 have e_pr:∀x,E'.pres x↔x<n+1:=by intro x;show x<rt'.length↔_;rw[hl']
 have e_β:∀x,E'.β x=if x=n then E.β r else E.β x:=fun _=>rfl
 have hrn:r≠n:=by omega
 have st1:Step E E':=by
  refine⟨?_,?_,?_,fun _ h=>h,fun _ _=>rfl,fun _ _ h=>h⟩
  ·intro x R hx
   rw[e_rt]
   by_cases h1:x=r
   ·subst h1;exact⟨.dead,if_pos rfl,.inl rfl⟩
   ·have:=hEn x (by rw[hx];simp)
    exact⟨rnR r n R,by rw[if_neg h1,if_neg (by omega),hx];rfl,.inr Z8⟩
  ·intro x hx
   rw[e_pr]
   have:=(hpr x).1 hx
   omega
  ·intro x hx
   have:=(hpr x).1 hx
   rw[e_β,if_neg (by omega)]
 have hC:Conn (mvF r n) E E':=by
  have cases:∀{x x'},mvF r n x=some x'→(x=r∧x'=n)∨(x≠r∧x<n∧x'=x):=by
   intro x x' h
   unfold mvF at h
   split at h
   ·rename_i e;exact .inl ⟨e,(Option.some.inj h).symm⟩
   ·rename_i e
    split at h
    ·rename_i e2;exact .inr ⟨e,e2,(Option.some.inj h).symm⟩
    ·cases h
  refine⟨rfl,fun _ h=>h,?_,?_,?_⟩
  ·intro x x' h
   rcases cases h with⟨rfl,rfl⟩|⟨h1,h2,rfl⟩
   ·rw[e_rt,if_neg (fun e=>hrn e.symm),if_pos rfl,hER]
   ·rw[e_rt,if_neg h1,if_neg (by omega),Option.map_map]
    congr 1
    funext R
    exact Z8
  ·intro x x' h
   rcases cases h with⟨rfl,rfl⟩|⟨h1,h2,rfl⟩
   ·rw[e_pr,hpr];omega
   ·rw[e_pr,hpr];omega
  ·intro x x' h _
   rcases cases h with⟨rfl,rfl⟩|⟨h1,h2,rfl⟩
   ·rw[e_β,if_pos rfl]
   ·rw[e_β,if_neg (by omega)]
 have src:∀{x R},E'.rt x=some R→R≠.dead→∃y R0,E.rt y=some R0∧R0≠.dead∧E.pres y∧E'.β x=E.β y∧((x=n∧y=r∧R=R0)∨(x≠r∧x<n∧y=x∧R=rnR r n R0)):=by
  intro x R hx hd
  rw[e_rt]at hx
  by_cases h1:x=r
  ·rw[if_pos h1]at hx;exact absurd (Option.some.inj hx).symm hd
  ·rw[if_neg h1]at hx
   by_cases h2:x=n
   ·rw[if_pos h2]at hx
    exact⟨r,R,hER.trans hx,hd,(hpr r).2 hlt,by rw[e_β,if_pos h2],.inl ⟨h2,rfl,rfl⟩⟩
   ·rw[if_neg h2]at hx
    obtain⟨R0,hR0,rfl⟩:=Option.map_eq_some_iff.1 hx
    have h3:=hEn x (by rw[hR0];simp)
    exact⟨x,R0,hR0,fun e=>hd (rnR_dead.2 e),(hpr x).2 h3,by rw[e_β,if_neg h2],.inr ⟨h1,h3,rfl,rfl⟩⟩
 have hM':Mem c E':={
  os:=hM.os
  output:=hM.output
  tape:=hM.tape
  size:=hM.size
  keep:=hM.keep
  shape:=hM.shape
  s0:=hM.s0
  slt:=hM.slt
  glob:=hM.glob
  snew:=hM.snew
  blt:=by
   intro x b hp hb
   rw[e_pr]at hp
   rw[e_β]at hb
   by_cases h2:x=n
   ·rw[if_pos h2]at hb;exact hM.blt r b ((hpr r).2 hlt) hb
   ·rw[if_neg h2]at hb;exact hM.blt x b ((hpr x).2 (by omega)) hb
  bown:=by
   intro x R b hp hR hd hb
   obtain⟨y,R0,h1,aa,h2,h3,_⟩:=src hR hd
   rw[h3]at hb
   exact hM.bown y R0 b h2 h1 aa hb
  bkeep:=by
   intro x R hx hp hR hd
   obtain⟨y,R0,h1,aa,h2,h3,h4⟩:=src hR hd
   rcases h4 with⟨h4,_⟩|⟨_,_,rfl,_⟩
   ·omega
   ·rw[h3];exact hM.bkeep y R0 hx h2 h1 aa
  inj:=by
   intro x x' R R' b hp hp' hR hd hR' hd' hb hb'
   obtain⟨y,R0,h1,aa,h2,h3,h4⟩:=src hR hd
   obtain⟨y',R0',h1',ab,h2',h3',h4'⟩:=src hR' hd'
   rw[h3]at hb
   rw[h3']at hb'
   have:=hM.inj y y' R0 R0' b h2 h2' h1 aa h1' ab hb hb'
   rcases h4 with⟨e1,e2,_⟩|⟨e1,e2,e3,_⟩<;>rcases h4' with⟨ac,ad,_⟩|⟨ac,ad,ae,_⟩
   ·omega
   ·omega
   ·omega
   ·omega
  roots:=by
   intro x R hp hR
   by_cases hd:R= .dead
   ·subst hd;trivial
   obtain⟨y,R0,h1,aa,h2,h3,h4⟩:=src hR hd
   rcases h4 with⟨e1,e2,e3⟩|⟨e1,e2,e3,e4⟩
   ·subst e2 e3
    rw[hER]at h1
    obtain rfl:=Option.some.inj h1
    exact RootRel.conn hC (fun _ h=>h) (show mvF y n y=some x by rw[e1];exact if_pos rfl) h2 (hcl _) (hM.roots y _ h2 hER)
   ·subst e3 e4
    have hx:=hM.roots y R0 h2 h1
    unfold rnR
    cases hren:R0.ren (mvF r n)with
    |none=>exact RootRel.step st1 h2 (fun _ _=>rfl) (fun _ _ h=>h) hx
    |some R1=>exact RootRel.conn hC (fun _ h=>h) (show mvF r n y=some y by unfold mvF;rw[if_neg e1,if_pos e2]) h2 hren hx}
 refine⟨E',rfl,hM',hSt.trans st1,rfl,fun _=>Iff.rfl,?_,hdef,hsz,?_⟩
 ·intro t
  show RelAV E' (((st.sl t).ren (mvF r n)).getD .junk) _
  cases hx:(st.sl t).ren (mvF r n)with
  |none=>exact .junk _
  |some y=>exact RelAV.conn hC (hsl t) hx
 ·show c.m≤rt'.length
  omega
end
end
end Go.Proofs.YtjbmpmmffjgedaaGreatDoor.Ab
