/- A relation between the machine and an abstract state, evaluators for single operations and for code, proved sound (part 4). No conditions. -/
import Derived.Test.YtjbmpmmffjgedaaGreatDoorCsZ3
import Derived.IntWalk
import Derived.Laws.Strings
import Derived.WalkKit
import Derived.ProofKit
import Derived.OpenShut
import Derived.ShutString
import Derived.ChangeOld
import Derived.Below
import Derived.SizedLaws
import Derived.Carry
import Derived.Lib.ConvBytes
import Derived.Laws.AppendOwn
set_option linter.unusedVariables false
set_option linter.unusedSimpArgs false
namespace Go.Proofs.YtjbmpmmffjgedaaGreatDoor.Ab
section
open Go
structure DrawSpec (ops:Array Oper) (N nb:Nat) (eff:List Eff):Prop where
 back:∀(j:Nat) o,ops[j]? =some o→∀e∈o.after,Region.binds .any e=true→e.on<j
 dst:∀(j:Nat) o d,ops[j]? =some o→o.dst=some d→d<N
 uniq:∀(i j:Nat) o o' d,i≠j→ops[i]? =some o'→ops[j]? =some o→o'.dst=some d→o.dst≠some d
 look:∀(i j:Nat) o o' d,i≠j→ops[i]? =some o'→ops[j]? =some o→o'.dst=some d→d∈o.looksAt ops→(i<j∧Ph ops ops.size j i=true)∨(j<i∧Ph ops ops.size i j=true)
 apart:∀(i j:Nat),i≠j→i<ops.size→j<ops.size→Ph ops ops.size i j=true∨Ph ops ops.size j i=true∨K8 nb eff i j=true
theorem Xgc{ops:Array Oper}{N nb:Nat}{eff:List Eff}(h:N3 ops N nb eff=true):DrawSpec ops N nb eff:=by
 unfold N3 at h
 rw[List.all_eq_true]at h
 have one:∀(j:Nat) o,ops[j]? =some o→(o.after.all (fun e=>!Region.binds .any e||e.on<j)=true∧(match o.dst with|some d=>decide (d<N)|none=>true)=true)∧
   ∀i,i<ops.size→i≠j→(match ops[i]? with
    |none=>false
    |some o'=>(match o'.dst with
      |none=>true
      |some d=>(o.dst !=some d)&&(!(o.looksAt ops).contains d||(if i<j then Ph ops ops.size j i else Ph ops ops.size i j)))&&
     (Ph ops ops.size i j||Ph ops ops.size j i||K8 nb eff i j))=true:=by
  intro j o ho
  have hj:j<ops.size:=(Array.getElem?_eq_some_iff.1 ho).1
  have:=h j (List.mem_range.2 hj)
  simp only[ho,Bool.and_eq_true]at this
  refine⟨this.1,?_⟩
  intro i hi hne
  have h2:=List.all_eq_true.1 this.2 i (List.mem_range.2 hi)
  rw[Bool.or_eq_true]at h2
  rcases h2 with h2|h2
  ·exact absurd (by simpa using h2) hne
  ·exact h2
 refine⟨?_,?_,?_,?_,?_⟩
 ·intro j o ho e he hb
  have:=(one j o ho).1.1
  rw[Array.all_eq_true_iff_forall_mem]at this
  have:=this e he
  rw[hb]at this
  simpa using this
 ·intro j o d ho hd
  have:=(one j o ho).1.2
  rw[hd]at this
  simpa using this
 ·intro i j o o' d hne hi hj hd
  have:=(one j o hj).2 i (Array.getElem?_eq_some_iff.1 hi).1 hne
  simp only[hi,hd,Bool.and_eq_true]at this
  simpa using this.1.1
 ·intro i j o o' d hne hi hj hd hl
  have:=(one j o hj).2 i (Array.getElem?_eq_some_iff.1 hi).1 hne
  simp only[hi,hd,Bool.and_eq_true,Bool.or_eq_true]at this
  have h2:=this.1.2
  rcases h2 with h2|h2
  ·simp[hl]at h2
  ·split at h2
   ·exact .inl ⟨by assumption,h2⟩
   ·exact .inr ⟨by omega,h2⟩
 ·intro i j hne hi hj
  have:=(one j ops[j] (Array.getElem?_eq_getElem hj)).2 i hi hne
  simp only[Array.getElem?_eq_getElem hi,Bool.and_eq_true,Bool.or_eq_true]at this
  rcases this.2 with(h|h)|h
  ·exact .inl h
  ·exact .inr (.inl h)
  ·exact .inr (.inr h)
section
variable {ops:Array Oper} {N nb:Nat} {eff:List Eff}
def XdV(ops:Array Oper)(D:Nat→Prop):Prop:=∀(j:Nat) o,D j→ops[j]? =some o→∀e∈o.after,Region.binds .any e=true→D e.on
theorem Rr{D:Nat→Prop}(hc:XdV ops D):∀(fuel j i:Nat),Ph ops fuel j i=true→D j→D i
 |0,_,_,h,_=>by simp[Ph]at h
 |fuel+1,j,i,h,hD=>by
  simp only[Ph]at h
  split at h
  ·cases h
  ·rename_i o ho
   obtain⟨e,he,h⟩:=Array.any_eq_true'.1 h
   simp only[Bool.and_eq_true,Bool.or_eq_true,beq_iff_eq]at h
   have:=hc j o hD ho e he h.1
   rcases h.2 with h2|h2
   ·rw[←h2];exact this
   ·exact Rr hc fuel e.on i h2 this
theorem Xhv{D:Nat→Prop}(hc:XdV ops D){j:Nat}{o:Oper}(ho:ops[j]? =some o)(hr:∀e∈o.after,Region.binds .any e=true→D e.on):∀(fuel i:Nat),Ph ops fuel j i=true→D i
 |0,_,h=>by simp[Ph]at h
 |fuel+1,i,h=>by
  simp only[Ph,ho]at h
  obtain⟨e,he,h⟩:=Array.any_eq_true'.1 h
  simp only[Bool.and_eq_true,Bool.or_eq_true,beq_iff_eq]at h
  have:=hr e he h.1
  rcases h.2 with h2|h2
  ·rw[←h2];exact this
  ·exact Rr hc fuel e.on i h2 this
theorem XhE(hs:DrawSpec ops N nb eff):∀(fuel j i:Nat),Ph ops fuel j i=true→i<j
 |0,_,_,h=>by simp[Ph]at h
 |fuel+1,j,i,h=>by
  simp only[Ph]at h
  split at h
  ·cases h
  ·rename_i o ho
   obtain⟨e,he,h⟩:=Array.any_eq_true'.1 h
   simp only[Bool.and_eq_true,Bool.or_eq_true,beq_iff_eq]at h
   have hlt:=hs.back j o ho e he h.1
   rcases h.2 with h2|h2
   ·omega
   ·have:=XhE hs fuel e.on i h2;omega
structure TextRun (P:Program) (ops:Array Oper) (N:Nat) (st:St) (outs:Nat→Out) (eff:List Eff):Prop where
 sem:∀i,i<ops.size→∃e,eff[i]? =some e∧OpSem P ops i e.T (To ops st outs i).sl (To ops st outs i).look (To ops st outs i).rt.length (outs i)∧
  e.g=(outs i).g.map (·.1)∧e.n=(outs i).new.length
 glt:∀i,i<ops.size→∀p∈(outs i).g,p.1<(To ops st outs i).rt.length+(outs i).new.length
def Du(outs:Nat→Out):Nat→List Root
 |0=>[]
 |i+1=>Du outs i++(outs i).new
variable {P:Program} {st:St} {outs:Nat→Out}
theorem Hs:∀{i n:Nat},i≤n→∃l,Du outs n=Du outs i++l
 |i,0,h=>by obtain rfl:i=0:=by omega
            exact⟨[],rfl⟩
 |i,n+1,h=>by
  by_cases e:i=n+1
  ·subst e;exact⟨[],by simp⟩
  ·obtain⟨l,hl⟩:=Hs (i:=i) (n:=n) (by omega)
   exact⟨l++(outs n).new,by simp[Du,hl]⟩
theorem Rh{i:Nat}{o:Oper}(ho:ops[i]? =some o):To ops st outs (i+1)=(To ops st outs i).put o.dst (outs i):=by simp[To,ho]
theorem Jp:∀{i:Nat},i≤ops.size→(To ops st outs i).rt.length=st.rt.length+(Du outs i).length
 |0,_=>rfl
 |i+1,h=>by
  have ih:=Jp (i:=i) (by omega)
  rw[Rh (Array.getElem?_eq_getElem (show i<ops.size by omega))]
  simp only[St.put,Rb,List.length_append,Du,ih]
  omega
theorem Xig(hrun:TextRun P ops N st outs eff):∀{i:Nat},i≤ops.size→XkF st.rt.length eff i=st.rt.length+(Du outs i).length
 |0,_=>rfl
 |i+1,h=>by
  have ih:=Xig hrun (i:=i) (by omega)
  obtain⟨e,he,_,_,hn⟩:=hrun.sem i (by omega)
  simp only[XkF,he,Option.map_some,Option.getD_some,hn,Du,List.length_append,ih]
  omega
def Kz(ops:Array Oper)(st:St)(outs:Nat→Out):Nat→Option Root:=fun r=>(st.rt++Du outs ops.size)[r]?
theorem Xem{i k:Nat}(hi:i<ops.size)(hk:k<(outs i).new.length):Kz ops st outs (st.rt.length+(Du outs i).length+k)=(outs i).new[k]? :=by
 obtain⟨l,hl⟩:=Hs (outs:=outs) (show i+1≤ops.size by omega)
 show(st.rt++Du outs ops.size)[_]? =_
 rw[hl,List.getElem?_append_right (by omega)]
 simp only[Du,List.append_assoc]
 rw[List.getElem?_append_right (by omega),List.getElem?_append_left (by omega)]
 congr 1
 omega
theorem Zl{r:Nat}(h:r<st.rt.length):Kz ops st outs r=st.rt[r]? :=List.getElem?_append_left h
theorem Va(hrun:TextRun P ops N st outs eff):∀{i r:Nat},i≤ops.size→r<st.rt.length+(Du outs i).length→(To ops st outs i).look r=Tu outs (fun _=>True) (Kz ops st outs) i r
 |0,r,_,hr=>by
  show st.rt[r]? =Kz ops st outs r
  rw[Zl (by simpa[Du]using hr)]
 |i+1,r,h,hr=>by
  have hi:i<ops.size:=by omega
  have hlen:=Jp (st:=st) (outs:=outs) (i:=i) (by omega:i≤ops.size)
  rw[Rh (Array.getElem?_eq_getElem hi),K2 trivial]
  show(Xcd (outs i).g ((To ops st outs i).rt++(outs i).new))[r]? =_
  rw[Zw _ _ (fun p hp=>by rw[List.length_append];exact hrun.glt i hi p hp)]
  refine Ik ?_
  by_cases hlt:r<st.rt.length+(Du outs i).length
  ·rw[List.getElem?_append_left (by omega)]
   exact Va hrun (by omega) hlt
  ·simp only[Du,List.length_append]at hr
   rw[List.getElem?_append_right (by omega),T2,hlen]
   ·have:=Xem (ops:=ops) (st:=st) (outs:=outs) hi (k:=r - (st.rt.length+(Du outs i).length)) (by omega)
    rw[←this]
    congr 1
    omega
   ·intro i' hi' _ p hp
    have h1:=hrun.glt i' (by omega) p hp
    rw[Jp (by omega)]at h1
    obtain⟨l,hl⟩:=Hs (outs:=outs) (show i'+1≤i by omega)
    have h2:(Du outs i).length=(Du outs i').length+(outs i').new.length+l.length:=by rw[hl];simp[Du];omega
    omega
theorem Vs(hs:DrawSpec ops N nb eff):∀{j t:Nat},j≤ops.size→(∀(i:Nat) o,i<j→ops[i]? =some o→o.dst=some t→(To ops st outs j).sl t=(outs i).av)∧
  ((∀(i:Nat) o,i<j→ops[i]? =some o→o.dst≠some t)→(To ops st outs j).sl t=st.sl t)
 |0,t,_=>⟨fun i o h=>by omega,fun _=>rfl⟩
 |j+1,t,h=>by
  have ho:ops[j]? =some ops[j]:=Array.getElem?_eq_getElem (by omega)
  obtain⟨ih1,ih2⟩:=Vs hs (j:=j) (t:=t) (by omega)
  rw[Rh ho]
  have hput:((To ops st outs j).put ops[j].dst (outs j)).sl t=if ops[j].dst=some t then(outs j).av else(To ops st outs j).sl t:=by
   cases hd:ops[j].dst with
   |none=>simp[St.put]
   |some d=>
    simp only[St.put,Vg]
    by_cases e:t=d
    ·subst e;simp
    ·rw[if_neg e,if_neg (fun e'=>e (Option.some.inj e').symm)]
  rw[hput]
  refine⟨?_,?_⟩
  ·intro i o hi hio hd
   by_cases e:i=j
   ·subst e
    rw[ho]at hio
    obtain rfl:=Option.some.inj hio
    rw[if_pos hd]
   ·rw[if_neg (hs.uniq i j _ _ t e hio ho hd)]
    exact ih1 i o (by omega) hio hd
  ·intro hn
   rw[if_neg (hn j _ (by omega) ho)]
   exact ih2 (fun i o hi=>hn i o (by omega))
end
open Go
section
variable {P:Program} {N:Nat} {ops:Array Oper} {st:St} {outs:Nat→Out} {eff:List Eff}
structure Part (c:Ctx) (Ei:Env) (N:Nat) (ops:Array Oper) (st:St) (outs:Nat→Out) (D:Nat→Prop) (E:Env) (a:Act):Prop where
 mem:Mem c E
 step:StepP c.m Ei E
 rt:E.rt=Tu outs D (Kz ops st outs) ops.size
 pres:∀r,E.pres r↔r<st.rt.length∨∃i,i<ops.size∧D i∧st.rt.length+(Du outs i).length≤r∧r<st.rt.length+(Du outs i).length+(outs i).new.length
 done:∀(t i:Nat) o,D i→ops[i]? =some o→o.dst=some t→RelAV E (outs i).av (a.eval (.tmp t))
 old:∀t,(∀(i:Nat) o,D i→ops[i]? =some o→o.dst≠some t)→RelAV E (st.sl t) (a.eval (.tmp t))
 defers:a.defers=[]
 size:a.tmps.size=N
 m:c.m≤st.rt.length
theorem Xdl{nb:Nat}{i j:Nat}{x y:Eff}(hi:eff[i]? =some x)(hj:eff[j]? =some y)(h:K8 nb eff i j=true):∀r∈x.g,r∉y.T∧r∉y.g∧¬(XkF nb eff j≤r∧r<XkF nb eff j+y.n):=by
 intro r hr
 simp only[K8,hi,hj,List.all_eq_true]at h
 have:=h r hr
 simp only[Bool.and_eq_true,Bool.not_eq_true',List.contains_eq_mem,decide_eq_false_iff_not,Bool.and_eq_false_iff]at this
 refine⟨this.1.1,this.1.2,?_⟩
 rintro⟨h1,h2⟩
 rcases this.2 with h3|h3
 ·exact h3 h1
 ·exact h3 h2
theorem Part.step_one{c:Ctx}{Ei E:Env}{a:Act}{D:Nat→Prop}(hrun:TextRun P ops N st outs eff)(hs:DrawSpec ops N st.rt.length eff)
  (hap:∀(i j:Nat),i≠j→i<ops.size→j<ops.size→Ph ops ops.size i j=true∨Ph ops ops.size j i=true∨(K8 st.rt.length eff i j=true∧K8 st.rt.length eff j i=true))
  (hp:Part c Ei N ops st outs D E a)(hc:XdV ops D)(hDn:∀i,D i→i<ops.size){j:Nat}{o:Oper}(ho:ops[j]? =some o)(hj:¬D j)(hready:∀e∈o.after,Region.binds .any e=true→D e.on)
  {K:Act→World→Prop}{Q:Exit→Act→World→Prop}(k:∀(E':Env) (a':Act),Part c Ei N ops st outs (fun i=>D i∨i=j) E' a'→K a' E'.w):wpOp P ops Q j K a E.w:=by
 have hjn:j<ops.size:=(Array.getElem?_eq_some_iff.1 ho).1
 obtain⟨e,he,⟨o',ho',hsem⟩,heg,hen⟩:=hrun.sem j hjn
 rw[ho]at ho'
 obtain rfl:=Option.some.inj ho'
 have hlenj:=Jp (st:=st) (outs:=outs) (show j≤ops.size by omega)
 have ancR:∀{i},Ph ops ops.size j i=true→D i:=fun h=>Xhv hc ho hready _ _ h
 have ancN:∀{i},D i→¬Ph ops ops.size i j=true:=fun hD h=>hj (Rr hc _ _ _ h hD)
 have apt:∀{i},i<ops.size→i≠j→(D i↔¬i<j)→K8 st.rt.length eff i j=true∧K8 st.rt.length eff j i=true:=by
  intro i hi hne hiff
  rcases hap i j hne hi hjn with h|h|h
  ·by_cases hD:D i
   ·exact absurd h (ancN hD)
   ·have h1:=XhE hs _ _ _ h
    exact absurd (hiff.2 (by omega)) hD
  ·have hD:=ancR h
   have h1:=XhE hs _ _ _ h
   exact absurd h1 (hiff.1 hD)
  ·exact h
 have gmem:∀{i:Nat} {x:Eff},i<ops.size→eff[i]? =some x→∀{r:Nat},(∃p∈(outs i).g,p.1=r)→r∈x.g:=by
  intro i x hi hx r hr
  obtain⟨x',hx',_,hg,_⟩:=hrun.sem i hi
  rw[hx]at hx'
  obtain rfl:=Option.some.inj hx'
  rw[hg]
  obtain⟨p,hp,rfl⟩:=hr
  exact List.mem_map_of_mem hp
 have hexE:∀{i:Nat},i<ops.size→∃x,eff[i]? =some x:=fun hi=>let⟨x,hx,_⟩:=hrun.sem _ hi;⟨x,hx⟩
 have same:∀{r:Nat},(∀i,i<ops.size→i≠j→(D i↔¬i<j)→¬∃p∈(outs i).g,p.1=r)→
   Tu outs D (Kz ops st outs) ops.size r=Tu outs (fun _=>True) (Kz ops st outs) j r:=by
  intro r h
  rw[←Zn (show j≤ops.size by omega)]
  refine Oq ?_
  intro i hi hr
  by_cases hne:i=j
  ·subst hne
   exact⟨fun hD=>absurd hD hj,fun h=>absurd h (Nat.lt_irrefl _)⟩
  ·by_cases hD:D i
   ·refine⟨fun _=>?_,fun _=>hD⟩
    by_cases hlt:i<j
    ·exact hlt
    ·exact absurd hr (h i hi hne ⟨fun _=>hlt,fun _=>hD⟩)
   ·refine⟨fun h'=>absurd h' hD,fun hlt=>?_⟩
    exact absurd hr (h i hi hne ⟨fun h'=>absurd h' hD,fun h'=>absurd hlt h'⟩)
 refine hsem c E a hp.mem ?_ ?_ ?_ ?_ K Q ?_
 ·
  intro t ht
  obtain⟨sl1,sl2⟩:=Vs (st:=st) (outs:=outs) hs (j:=j) (t:=t) (by omega)
  by_cases hex:∃(i:Nat) (o':Oper),ops[i]? =some o'∧o'.dst=some t∧i≠j
  ·obtain⟨i,o',hi,hd,hne⟩:=hex
   rcases hs.look i j o o' t hne hi ho hd ht with⟨h1,h2⟩|⟨h1,h2⟩
   ·rw[sl1 i o' h1 hi hd]
    exact hp.done t i o' (ancR h2) hi hd
   ·have none':∀(i':Nat) o'',(D i'∨i'<j)→ops[i']? =some o''→o''.dst≠some t:=by
     intro i' o'' hor hi' hd'
     by_cases e1:i'=i
     ·subst e1
      rcases hor with hD|hlt
      ·exact ancN hD h2
      ·omega
     ·exact hs.uniq i i' o'' o' t (fun e=>e1 e.symm) hi hi' hd hd'
    rw[sl2 (fun i' o'' hlt=>none' i' o'' (.inr hlt))]
    exact hp.old t (fun i' o'' hD=>none' i' o'' (.inl hD))
  ·have none':∀(i':Nat) o'',(D i'∨i'<j)→ops[i']? =some o''→o''.dst≠some t:=by
    intro i' o'' hor hi' hd'
    refine hex ⟨i',o'',hi',hd',?_⟩
    rintro rfl
    rcases hor with hD|hlt
    ·exact hj hD
    ·omega
   rw[sl2 (fun i' o'' hlt=>none' i' o'' (.inr hlt))]
   exact hp.old t (fun i' o'' hD=>none' i' o'' (.inl hD))
 ·
  intro r hr
  by_cases hlt:r<st.rt.length+(Du outs j).length
  ·right
   rw[Va hrun (by omega) hlt,hp.rt]
   refine same ?_
   intro i hi hne hiff hg
   obtain⟨x,hx⟩:=hexE hi
   exact(Xdl hx he (apt hi hne hiff).1 r (gmem hi hx hg)).1 hr
  ·left
   exact List.getElem?_eq_none (by omega)
 ·left
  exact List.getElem?_eq_none (Nat.le_refl _)
 ·refine⟨by have:=hp.m;omega,?_,?_⟩
  ·intro k R hk
   have hkl:k<(outs j).new.length:=(List.getElem?_eq_some_iff.1 hk).1
   rw[hlenj,hp.rt,T2,Xem hjn hkl]
   ·exact hk
   ·intro i hi hD p hpm heq
    have hne:i≠j:=fun e=>hj (e▸hD)
    by_cases hlt:i<j
    ·have h1:=hrun.glt i hi p hpm
     rw[Jp (by omega)]at h1
     obtain⟨l,hl⟩:=Hs (outs:=outs) (show i+1≤j by omega)
     have h2:(Du outs j).length=(Du outs i).length+(outs i).new.length+l.length:=by rw[hl];simp[Du];omega
     omega
    ·obtain⟨x,hx⟩:=hexE hi
     have h3:=(Xdl hx he (apt hi hne ⟨fun _=>hlt,fun _=>hD⟩).1 p.1 (gmem hi hx ⟨p,hpm,rfl⟩)).2.2
     rw[Xig hrun (by omega),hen]at h3
     omega
  ·intro k hk hpr
   rw[hlenj,hp.pres]at hpr
   rcases hpr with hpr|⟨i,hi,hD,h1,h2⟩
   ·omega
   ·have hne:i≠j:=fun e=>hj (e▸hD)
    by_cases hlt:i<j
    ·obtain⟨l,hl⟩:=Hs (outs:=outs) (show i+1≤j by omega)
     have h3:(Du outs j).length=(Du outs i).length+(outs i).new.length+l.length:=by rw[hl];simp[Du];omega
     omega
    ·obtain⟨l,hl⟩:=Hs (outs:=outs) (show j+1≤i by omega)
     have h3:(Du outs i).length=(Du outs j).length+(outs j).new.length+l.length:=by rw[hl];simp[Du];omega
     omega
 ·
  intro v E' hO
  refine k E' (a.put o.dst v) ⟨hO.mem,hp.step.trans hO.step,?_,?_,?_,?_,?_,?_,hp.m⟩
  ·rw[hO.rt,hp.rt,XeS hj hjn]
   intro i hi hD hlt p hpm q hq heq
   obtain⟨x,hx⟩:=hexE hi
   have hne:i≠j:=by omega
   have:=(Xdl hx he (apt hi hne ⟨fun _=>by omega,fun _=>hD⟩).1 p.1 (gmem hi hx ⟨p,hpm,rfl⟩)).2.1
   exact this (gmem hjn he ⟨q,hq,heq.symm⟩)
  ·intro r
   rw[hO.pres,hp.pres,hlenj]
   constructor
   ·rintro((h|⟨i,hi,hD,h⟩)|h)
    ·exact .inl h
    ·exact .inr ⟨i,hi,.inl hD,h⟩
    ·exact .inr ⟨j,hjn,.inr rfl,h⟩
   ·rintro(h|⟨i,hi,hD|rfl,h⟩)
    ·exact .inl (.inl h)
    ·exact .inl (.inr ⟨i,hi,hD,h⟩)
    ·exact .inr h
  ·intro t i o' hD hi hd
   by_cases e1:i=j
   ·subst e1
    rw[ho]at hi
    obtain rfl:=Option.some.inj hi
    have hdN:=hs.dst i o t ho hd
    have:(a.put o.dst v).eval (.tmp t)=v:=by rw[hd];simp[Act.put,Act.eval,hp.size,hdN]
    rw[this]
    exact hO.rel
   ·have hD':D i:=hD.resolve_right e1
    have hne:=hs.uniq i j o o' t e1 hi ho hd
    rw[Act.eval_put (fun d hd' he'=>hne (by rw[hd'];simpa using he'.symm))]
    exact(hp.done t i o' hD' hi hd).step hO.step
  ·intro t hn
   have hne:o.dst≠some t:=hn j o (.inr rfl) ho
   rw[Act.eval_put (fun d hd' he'=>hne (by rw[hd'];simpa using he'.symm))]
   exact(hp.old t (fun i o' hD=>hn i o' (.inl hD))).step hO.step
  ·cases o.dst<;>exact hp.defers
  ·rw[Act.size_put];exact hp.size
theorem XhF{nb:Nat}{listed:Array Bool}(hs:DrawSpec ops N nb eff)(hr:Region.ready .any ops listed=[])(hsz:listed.size=ops.size):∀i,i<ops.size→listed.getD i false=true:=by
 intro i
 induction i using Nat.strongRecOn with
 |_ i ih=>
  intro hi
  by_cases h:listed.getD i false=true
  ·exact h
  ·have hmem:i∈Region.ready .any ops listed:=by
    rw[mem_ready]
    refine⟨?_,ops[i],Array.getElem?_eq_getElem hi,?_⟩
    ·have hl:i<listed.size:=by omega
     simp only[Array.getD,hl,dif_pos]at h⊢
     simpa using h
    ·intro e he hb
     have:=hs.back i _ (Array.getElem?_eq_getElem hi) e he hb
     exact ih e.on this (by omega)
   rw[hr]at hmem
   cases hmem
theorem Xir{c:Ctx}{Ei:Env}{Q:Exit→Act→World→Prop}(hrun:TextRun P ops N st outs eff)(hs:DrawSpec ops N st.rt.length eff)
  (hap:∀(i j:Nat),i≠j→i<ops.size→j<ops.size→Ph ops ops.size i j=true∨Ph ops ops.size j i=true∨(K8 st.rt.length eff i j=true∧K8 st.rt.length eff j i=true))
  (hQ:∀(E:Env) (a:Act),Part c Ei N ops st outs (fun i=>i<ops.size) E a→Q .normal a E.w):
  ∀(fuel:Nat) (listed:Array Bool) (E:Env) (a:Act),listed.size=ops.size→ops.size≤fuel+((List.range ops.size).filter fun i=>listed.getD i false).length→XdV ops (fun i=>listed.getD i false=true)→Part c Ei N ops st outs (fun i=>listed.getD i false=true) E a→
   wpAny P .any ops Q fuel listed a E.w:=by
 have fin:∀(listed:Array Bool) (E:Env) (a:Act),listed.size=ops.size→Region.ready .any ops listed=[]→Part c Ei N ops st outs (fun i=>listed.getD i false=true) E a→Q .normal a E.w:=by
  intro listed E a hsz hr hp
  refine hQ E a ?_
  have:(fun i=>listed.getD i false=true)=(fun i=>i<ops.size):=by
   funext i
   refine propext ⟨fun h=>?_,fun h=>XhF hs hr hsz i h⟩
   by_cases hi:i<listed.size
   ·omega
   ·simp[Array.getD,hi]at h
  rw[←this]
  exact hp
 intro fuel
 induction fuel with
 |zero=>
  intro listed E a hsz hcnt hc hp
  have hall:∀i,i<ops.size→listed.getD i false=true:=by
   have h1:((List.range ops.size).filter fun i=>listed.getD i false).length=(List.range ops.size).length:=by
    have:=List.length_filter_le (fun i=>listed.getD i false) (List.range ops.size)
    simp only[List.length_range]at this⊢
    omega
   intro i hi
   exact List.length_filter_eq_length_iff.1 h1 i (List.mem_range.2 hi)
  have hr:Region.ready .any ops listed=[]:=by
   rw[List.eq_nil_iff_forall_not_mem]
   intro i hi
   obtain⟨h1,o,h2,_⟩:=mem_ready.1 hi
   have hlt:=(Array.getElem?_eq_some_iff.1 h2).1
   have h3:=hall i hlt
   have hl:i<listed.size:=by omega
   simp only[Array.getD,hl,dif_pos]at h1 h3
   rw[h1]at h3
   cases h3
  exact⟨hr,fin listed E a hsz hr hp⟩
 |succ fuel ih=>
  intro listed E a hsz hcnt hc hp
  refine⟨fun hr=>fin listed E a hsz hr hp,?_⟩
  intro j hj
  obtain⟨h1,o,ho,hready⟩:=mem_ready.1 hj
  have hjn:=(Array.getElem?_eq_some_iff.1 ho).1
  have hjl:j<listed.size:=by omega
  have hjf:listed.getD j false=false:=by
   simp only[Array.getD,hjl,dif_pos]at h1⊢
   exact h1
  have hset:∀i,(listed.setIfInBounds j true).getD i false=true↔(listed.getD i false=true∨i=j):=by
   intro i
   by_cases e:i=j
   ·subst e
    simp[Array.getD,hjl]
   ·rw[getD_set_ne false (fun e'=>e e'.symm)]
    simp[e]
  refine Part.step_one hrun hs hap hp hc (fun i hi=>?_) ho (by rw[hjf];simp) hready ?_
  ·by_cases hi':i<listed.size
   ·omega
   ·simp[Array.getD,hi']at hi
  ·intro E' a' hp'
   have hD:(fun i=>(listed.setIfInBounds j true).getD i false=true)=(fun i=>listed.getD i false=true∨i=j):=funext fun i=>propext (hset i)
   refine ih (listed.setIfInBounds j true) E' a' (by simpa using hsz) ?_ ?_ (by rw[hD];exact hp')
   ·have hcount:((List.range ops.size).filter fun i=>listed.getD i false).length<((List.range ops.size).filter fun i=>(listed.setIfInBounds j true).getD i false).length:=by
     have sub:∀(l:List Nat),j∈l→(l.filter fun i=>listed.getD i false).length<(l.filter fun i=>(listed.setIfInBounds j true).getD i false).length:=by
      intro l
      have le:∀(l:List Nat),(l.filter fun i=>listed.getD i false).length≤(l.filter fun i=>(listed.setIfInBounds j true).getD i false).length:=by
       intro l
       induction l with
       |nil=>simp
       |cons x l ih=>
        simp only[List.filter_cons]
        by_cases hx:listed.getD x false=true
        ·rw[if_pos hx,if_pos ((hset x).2 (.inl hx))]
         simp only[List.length_cons]
         omega
        ·rw[if_neg hx]
         split
         ·simp only[List.length_cons];omega
         ·exact ih
      induction l with
      |nil=>intro h;cases h
      |cons x l ih=>
       intro hm
       simp only[List.filter_cons]
       by_cases e:x=j
       ·subst e
        rw[if_neg (by rw[hjf];simp),if_pos ((hset x).2 (.inr rfl))]
        simp only[List.length_cons]
        have:=le l
        omega
       ·have ih':=ih (by rcases List.mem_cons.1 hm with h|h;exact absurd h.symm e;exact h)
        by_cases hx:listed.getD x false=true
        ·rw[if_pos hx,if_pos ((hset x).2 (.inl hx))]
         simp only[List.length_cons]
         omega
        ·have hx':¬(listed.setIfInBounds j true).getD x false=true:=fun h=>((hset x).1 h).elim hx e
         rw[if_neg hx,if_neg hx']
         exact ih'
     exact sub _ (List.mem_range.2 hjn)
    omega
   ·intro i o' hi ho' e he hb
    rw[hset]at hi⊢
    rcases hi with hi|rfl
    ·exact .inl (hc i o' hi ho' e he hb)
    ·rw[ho]at ho'
     obtain rfl:=Option.some.inj ho'
     exact .inl (hready e he hb)
theorem AW.drawn{id:Nat}{Q:Exit→St→Prop}(hm:P.follows .mixedOrders=true)(hrun:TextRun P ops N st outs eff)(hb:N3 ops N st.rt.length eff=true)(k:Q .normal (To ops st outs ops.size)):AW P N (.region id ops true) Q st:=by
 have hs:=Xgc hb
 have hap:∀(i j:Nat),i≠j→i<ops.size→j<ops.size→Ph ops ops.size i j=true∨Ph ops ops.size j i=true∨(K8 st.rt.length eff i j=true∧K8 st.rt.length eff j i=true):=by
  intro i j hne hi hj
  rcases hs.apart i j hne hi hj with h|h|h
  ·exact .inl h
  ·exact .inr (.inl h)
  ·rcases hs.apart j i hne.symm hj hi with h'|h'|h'
   ·exact .inr (.inl h')
   ·exact .inl h'
   ·exact .inr (.inr ⟨h,h'⟩)
 intro c Ei a w hH
 obtain⟨E,rfl,hM,hSt,hrt,hpr,hsl,hdef,hsz,hmm⟩:=hH
 let E0:Env:={E with rt:=Kz ops st outs,w:={E.w with drawn:=E.w.drawn+1}}
 have hbase:∀r R,E.rt r=some R→Kz ops st outs r=some R:=by
  intro r R hR
  rw[hrt]at hR
  have hR':st.rt[r]? =some R:=hR
  rw[Zl (List.getElem?_eq_some_iff.1 hR').1]
  exact hR'
 have hbase':∀r R,E.pres r→Kz ops st outs r=some R→E.rt r=some R:=by
  intro r R hp hR
  rw[Zl ((hpr r).1 hp)]at hR
  rw[hrt]
  exact hR
 have aa:Step E E0:=⟨fun r R hr=>⟨R,hbase r R hr,.inr rfl⟩,fun _ h=>h,fun _ _=>rfl,fun _ h=>h,fun _ _=>rfl,fun _ _ h=>h⟩
 have hM0:Mem c E0:=by
  have h1:=hM.grown hbase hbase'
  have st1:Step {E with rt:=Kz ops st outs} E0:=⟨fun _ R h=>⟨R,h,.inr rfl⟩,fun _ h=>h,fun _ _=>rfl,fun _ h=>h,fun _ _=>rfl,fun _ _ h=>h⟩
  exact{h1 with glob:=Globs.step st1.S st1.heap h1.glob,roots:=fun r R hp hR=>(h1.roots r R hp hR).step st1 hp (fun _ _=>rfl) (fun _ _ h=>h)}
 have hfalse:∀i,¬(Array.replicate ops.size false).getD i false=true:=by
  intro i
  simp[Array.getD]
 refine wp_region_any hm ?_
 refine Xir (c:=c) (Ei:=Ei) hrun hs hap ?_ ops.size (Array.replicate ops.size false) E0 a (by simp) (by omega) ?_ ?_
 ·intro E1 a1 hp
  refine⟨To ops st outs ops.size,k,E1,rfl,hp.mem,hp.step,?_,?_,?_,hp.defers,hp.size,?_⟩
  ·rw[hp.rt]
   funext r
   have hcut:Tu outs (fun i=>i<ops.size) (Kz ops st outs) ops.size=Tu outs (fun _=>True) (Kz ops st outs) ops.size:=Zn (Nat.le_refl _)
   rw[hcut]
   by_cases hlt:r<st.rt.length+(Du outs ops.size).length
   ·exact(Va hrun (Nat.le_refl _) hlt).symm
   ·rw[T2]
    ·have h1:Kz ops st outs r=none:=List.getElem?_eq_none (by simp;omega)
     have h2:(To ops st outs ops.size).look r=none:=List.getElem?_eq_none (by rw[Jp (Nat.le_refl _)];omega)
     rw[h1,h2]
    ·intro i hi _ p hp'
     have h1:=hrun.glt i hi p hp'
     rw[Jp (by omega)]at h1
     obtain⟨l,hl⟩:=Hs (outs:=outs) (show i+1≤ops.size by omega)
     have h2:(Du outs ops.size).length=(Du outs i).length+(outs i).new.length+l.length:=by rw[hl];simp[Du];omega
     omega
  ·intro r
   rw[hp.pres,Jp (Nat.le_refl _)]
   have cover:∀n,n≤ops.size→(st.rt.length≤r→r<st.rt.length+(Du outs n).length→∃i,i<n∧st.rt.length+(Du outs i).length≤r∧r<st.rt.length+(Du outs i).length+(outs i).new.length):=by
    intro n
    induction n with
    |zero=>intro _ h1 h2;simp[Du]at h2;omega
    |succ n ih=>
     intro hn h1 h2
     by_cases hlt:r<st.rt.length+(Du outs n).length
     ·obtain⟨i,hi,h3⟩:=ih (by omega) h1 hlt
      exact⟨i,by omega,h3⟩
     ·simp only[Du,List.length_append]at h2
      exact⟨n,by omega,by omega,by omega⟩
   constructor
   ·rintro(h|⟨i,hi,_,h1,h2⟩)
    ·omega
    ·obtain⟨l,hl⟩:=Hs (outs:=outs) (show i+1≤ops.size by omega)
     have h3:(Du outs ops.size).length=(Du outs i).length+(outs i).new.length+l.length:=by rw[hl];simp[Du];omega
     omega
   ·intro h
    by_cases hlt:r<st.rt.length
    ·exact .inl hlt
    ·obtain⟨i,hi,h1,h2⟩:=cover ops.size (Nat.le_refl _) (by omega) h
     exact .inr ⟨i,hi,hi,h1,h2⟩
  ·intro t
   obtain⟨sl1,sl2⟩:=Vs (st:=st) (outs:=outs) hs (j:=ops.size) (t:=t) (Nat.le_refl _)
   by_cases hex:∃(i:Nat) (o':Oper),ops[i]? =some o'∧o'.dst=some t
   ·obtain⟨i,o',hi,hd⟩:=hex
    have hlt:=(Array.getElem?_eq_some_iff.1 hi).1
    rw[sl1 i o' hlt hi hd]
    exact hp.done t i o' hlt hi hd
   ·rw[sl2 (fun i o' _ hi hd=>hex ⟨i,o',hi,hd⟩)]
    exact hp.old t (fun i o' _ hi hd=>hex ⟨i,o',hi,hd⟩)
  ·rw[Jp (Nat.le_refl _)]
   omega
 ·intro j o hD
  exact absurd hD (hfalse j)
 ·refine⟨hM0,hSt.trans aa,?_,?_,?_,?_,hdef,hsz,hmm⟩
  ·funext r
   exact(T2 (fun i _ hD=>absurd hD (hfalse i))).symm
  ·intro r
   show E.pres r↔_
   rw[hpr]
   constructor
   ·exact .inl
   ·rintro(h|⟨i,_,hD,_⟩)
    ·exact h
    ·exact absurd hD (hfalse i)
  ·intro t i o' hD
   exact absurd hD (hfalse i)
  ·intro t _
   exact(hsl t).step aa
end
open Go
inductive Walk (P:Program) (N:Nat) (ops:Array Oper):Nat→St→List (Out×Eff)→St→Prop
 |done {i:Nat} {st:St} (h:i=ops.size):Walk P N ops i st [] st
 |cons {i:Nat} {st st':St} {o:Oper} {out:Out} {e:Eff} {l:List (Out×Eff)} (ho:ops[i]? =some o) (hd:∀d,o.dst=some d→d<N) (hs:OpSem P ops i e.T st.sl st.look st.rt.length out)
   (hg:e.g=out.g.map (·.1)) (hn:e.n=out.new.length) (hl:∀p∈out.g,p.1<st.rt.length+out.new.length) (t:Walk P N ops (i+1) (st.put o.dst out) l st'):Walk P N ops i st ((out,e)::l) st'
section
variable {P:Program} {N:Nat} {ops:Array Oper} {Q:Exit→St→Prop}
theorem Xi5{i:Nat}{st st':St}{l:List (Out×Eff)}(h:Walk P N ops i st l st')(k:Q .normal st'):OpsW P N ops ((List.range (ops.size - i)).map (i+·)) Q st:=by
 induction h with
 |done h=>subst h;simp only[Nat.sub_self,List.range_zero,List.map_nil];exact OpsW.nil k
 | @cons i st st' o out e l ho hd hs hg hn hl t ih=>
   have hi:i<ops.size:=(Array.getElem?_eq_some_iff.1 ho).1
   have:ops.size - i=(ops.size - (i+1))+1:=by omega
   rw[this,List.range_succ_eq_map,List.map_cons,List.map_map,Nat.add_zero]
   refine OpsW.cons ho hd hl hs ?_
   have e:((fun x=>i+x)∘Nat.succ)=(fun x=>i+1+x):=by funext x;simp only[Function.comp];omega
   rw[e]
   exact ih k
def Ji(l:List (Out×Eff)):Nat→Out:=fun i=>((l[i]?).map (·.1)).getD ⟨.junk,[],[]⟩
theorem XiF{st0 st st':St}{pre l:List (Out×Eff)}{i:Nat}(h:Walk P N ops i st l st'):pre.length=i→st=To ops st0 (Ji (pre++l)) i→
  To ops st0 (Ji (pre++l)) ops.size=st'∧∀j,i≤j→j<ops.size→∃e,((pre++l).map (·.2))[j]? =some e∧OpSem P ops j e.T (To ops st0 (Ji (pre++l)) j).sl (To ops st0 (Ji (pre++l)) j).look (To ops st0 (Ji (pre++l)) j).rt.length (Ji (pre++l) j)∧
   e.g=(Ji (pre++l) j).g.map (·.1)∧e.n=(Ji (pre++l) j).new.length∧∀p∈(Ji (pre++l) j).g,p.1<(To ops st0 (Ji (pre++l)) j).rt.length+(Ji (pre++l) j).new.length:=by
 induction h generalizing pre with
 |done h=>intro hp hst;subst h;exact⟨hst.symm,fun j h1 h2=>by omega⟩
 | @cons i st st' o out e l ho hd hs hg hn hl t ih=>
   intro hp hst
   have key:=ih (pre:=pre++[(out,e)]) (by simp[hp]) (by
    rw[List.append_assoc,List.singleton_append,Rh ho,←hst]
    have:Ji (pre++(out,e)::l) i=out:=by simp[Ji,←hp]
    rw[this])
   rw[List.append_assoc,List.singleton_append]at key
   refine⟨key.1,?_⟩
   intro j h1 h2
   by_cases hj:j=i
   ·subst hj
    have h3:Ji (pre++(out,e)::l) j=out:=by simp[Ji,←hp]
    refine⟨e,by simp[←hp],?_⟩
    rw[h3,←hst]
    exact⟨hs,hg,hn,hl⟩
   ·exact key.2 j (by omega) h2
theorem AW.reg{id:Nat}{draw:Bool}{st:St}(h:∃l st',Walk P N ops 0 st l st'∧(draw=true→P.follows .mixedOrders=true∧N3 ops N st.rt.length (l.map (·.2))=true)∧Q .normal st'):AW P N (.region id ops draw) Q st:=by
 obtain⟨l,st',hw,hd,hq⟩:=h
 cases draw with
 |false=>
  refine AW.region ?_
  have:=Xi5 hw hq
  simpa using this
 |true=>
  obtain⟨h1,h2⟩:=XiF (pre:=[]) (st0:=st) hw rfl rfl
  simp only[List.nil_append]at h1 h2
  refine AW.drawn (outs:=Ji l) (eff:=l.map (·.2)) (hd rfl).1 ⟨?_,?_⟩ (hd rfl).2 ?_
  ·intro i hi
   obtain⟨e,k1,k2,k3,k4,_⟩:=h2 i (Nat.zero_le _) hi
   exact⟨e,k1,k2,k3,k4⟩
  ·intro i hi
   obtain⟨e,k1,k2,k3,k4,k5⟩:=h2 i (Nat.zero_le _) hi
   exact k5
  ·rw[h1];exact hq
def RW(P:Program)(N:Nat)(ops:Array Oper)(i:Nat)(st:St)(acc:List Eff)(K:List Eff→St→Prop):Prop:=∃l st',Walk P N ops i st l st'∧K (acc++l.map (·.2)) st'
theorem RW.done{i:Nat}{st:St}{acc:List Eff}{K:List Eff→St→Prop}(h:i=ops.size)(k:K acc st):RW P N ops i st acc K:=⟨[],st,.done h,by simpa using k⟩
theorem RW.cons{i:Nat}{st:St}{acc:List Eff}{K:List Eff→St→Prop}{o:Oper}{out:Out}{T:List Nat}(ho:ops[i]? =some o)(hd:∀d,o.dst=some d→d<N)(hs:OpSem P ops i T st.sl st.look st.rt.length out)
  (hl:∀p∈out.g,p.1<st.rt.length+out.new.length)(t:RW P N ops (i+1) (st.put o.dst out) (acc++[⟨out.g.map (·.1),out.new.length,T⟩]) K):RW P N ops i st acc K:=by
 obtain⟨l,st',hw,hk⟩:=t
 exact⟨(out,⟨out.g.map (·.1),out.new.length,T⟩)::l,st',.cons ho hd hs rfl rfl hl hw,by simpa using hk⟩
theorem AW.reg'{id:Nat}{draw:Bool}{st:St}(h:RW P N ops 0 st [] fun effs st'=>(draw=true→P.follows .mixedOrders=true∧N3 ops N st.rt.length effs=true)∧Q .normal st'):AW P N (.region id ops draw) Q st:=by
 obtain⟨l,st',hw,hd,hq⟩:=h
 exact AW.reg ⟨l,st',hw,by simpa using hd,hq⟩
def Ul(N:Nat)(o:Oper):Bool:=match o.dst with|some d=>decide (d<N)|none=>true
theorem D6{o:Oper}(h:Ul N o=true):∀d,o.dst=some d→d<N:=by
 intro d hd
 simp only[Ul,hd,decide_eq_true_eq]at h
 exact h
def Xl9(o:Oper):Bool:=match o.op with| .call c=>(match c.callee with| .value _=>true|_=>false)|_=>false
end
open Go
inductive SK where
 |int (k:IntKind)|str|bool|sl (sz:Nat)|other
def Tp(P:Program)(t:TypeId):SK:=
 match P.underlying t with
 |some (.int k)=>.int k
 |some .string=>.str
 |some .bool=>.bool
 |some (.slice e)=>.sl (((P.info? e).map (·.size)).getD 0)
 |_=>.other
def Xg6(P:Program):Nat→TypeId→List SK
 |0,_=>[]
 |f+1,t=>
  match P.underlying t with
  |some (.struct fs)=>fs.toList.flatMap fun g=>Xg6 P f g.type
  |some (.array n e)=>(List.replicate n (Xg6 P f e)).flatten
  |_=>[Tp P t]
structure TyRow where
 sk:SK
 sz:Option Nat
 agg:Option Bool
 el:Option (Nat×Nat)
 bsl:Bool
 leaves:List SK
 flds:List (Option (Nat×Nat×Bool))
 zero:Option (List (Value×Nat))
 ez:Option (List D×Nat×Nat)
 pl:Option (List (Nat×Nat))
 eq:Option (List EK)
def XkA(P:Program)(t:TypeId):List (Option (Nat×Nat×Bool)):=
 match P.underlying t with
 |some (.struct fs)=>(List.range fs.size).map fun f=>Xjm P t f
 |_=>[]
def Fp(P:Program)(t:TypeId):TyRow:=⟨Tp P t,szT P t,Xq P t,elT P t,Do P t,Xg6 P 8 t,XkA P t,Kd P t,ezT P t,Vw P t,eqT P t⟩
def Di:List (Nat×TyRow)→Nat→Option TyRow
 |[],_=>none
 |(t,r)::l,x=>if t=x then some r else Di l x
def B8(P:Program)(tab:List (Nat×TyRow)):Prop:=∀t r,Di tab t=some r→r=Fp P t
theorem B8.of{P:Program}{tab:List (Nat×TyRow)}(h:tab=tab.map fun p=>(p.1,Fp P p.1)):B8 P tab:=by
 have key:∀l:List (Nat×TyRow),(∀p∈l,p.2=Fp P p.1)→∀t r,Di l t=some r→r=Fp P t:=by
  intro l
  induction l with
  |nil=>intro _ t r h;cases h
  |cons p l ih=>
   intro hl t r hr
   obtain⟨x,y⟩:=p
   simp only[Di]at hr
   split at hr
   ·rename_i e
    subst e
    obtain rfl:=Option.some.inj hr
    exact hl (x,y) (by simp)
   ·exact ih (fun p hp=>hl p (by simp[hp])) t r hr
 refine key tab ?_
 intro p hp
 rw[h]at hp
 obtain⟨q,_,rfl⟩:=List.mem_map.1 hp
 rfl
structure Ar where
 bin:BinOp→IntKind→Int→Int→Int
 sh:BinOp→IntKind→Int→Int→Int
 cmp:BinOp→Int→Int→Bool
 scmp:BinOp→ByteArray→ByteArray→Bool
 bcmp:Bool→Bool→Bool
 bnot:Bool→Bool
 neg:IntKind→Int→Int
 wrap:IntKind→Int→Int
 cat:ByteArray→ByteArray→ByteArray
 ssize:ByteArray→Int
 ssub:ByteArray→Int→Int→ByteArray
 sget:ByteArray→Int→Int
 len:List (List D)→Int
 rsub:List (List D)→Int→Int→List (List D)
 app:List (List D)→List (List D)→List (List D)
 elt:List (List D)→Int→List D
 set:List (List D)→Nat→Nat→List D→List (List D)
 nth:List D→Nat→D
 drp:List D→Nat→List D
 str:D→ByteArray
 int:D→Int
 bool:D→Bool
 row:D→List (List D)
 nat:Int→Nat
 nadd:Nat→Nat→Nat
 nsub:Nat→Nat→Nat
 band:Bool→Bool→Bool
 ofNat:Nat→Int
 strRow:ByteArray→List (List D)
 mkRow:Int→List D→List (List D)
 mx:Int→Int→Int
 mn:Int→Int→Int
 bytes:List (List D)→ByteArray
 emp:List (List D)→Bool
def Xey:Option Value→Int
 |some (.int _ n)=>n
 |_=>0
def Xih:Option Value→Bool
 |some (.bool b)=>b
 |_=>false
def std:Ar where
 bin:=fun op k a b=>Xey (Q4 op k a b)
 sh:=fun op k a b=>match op with| .shl=>k.wrap (a*2^ (min b.toNat k.bits))|_=>a.fdiv (2^ (min b.toNat k.bits))
 cmp:=fun op a b=>Xih (Q4 op .i64 a b)
 scmp:=fun op a b=>Xih (Ym op a b)
 bcmp:=fun a b=>a==b
 bnot:=fun a=>!a
 neg:=fun k a=>k.wrap (0 - a)
 wrap:=fun k a=>k.wrap a
 cat:=fun a b=>a++b
 ssize:=fun a=>a.size
 ssub:=fun s a b=>s.extract a.toNat b.toNat
 sget:=fun s i=>if h:i.toNat<s.size then(((s[i.toNat]'h).toNat:Nat):Int)else 0
 len:=fun xs=>xs.length
 rsub:=fun xs a b=>(xs.drop a.toNat).take (b.toNat - a.toNat)
 app:=fun xs ys=>xs++ys
 elt:=fun xs i=>(xs[i.toNat]?).getD []
 set:=fun xs i j ds=>xs.set i (Kt ((xs[i]?).getD []) j ds)
 nth:=fun xs j=>(xs[j]?).getD (.sc undef)
 drp:=fun xs j=>xs.drop j
 str:=fun x=>match x with| .sc (.string s)=>s|_=>default
 int:=fun x=>match x with| .sc (.int _ n)=>n|_=>0
 bool:=fun x=>match x with| .sc (.bool b)=>b|_=>false
 row:=fun x=>match x with| .row _ xs=>xs|_=>[]
 nat:=Int.toNat
 nadd:=fun a b=>a+b
 nsub:=fun a b=>a - b
 band:=fun a b=>a&&b
 ofNat:=fun n=>n
 strRow:=strRow
 mkRow:=fun n z=>List.replicate n.toNat z
 mx:=fun a b=>if b>a then b else a
 mn:=fun a b=>if b<a then b else a
 bytes:=fun xs=>match G1 xs with|some ns=>Et ns|none=>default
 emp:=fun xs=>xs.isEmpty
open Go
inductive InR (i n:Int):Prop|mk (h0:0≤i) (h1:i<n):InR i n
inductive Slc (lo hi n:Int):Prop|mk (h0:0≤lo) (h1:lo≤hi) (h2:hi≤n):Slc lo hi n
inductive IsD (x y:D):Prop|mk (h:x=y):IsD x y
inductive LenGe (x:List D) (n:Nat):Prop|mk (h:n≤x.length):LenGe x n
inductive NonNeg (a:Int):Prop|mk (h:0≤a):NonNeg a
inductive NeZ (a:Int):Prop|mk (h:a≠0):NeZ a
inductive CatOk (a b:ByteArray):Prop|mk (h:((a.size+b.size:Nat):Int)≤IntKind.i64.max):CatOk a b
inductive AppOk (off len:Nat) (xs ys:List (List D)) (bytes:Nat):Prop
 |mk (h0:off=0) (h1:len=xs.length) (h2:(2*(xs.length+ys.length)+1024)*bytes≤2^48) (h3:xs.length+ys.length<2^62):AppOk off len xs ys bytes
inductive SubOk (off len:Nat) (xs:List (List D)):Prop|mk (h:off+len≤xs.length):SubOk off len xs
inductive MakeOk (n m:Int) (bytes:Nat):Prop|mk (h0:0≤n) (h1:n≤m) (h2:bytes*m≤2^48) (h3:m<2^63):MakeOk n m bytes
inductive ByteOk (xs:List (List D)):Prop|mk (ns:List Int) (h:G1 xs=some ns):ByteOk xs
abbrev VO:=Option (Out×List Prop)
abbrev VA:=Option (AV×List Prop)
def XgY(x:VA):VO:=match x with|some (av,p)=>some (⟨av,[],[]⟩,p)|none=>none
def Xc2(A:Ar)(k:SK)(x:D):D×List Prop:=
 match k with
 | .int k=>(.sc (.int k (A.int x)),[IsD x (.sc (.int k (A.int x)))])
 | .str=>(.sc (.string (A.str x)),[IsD x (.sc (.string (A.str x)))])
 | .bool=>(.sc (.bool (A.bool x)),[IsD x (.sc (.bool (A.bool x)))])
 | .sl sz=>(.row sz (A.row x),[IsD x (.row sz (A.row x))])
 | .other=>(x,[])
def N5(A:Ar)(cs:List D):Nat→List SK→List AV×List Prop
 |_,[]=>([],[])
 |j,k::ks=>(.d (Xc2 A k (A.nth cs j)).1::(N5 A cs (j+1) ks).1,(Xc2 A k (A.nth cs j)).2++(N5 A cs (j+1) ks).2)
def Xi8(A:Ar)(R:TyRow)(cs:List D):VA:=
 match R.agg,R.sz,R.leaves with
 |some true,some n,ks=>if ks.length=n∧n≠0 then some (.agg (N5 A cs 0 ks).1,LenGe cs n::(N5 A cs 0 ks).2)else none
 |some false,some _,[k]=>some (.d (Xc2 A k (A.nth cs 0)).1,LenGe cs 1::(Xc2 A k (A.nth cs 0)).2)
 |_,_,_=>none
def XkL(A:Ar)(rt:Nat→Option Root)(R:TyRow):AV→VA
 | .ptr r i j=>
   match rt r with
   |some (.row _ _ xs)=>match Xi8 A R (A.drp (A.elt xs (A.ofNat i)) j)with
    |some (av,p)=>some (av,InR (A.ofNat i) (A.len xs)::p)
    |none=>none
   |some (.box ty l)=>match i,R.agg,R.sz with
    |0,some g,some n=>(match Lo l j n g with|some av=>some (av,[])|none=>none)
    |_,_,_=>none
   |_=>none
 | .rptr cs=>Xi8 A R cs
 |_=>none
def R6(A:Ar)(rt:Nat→Option Root)(R:TyRow)(x:AV)(i:Int):VA:=
 match R.el with
 |none=>none
 |some (esz,_)=>
  match x with
  | .ref r off len=>
    match rt r with
    |some (.row sz _ _)=>if esz=sz then some (.ptr r (A.nadd off (A.nat i)) 0,[InR i (A.ofNat len)])else none
    |_=>none
  | .d (.row sz xs)=>if esz=sz then some (.rptr (A.elt xs i),[InR i (A.len xs)])else none
  |_=>none
def Sk(A:Ar)(rt:Nat→Option Root)(fl:Option (Nat×Nat×Bool)):AV→VA
 | .ptr r i j=>if Lh rt r then(match fl with|some (o,n,_)=>if n=0 then none else some (.ptr r i (j+o),[])|none=>none)else none
 | .rptr cs=>match fl with|some (o,n,_)=>if n=0 then none else some (.rptr (A.drp cs o),[])|none=>none
 |_=>none
def G5:SK→Bool
 | .str=>true
 |_=>false
def XgH(A:Ar)(rt:Nat→Option Root)(R:TyRow)(x:AV)(lo hi:Option Int):VA:=
 match x with
 | .d (.sc (.string s))=>if G5 R.sk then some (.d (.sc (.string (A.ssub s (lo.getD 0) (hi.getD (A.ssize s))))),[Slc (lo.getD 0) (hi.getD (A.ssize s)) (A.ssize s)])else none
 | .d (.row sz xs)=>match R.el with
   |some (esz,_)=>if esz=sz then some (.d (.row sz (A.rsub xs (lo.getD 0) (hi.getD (A.len xs)))),[Slc (lo.getD 0) (hi.getD (A.len xs)) (A.len xs)])else none
   |none=>none
 | .ref r off len=>
   match rt r,R.el with
   |some (.row sz _ _),some (esz,_)=>if esz=sz then some (.ref r (A.nadd off (A.nat (lo.getD 0))) (A.nsub (A.nat (hi.getD (A.ofNat len))) (A.nat (lo.getD 0))),[Slc (lo.getD 0) (hi.getD (A.ofNat len)) (A.ofNat len)])else none
   |_,_=>none
 |_=>none
def XcT(A:Ar)(R:TyRow)(x:AV)(i:Int):VA:=
 match x with
 | .d (.sc (.string s))=>if G5 R.sk then some (.d (.sc (.int .u8 (A.sget s i))),[InR i (A.ssize s)])else none
 |_=>none
def XgF(A:Ar)(op:BinOp)(k:IntKind)(a b:Int):VA:=
 match op with
 | .add| .sub| .mul| .and| .or| .xor| .andNot=>some (.d (.sc (.int k (A.bin op k a b))),[])
 | .quo| .rem=>some (.d (.sc (.int k (A.bin op k a b))),[NeZ b])
 | .eql| .neq| .lss| .leq| .gtr| .geq=>some (.d (.sc (.bool (A.cmp op a b))),[])
 |_=>none
def Xh1(A:Ar)(op:BinOp)(a b:ByteArray):VA:=
 match op with
 | .add=>some (.d (.sc (.string (A.cat a b))),[CatOk a b])
 | .eql| .neq| .lss| .leq| .gtr| .geq=>some (.d (.sc (.bool (A.scmp op a b))),[])
 |_=>none
def Ze:SK→Bool
 | .bool=>true
 |_=>false
def vEq(A:Ar):List EK→List AV→List AV→Option Bool
 |[],[],[]=>some true
 | .int::ks,.d (.sc (.int k a))::xs,.d (.sc (.int k' b))::ys=>if k=k' then(match vEq A ks xs ys with|some r=>some (A.band (A.cmp .eql a b) r)|none=>none)else none
 | .str::ks,.d (.sc (.string a))::xs,.d (.sc (.string b))::ys=>(match vEq A ks xs ys with|some r=>some (A.band (A.scmp .eql a b) r)|none=>none)
 | .bool::ks,.d (.sc (.bool a))::xs,.d (.sc (.bool b))::ys=>(match vEq A ks xs ys with|some r=>some (A.band (A.bcmp a b) r)|none=>none)
 |_,_,_=>none
def vBin(A:Ar)(R:TyRow)(op:BinOp)(x y:AV):VA:=
 match x,y with
 | .d (.sc (.int k a)),.d (.sc (.int k' b))=>
   match op with
   | .shl=>some (.d (.sc (.int k (A.sh .shl k a b))),[NonNeg b])
   | .shr=>some (.d (.sc (.int k (A.sh .shr k a b))),[NonNeg b])
   |_=>if k=k' then XgF A op k a b else none
 | .d (.sc (.string a)),.d (.sc (.string b))=>Xh1 A op a b
 | .d (.sc (.bool a)),.d (.sc (.bool b))=>if Ze R.sk then(match op with| .eql=>some (.d (.sc (.bool (A.bcmp a b))),[])| .neq=>some (.d (.sc (.bool (A.bnot (A.bcmp a b)))),[])|_=>none)else none
 | .agg xs,.agg ys=>
   match op,R.eq with
   | .eql,some ks=>(match vEq A ks xs ys with|some b=>some (.d (.sc (.bool b)),[])|none=>none)
   | .neq,some ks=>(match vEq A ks xs ys with|some b=>some (.d (.sc (.bool (A.bnot b))),[])|none=>none)
   |_,_=>none
 |_,_=>none
def Xjk(A:Ar)(rt:Nat→Option Root)(R:TyRow)(op:BinOp)(x y:AV)(yo:Operand):VA:=
 match Pc yo with
 |true=>(match op,R.sk,x with
  | .eql,.sl _,.d (.row _ xs)=>some (.anyb (A.emp xs),[])
  | .eql,.sl _,.ref r _ len=>if Lh rt r then some (.anyb (A.cmp .eql (A.ofNat len) 0),[])else none
  |_,_,_=>none)
 |false=>vBin A R op x y
def vUn(A:Ar)(op:UnOp):AV→VA
 | .d (.sc (.bool b))=>match op with| .not=>some (.d (.sc (.bool (A.bnot b))),[])|_=>none
 | .d (.sc (.int k n))=>match op with| .neg=>some (.d (.sc (.int k (A.neg k n))),[])|_=>none
 |_=>none
def vToD(A:Ar)(rt:Nat→Option Root):AV→Option (D×List Prop)
 | .d x=>some (x,[])
 | .ref r off len=>
   match rt r with
   |some (.row sz true xs)=>some (.row sz (A.rsub xs (A.ofNat off) (A.ofNat (A.nadd off len))),[SubOk off len xs])
   |_=>none
 |_=>none
def XfO(A:Ar)(rt:Nat→Option Root):List AV→Option (List D×List Prop)
 |[]=>some ([],[])
 |x::l=>match vToD A rt x,XfO A rt l with
  |some (d,p),some (ds,q)=>some (d::ds,p++q)
  |_,_=>none
def vSrc(A:Ar)(rt:Nat→Option Root):AV→Option (Nat×List (List D)×List Prop)
 | .d (.sc (.string s))=>some (1,A.strRow s,[])
 | .d (.row sz xs)=>some (sz,xs,[])
 | .ref r off len=>
   match rt r with
   |some (.row sz _ xs)=>some (sz,A.rsub xs (A.ofNat off) (A.ofNat (A.nadd off len)),[SubOk off len xs])
   |_=>none
 |_=>none
def U1(A:Ar)(rt:Nat→Option Root)(nb:Nat)(R:TyRow)(s x:AV):VO:=
 match s,R.el,R.ez with
 | .ref r off len,some (n,bytes),some _=>
   match rt r,vSrc A rt x with
   |some (.row sz false xs),some (sz',ys,p)=>
    if sz'=sz∧n=sz then some (⟨.ref nb 0 (A.nat (A.len (A.app xs ys))),[.row sz false (A.app xs ys)],[(r,.dead)]⟩,AppOk off len xs ys bytes::p)else none
   |_,_=>none
 |_,_,_=>none
def XgB(A:Ar)(rt:Nat→Option Root)(n:Nat)(p x:AV):Option ((Nat×Root)×List Prop):=
 match p with
 | .ptr r i j=>
   match rt r with
   |some (.box ty l)=>(match i,x.leaves with
    |0,some ys=>if ys.length=n∧j+ys.length≤l.length then some ((r,.box ty (Kt l j ys)),[])else none
    |_,_=>none)
   |some (.row sz false xs)=>(match x.leaves with
    |some ys=>(match XfO A rt ys with
     |some (ds,q)=>if ds.length=n then some ((r,.row sz false (A.set xs i j ds)),InR (A.ofNat i) (A.len xs)::LenGe (A.elt xs (A.ofNat i)) (j+ds.length)::q)else none
     |none=>none)
    |none=>none)
   |_=>none
 |_=>none
def XkW(A:Ar)(rt:Nat→Option Root)(S T:TyRow)(x:AV):VA:=
 match T.sk,x with
 | .int k,.d (.sc (.int _ n))=>(match S.sk with| .int _=>some (.d (.sc (.int k (A.wrap k n))),[])|_=>none)
 | .str,.d (.sc (.string s))=>if G5 S.sk then some (.d (.sc (.string s)),[])else none
 | .str,.d (.row sz xs)=>if S.bsl∧sz=1 then some (.d (.sc (.string (A.bytes xs))),[ByteOk xs])else none
 | .str,.ref r off len=>(match rt r with
   |some (.row sz _ xs)=>if S.bsl∧sz=1 then some (.d (.sc (.string (A.bytes (A.rsub xs (A.ofNat off) (A.ofNat (A.nadd off len)))))),[SubOk off len xs,ByteOk (A.rsub xs (A.ofNat off) (A.ofNat (A.nadd off len)))])else none
   |_=>none)
 |_,_=>none
def vLen(A:Ar)(rt:Nat→Option Root)(R:TyRow):AV→VA
 | .d (.sc (.string s))=>if G5 R.sk then some (.d (.sc (.int .i64 (A.ssize s))),[])else none
 | .d (.row _ xs)=>(match R.sk with| .sl _=>some (.d (.sc (.int .i64 (A.len xs))),[])|_=>none)
 | .ref r _ len=>(match R.sk with| .sl _=>if Lh rt r then some (.d (.sc (.int .i64 (A.ofNat len))),[])else none|_=>none)
 |_=>none
def Vm(A:Ar)(rt:Nat→Option Root)(sl:Nat→AV):List (Nat×Operand)→Option (List (Nat×List D)×List Prop)
 |[]=>some ([],[])
 |(i,x)::rest=>match(Cm sl x).leaves with
  |none=>none
  |some l=>match XfO A rt l,Vm A rt sl rest with
   |some (ds,p),some (r,q)=>some ((i,ds)::r,p++q)
   |_,_=>none
def Xk2(A:Ar)(tab:List (Nat×TyRow))(nb:Nat)(sl:Nat→AV)(rt:Nat→Option Root)(c:Call):VO:=
 match c.callee,c.args.toList,c.argTypes.toList with
 | .builtin .len,[x],[t]=>(match Di tab t with|some R=>XgY (vLen A rt R (Cm sl x))|none=>none)
 | .builtin .append,[s,x],[t,xt]=>(match Di tab t,Di tab xt with
   |some R,some X=>(match X.sk with| .sl _=>U1 A rt nb R (Cm sl s) (Cm sl x)| .str=>U1 A rt nb R (Cm sl s) (Cm sl x)|_=>none)
   |_,_=>none)
 | .builtin .max,[x,y],_=>(match Cm sl x,Cm sl y with| .d (.sc (.int k a)),.d (.sc (.int _ b))=>some (⟨.d (.sc (.int k (A.mx a b))),[],[]⟩,[])|_,_=>none)
 | .builtin .min,[x,y],_=>(match Cm sl x,Cm sl y with| .d (.sc (.int k a)),.d (.sc (.int _ b))=>some (⟨.d (.sc (.int k (A.mn a b))),[],[]⟩,[])|_,_=>none)
 |_,_,_=>none
def XiB:Option TyRow→Nat
 |some R=>(R.el.map (·.1)).getD 0
 |none=>0
def Xjb(tab:List (Nat×TyRow))(nb:Nat)(sl:Nat→AV)(ty:TypeId)(x:Operand):VO:=
 match x with
 | .const (.slice none 0 0)=>(match Di tab ty with|some R=>some (⟨.ref nb 0 0,[.row (XiB (some R)) false []],[]⟩,[])|none=>none)
 |x=>some (⟨Cm sl x,[],[]⟩,[])
def vev(A:Ar)(tab:List (Nat×TyRow))(nb:Nat)(sl:Nat→AV)(rt:Nat→Option Root)(o:Oper):VO:=
 match o.op with
 | .move x=>Xjb tab nb sl o.type x
 | .assign x=>Xjb tab nb sl o.type x
 | .pick c a b=>(match Cm sl c with| .d (.sc (.bool true))=>some (⟨Cm sl a,[],[]⟩,[])| .d (.sc (.bool false))=>some (⟨Cm sl b,[],[]⟩,[])|_=>none)
 | .alloc t=>(match Di tab t with|some R=>(match R.zero with|some zs=>some (⟨(Pv nb t zs).1,(Pv nb t zs).2,[]⟩,[])|none=>none)|none=>none)
 | .box t x=>(match(Cm sl x).leaves with|some l=>some (⟨.ptr nb 0 0,[.box t l],[]⟩,[])|none=>none)
 | .build t ps=>(match Di tab t with
   |some R=>(match R.zero,R.pl,Gw sl ps.toList with
    |some zs,some pl,some l=>(match Zq nb zs pl l with|some r=>some (⟨r.1,r.2,[]⟩,[])|none=>none)
    |_,_,_=>none)
   |none=>none)
 | .buildSlice t n ps=>(match Di tab t with
   |some R=>(match R.ez,Vm A rt sl ps.toList with
    |some z,some (l,p)=>(match Ht nb z n l with|some r=>some (⟨r.1,r.2,[]⟩,p)|none=>none)
    |_,_=>none)
   |none=>none)
 | .load t x=>(match Di tab t with|some R=>XgY (XkL A rt R (Cm sl x))|none=>none)
 | .store t p x=>(match Di tab t with
   |some R=>(match R.sz,opd nb (XiB (some R)) sl x with
    |some n,(av,new)=>(match XgB A rt n (Cm sl p) av with
     |some ((r,R'),q)=>if r<nb then some (⟨.junk,new,[(r,R')]⟩,q)else none
     |none=>none)
    |_,_=>none)
   |none=>none)
 | .nilCheck x=>(match XdK rt (Cm sl x)with|some v=>some (⟨v,[],[]⟩,[])|none=>none)
 | .binOp op t x y _=>(match Di tab t with|some R=>XgY (Xjk A rt R op (Cm sl x) (Cm sl y) y)|none=>none)
 | .unOp op _ x=>XgY (vUn A op (Cm sl x))
 | .convert s d x=>(match Di tab s,Di tab d with|some S,some T=>XgY (XkW A rt S T (Cm sl x))|_,_=>none)
 | .fieldAddr t x f=>(match Di tab t with|some R=>(match R.flds[f]? with|some fl=>XgY (Sk A rt fl (Cm sl x))|none=>none)|none=>none)
 | .field t x f=>(match Di tab t with|some R=>(match R.flds[f]? with|some fl=>(match Wk fl (Cm sl x)with|some v=>some (⟨v,[],[]⟩,[])|none=>none)|none=>none)|none=>none)
 | .indexAddr t x i=>(match Di tab t,Cm sl i with|some R,.d (.sc (.int _ n))=>XgY (R6 A rt R (Cm sl x) n)|_,_=>none)
 | .index t x i=>(match Di tab t,Cm sl i with|some R,.d (.sc (.int _ n))=>XgY (XcT A R (Cm sl x) n)|_,_=>none)
 | .slice t x lo hi none=>(match Di tab t,G4 sl lo,G4 sl hi with|some R,some l,some h=>XgY (XgH A rt R (Cm sl x) l h)|_,_,_=>none)
 | .makeSlice t n m=>(match Di tab t,Cm sl n,Cm sl m with
   |some R,.d (.sc (.int _ n)),.d (.sc (.int _ m))=>(match R.ez with|some z=>some (⟨.ref nb 0 (A.nat n),[.row z.2.1 false (A.mkRow n z.1)],[]⟩,[MakeOk n m z.2.2])|none=>none)
   |_,_,_=>none)
 | .extract x i=>(match Rg i (Cm sl x)with|some v=>some (⟨v,[],[]⟩,[])|none=>none)
 | .makeFunc (.func f) first caps=>if first.size=0 then some (⟨.clo f (caps.toList.map (Cm sl)),[],[]⟩,[])else none
 | .call c=>Xk2 A tab nb sl rt c
 |_=>none
open Go
section
variable {P:Program} {rt:Nat→Option Root} {x y av:AV} {ps:List Prop}
theorem XeL{k:SK}{d:D}(h:∀p∈(Xc2 std k d).2,p):(Xc2 std k d).1=d:=by
 cases k<;>simp only[Xc2]at h⊢
 all_goals
  have:=h _ (List.mem_singleton.2 rfl)
  obtain⟨h⟩:=this
  exact h.symm
theorem Xn{cs:List D}:∀{ks:List SK} {j:Nat},j+ks.length≤cs.length→(∀p∈(N5 std cs j ks).2,p)→(N5 std cs j ks).1=((cs.drop j).take ks.length).map AV.d
 |[],j,_,_=>by simp[N5]
 |k::ks,j,hl,h=>by
  simp only[List.length_cons]at hl
  have hj:j<cs.length:=by omega
  simp only[N5]at h⊢
  rw[XeL (fun p hp=>h p (List.mem_append_left _ hp)),Xn (by omega) (fun p hp=>h p (List.mem_append_right _ hp))]
  have e:cs.drop j=cs[j]::cs.drop (j+1):=List.drop_eq_getElem_cons hj
  have hn:std.nth cs j=cs[j]:=by show(cs[j]?).getD _=_;rw[List.getElem?_eq_getElem hj];rfl
  rw[e,hn]
  simp only[List.length_cons,List.take_succ_cons,List.map_cons]
theorem Xer{t:TypeId}{cs:List D}(h:Xi8 std (Fp P t) cs=some (av,ps))(hp:∀p∈ps,p):∃g n,Xq P t=some g∧szT P t=some n∧(g=true→n≠0)∧Lo (cs.map AV.d) 0 n g=some av:=by
 unfold Xi8 at h
 split at h
 ·rename_i n hg hs
  split at h
  ·rename_i hlen
   obtain⟨hlen,aa⟩:=hlen
   simp only[Option.some.injEq,Prod.mk.injEq]at h
   obtain⟨rfl,rfl⟩:=h
   obtain⟨hl⟩:=hp _ List.mem_cons_self
   refine⟨true,n,hg,hs,fun _=>aa,?_⟩
   rw[Xn (by omega) (fun p h=>hp p (List.mem_cons_of_mem _ h)),hlen]
   have:0+n≤(cs.map AV.d).length:=by simp;omega
   simp only[Lo,if_true,this,List.drop_zero,List.map_take]
  ·cases h
 ·rename_i n k hg hs hk
  simp only[Option.some.injEq,Prod.mk.injEq]at h
  obtain⟨rfl,rfl⟩:=h
  obtain⟨hl⟩:=hp _ List.mem_cons_self
  refine⟨false,n,hg,hs,by simp,?_⟩
  rw[XeL (fun p h=>hp p (List.mem_cons_of_mem _ h))]
  have h0:0<cs.length:=by omega
  have hn:std.nth cs 0=cs[0]:=by show(cs[0]?).getD _=_;rw[List.getElem?_eq_getElem h0];rfl
  rw[hn]
  simp[Lo,h0]
 ·cases h
theorem Xf7{cs:List D}{j n:Nat}{g:Bool}(h0:g=true→n≠0)(h:Lo ((cs.drop j).map AV.d) 0 n g=some av):Lo (cs.map AV.d) j n g=some av:=by
 cases g with
 |false=>simpa[Lo]using h
 |true=>
  simp only[Lo,if_true]at h⊢
  split at h
  ·rename_i hc
   simp only[Nat.zero_add,List.length_map,List.length_drop]at hc
   by_cases hj:j≤cs.length
   ·rw[if_pos (by simp;omega)]
    simpa using h
   ·have:=h0 rfl
    omega
  ·cases h
theorem Xja{t:TypeId}(h:XkL std rt (Fp P t) x=some (av,ps))(hp:∀p∈ps,p):∃g n,Xq P t=some g∧szT P t=some n∧E8 rt n g x=some av:=by
 unfold XkL at h
 split at h
 ·rename_i r i j
  split at h
  ·rename_i sz fz xs hrt
   split at h
   ·rename_i av' p' ht
    simp only[Option.some.injEq,Prod.mk.injEq]at h
    obtain⟨rfl,rfl⟩:=h
    obtain⟨h0,h1⟩:=hp _ List.mem_cons_self
    obtain⟨g,n,hg,hn,aa,htk⟩:=Xer ht (fun p h=>hp p (List.mem_cons_of_mem _ h))
    refine⟨g,n,hg,hn,?_⟩
    have hi:i<xs.length:=by
     have:((i:Int))<((xs.length:Nat):Int):=h1
     omega
    have he:std.elt xs (std.ofNat i)=xs[i]:=by
     show(xs[((i:Nat):Int).toNat]?).getD []=_
     rw[Int.toNat_natCast,List.getElem?_eq_getElem hi];rfl
    simp only[E8,hrt,List.getElem?_eq_getElem hi,Option.bind_some]
    rw[he]at htk
    exact Xf7 aa htk
   ·cases h
  ·rename_i l hrt
   split at h
   ·rename_i g n hg hn
    split at h
    ·rename_i av' ht
     simp only[Option.some.injEq,Prod.mk.injEq]at h
     obtain⟨rfl,rfl⟩:=h
     exact⟨g,n,hg,hn,by simp only[E8,hrt,if_true];exact ht⟩
    ·cases h
   ·cases h
  ·cases h
 ·rename_i cs
  obtain⟨g,n,hg,hn,_,htk⟩:=Xer h hp
  exact⟨g,n,hg,hn,htk⟩
 ·cases h
theorem Z4{t:TypeId}{i:Int}(h:R6 std rt (Fp P t) x i=some (av,ps))(hp:∀p∈ps,p):Ct rt (elT P t) x i=some av:=by
 unfold R6 at h
 split at h
 ·cases h
 ·rename_i esz b hel
  have hel':elT P t=some (esz,b):=hel
  split at h
  ·rename_i r off len
   split at h
   ·rename_i sz fz xs hrt
    split at h
    ·rename_i e
     subst e
     simp only[Option.some.injEq,Prod.mk.injEq]at h
     obtain⟨rfl,rfl⟩:=h
     obtain⟨h0,h1⟩:=hp _ List.mem_cons_self
     have h1':i<(len:Int):=h1
     simp only[Ct,hrt,hel',Option.map_some,true_and]
     rw[if_pos ⟨h0,h1'⟩]
     rfl
    ·cases h
   ·cases h
  ·rename_i sz xs
   split at h
   ·rename_i e
    subst e
    simp only[Option.some.injEq,Prod.mk.injEq]at h
    obtain⟨rfl,rfl⟩:=h
    obtain⟨h0,h1⟩:=hp _ List.mem_cons_self
    have h1':i<(xs.length:Int):=h1
    have hi:i.toNat<xs.length:=by omega
    simp only[Ct,hel',Option.map_some,true_and]
    rw[if_pos h0,List.getElem?_eq_getElem hi]
    have he:std.elt xs i=xs[i.toNat]:=by
     show(xs[i.toNat]?).getD []=_
     rw[List.getElem?_eq_getElem hi];rfl
    rw[he]
    rfl
   ·cases h
  ·cases h
theorem Zy{fl:Option (Nat×Nat×Bool)}(h:Sk std rt fl x=some (av,ps)):C5 rt fl x=some av:=by
 unfold Sk at h
 split at h
 ·split at h
  ·rename_i ha
   split at h
   ·rename_i o n g
    split at h
    ·cases h
    ·rename_i hn
     simp only[Option.some.injEq,Prod.mk.injEq]at h
     obtain⟨rfl,rfl⟩:=h
     simp[C5,ha,hn]
   ·cases h
  ·cases h
 ·split at h
  ·rename_i o n g
   split at h
   ·cases h
   ·rename_i hn
    simp only[Option.some.injEq,Prod.mk.injEq]at h
    obtain⟨rfl,rfl⟩:=h
    simp only[C5,Option.bind_some,hn,if_false]
    rfl
  ·cases h
 ·cases h
end
open Go
section
variable {P:Program} {rt:Nat→Option Root} {x y av:AV} {ps:List Prop}
theorem K5{t:TypeId}(h:G5 (Tp P t)=true):Ho P t=true:=by
 unfold Tp at h
 unfold Ho
 split at h<;>simp_all [G5]
theorem Lf{t:TypeId}{n:Nat}(h:Tp P t= .sl n):Fx P t=true:=by
 unfold Tp at h
 unfold Fx
 split at h<;>simp_all
theorem XaG{t:TypeId}(h:Ze (Tp P t)=true):Hh P t=true:=by
 unfold Tp at h
 unfold Hh
 split at h<;>simp_all [Ze]
theorem Xh3{t:TypeId}{lo hi:Option Int}(h:XgH std rt (Fp P t) x lo hi=some (av,ps))(hp:∀p∈ps,p):Ev rt (elT P t) (Ho P t) x lo hi=some av:=by
 unfold XgH at h
 split at h
 ·rename_i s
  split at h
  ·rename_i hs
   simp only[Option.some.injEq,Prod.mk.injEq]at h
   obtain⟨rfl,rfl⟩:=h
   obtain⟨h0,h1,h2⟩:=hp _ (List.mem_singleton.2 rfl)
   have h2':hi.getD (s.size:Int)≤(s.size:Int):=h2
   have h1':lo.getD 0≤hi.getD (s.size:Int):=h1
   simp only[Ev]
   rw[if_pos ⟨K5 hs,h0,h1',h2'⟩]
   rfl
  ·cases h
 ·rename_i sz xs
  split at h
  ·rename_i esz b hel
   have hel':elT P t=some (esz,b):=hel
   split at h
   ·rename_i e
    subst e
    simp only[Option.some.injEq,Prod.mk.injEq]at h
    obtain⟨rfl,rfl⟩:=h
    obtain⟨h0,h1,h2⟩:=hp _ (List.mem_singleton.2 rfl)
    have h2':hi.getD (xs.length:Int)≤(xs.length:Int):=h2
    have h1':lo.getD 0≤hi.getD (xs.length:Int):=h1
    simp only[Ev,hel',Option.map_some,true_and]
    rw[if_pos ⟨h0,h1',h2'⟩]
    rfl
   ·cases h
  ·cases h
 ·rename_i r off len
  split at h
  ·rename_i sz fz xs esz b hrt hel
   have hel':elT P t=some (esz,b):=hel
   split at h
   ·rename_i e
    subst e
    simp only[Option.some.injEq,Prod.mk.injEq]at h
    obtain⟨rfl,rfl⟩:=h
    obtain⟨h0,h1,h2⟩:=hp _ (List.mem_singleton.2 rfl)
    have h2':hi.getD (len:Int)≤(len:Int):=h2
    have h1':lo.getD 0≤hi.getD (len:Int):=h1
    simp only[Ev,hrt,hel',Option.map_some,true_and]
    rw[if_pos ⟨h0,h1',h2'⟩]
    rfl
   ·cases h
  ·cases h
 ·cases h
theorem Xf8{t:TypeId}{i:Int}(h:XcT std (Fp P t) x i=some (av,ps))(hp:∀p∈ps,p):Jk (Ho P t) x i=some av:=by
 unfold XcT at h
 split at h
 ·rename_i s
  split at h
  ·rename_i hs
   simp only[Option.some.injEq,Prod.mk.injEq]at h
   obtain⟨rfl,rfl⟩:=h
   obtain⟨h0,h1⟩:=hp _ (List.mem_singleton.2 rfl)
   have h1':i<(s.size:Int):=h1
   have hi:i.toNat<s.size:=by omega
   simp only[Jk]
   rw[dif_pos ⟨K5 hs,h0,hi⟩]
   have e:std.sget s i=((s[i.toNat]'hi).toNat:Int):=by
    show(if h:i.toNat<s.size then(((s[i.toNat]'h).toNat:Nat):Int)else 0)=_
    rw[dif_pos hi]
   rw[e]
  ·cases h
 ·cases h
theorem Xkx{t:TypeId}{op:BinOp}(h:vBin std (Fp P t) op x y=some (av,ps))(hp:∀p∈ps,p):Ra P op t x y=some av:=by
 have eqs:∀{ks:List EK} {xs ys:List AV} {b:Bool},vEq std ks xs ys=some b→O7 ks xs ys=some b:=by
  intro ks
  induction ks with
  |nil=>intro xs ys b h;cases xs<;>cases ys<;>simp_all [vEq,O7]
  |cons k ks ih=>
   intro xs ys b h
   unfold vEq at h
   split at h
   ·rename_i h1 h2 h3;first|(cases h1;done)|(cases h2;done)|(cases h3;done)
   ·rename_i h1
    obtain⟨rfl,rfl⟩:=List.cons.inj h1
    split at h
    ·rename_i e
     subst e
     split at h
     ·rename_i r hr
      obtain rfl:=Option.some.inj h
      simp only[O7,Xkz,if_true,Option.bind_some,ih hr,Option.map_some]
      rfl
     ·cases h
    ·cases h
   ·rename_i h1
    obtain⟨rfl,rfl⟩:=List.cons.inj h1
    split at h
    ·rename_i r hr
     obtain rfl:=Option.some.inj h
     simp only[O7,Xkz,Option.bind_some,ih hr,Option.map_some]
     rfl
    ·cases h
   ·rename_i h1
    obtain⟨rfl,rfl⟩:=List.cons.inj h1
    split at h
    ·rename_i r hr
     obtain rfl:=Option.some.inj h
     simp only[O7,Xkz,Option.bind_some,ih hr,Option.map_some]
     rfl
    ·cases h
   ·cases h
 unfold vBin at h
 split at h
 ·rename_i k a k' b
  split at h
  ·simp only[Option.some.injEq,Prod.mk.injEq]at h
   obtain⟨rfl,rfl⟩:=h
   obtain⟨h0⟩:=hp _ (List.mem_singleton.2 rfl)
   simp only[Ra,Kg]
   rw[if_neg (by omega)]
   rfl
  ·simp only[Option.some.injEq,Prod.mk.injEq]at h
   obtain⟨rfl,rfl⟩:=h
   obtain⟨h0⟩:=hp _ (List.mem_singleton.2 rfl)
   simp only[Ra,Kg]
   rw[if_neg (by omega)]
   rfl
  ·rename_i aa ab
   split at h
   ·rename_i e
    subst e
    cases op<;>simp only[XgF]at h<;>first
     |(cases h;done)
     |(simp only[Option.some.injEq,Prod.mk.injEq]at h
       obtain⟨rfl,rfl⟩:=h
       first
        |(obtain⟨h0⟩:=hp _ (List.mem_singleton.2 rfl)
          simp only[Ra,Kg,Q4,if_true,if_neg h0,Option.map_some]
          simp only[std,Q4,if_neg h0,Xey])
        |(simp only[Ra,Kg,Q4,if_true,Option.map_some];rfl))
   ·cases h
 ·rename_i a b
  cases op<;>simp only[Xh1]at h<;>first
   |(cases h;done)
   |(simp only[Option.some.injEq,Prod.mk.injEq]at h
     obtain⟨rfl,rfl⟩:=h
     first
      |(obtain⟨h0⟩:=hp _ (List.mem_singleton.2 rfl)
        simp only[Ra,Kg,Ym]
        rw[if_neg (by omega)]
        rfl)
      |rfl)
 ·rename_i a b
  split at h
  ·rename_i hb
   have hb':=XaG hb
   split at h
   ·simp only[Option.some.injEq,Prod.mk.injEq]at h
    obtain⟨rfl,rfl⟩:=h
    simp only[Ra,Kg,hb',if_true]
    rfl
   ·simp only[Option.some.injEq,Prod.mk.injEq]at h
    obtain⟨rfl,rfl⟩:=h
    simp only[Ra,Kg,hb',if_true]
    rfl
   ·cases h
  ·cases h
 ·rename_i xs ys
  split at h
  ·rename_i ks he
   have he':eqT P t=some ks:=he
   split at h
   ·rename_i b hb
    simp only[Option.some.injEq,Prod.mk.injEq]at h
    obtain⟨rfl,rfl⟩:=h
    simp only[Ra,he',Option.bind_some,eqs hb,Option.map_some]
   ·cases h
  ·rename_i ks he
   have he':eqT P t=some ks:=he
   split at h
   ·rename_i b hb
    simp only[Option.some.injEq,Prod.mk.injEq]at h
    obtain⟨rfl,rfl⟩:=h
    simp only[Ra,he',Option.bind_some,eqs hb,Option.map_some]
    rfl
   ·cases h
  ·cases h
 ·cases h
theorem Xmh{op:UnOp}(h:vUn std op x=some (av,ps)):XlP op x=some av:=by
 unfold vUn at h
 split at h
 ·split at h
  ·simp only[Option.some.injEq,Prod.mk.injEq]at h;obtain⟨rfl,rfl⟩:=h;rfl
  ·cases h
 ·split at h
  ·simp only[Option.some.injEq,Prod.mk.injEq]at h;obtain⟨rfl,rfl⟩:=h;rfl
  ·cases h
 ·cases h
end
open Go
section
variable {P:Program} {rt:Nat→Option Root} {x y av:AV} {ps:List Prop}
theorem Xah(xs:List (List D))(off len:Nat):std.rsub xs (std.ofNat off) (std.ofNat (std.nadd off len))=(xs.drop off).take len:=by
 show(xs.drop ((off:Int)).toNat).take ((((off+len:Nat):Int)).toNat - ((off:Int)).toNat)=_
 rw[Int.toNat_natCast,Int.toNat_natCast]
 congr 1
 omega
theorem XkQ{d:D}(h:vToD std rt x=some (d,ps))(hp:∀p∈ps,p):x.toD rt=some d:=by
 unfold vToD at h
 split at h
 ·simp only[Option.some.injEq,Prod.mk.injEq]at h
  obtain⟨rfl,rfl⟩:=h
  rfl
 ·split at h
  ·rename_i r off len sz xs hrt
   simp only[Option.some.injEq,Prod.mk.injEq]at h
   obtain⟨rfl,rfl⟩:=h
   obtain⟨h0⟩:=hp _ (List.mem_singleton.2 rfl)
   simp only[AV.toD,hrt,h0,if_true,Xah]
  ·cases h
 ·cases h
theorem Yy:∀{l:List AV} {ds:List D} {ps:List Prop},XfO std rt l=some (ds,ps)→(∀p∈ps,p)→Xct rt l=some ds
 |[],ds,ps,h,_=>by
  simp only[XfO,Option.some.injEq,Prod.mk.injEq]at h
  obtain⟨rfl,_⟩:=h
  rfl
 |x::l,ds,ps,h,hp=>by
  simp only[XfO]at h
  split at h
  ·rename_i d p ds' q h1 h2
   simp only[Option.some.injEq,Prod.mk.injEq]at h
   obtain⟨rfl,rfl⟩:=h
   simp only[Xct,XkQ h1 (fun r hr=>hp r (List.mem_append_left _ hr)),Option.bind_some,Yy h2 (fun r hr=>hp r (List.mem_append_right _ hr)),Option.map_some]
  ·cases h
theorem Xkt{n:Nat}{ys:List (List D)}(h:vSrc std rt x=some (n,ys,ps))(hp:∀p∈ps,p):x.src rt=some (n,ys):=by
 unfold vSrc at h
 split at h
 ·simp only[Option.some.injEq,Prod.mk.injEq]at h
  obtain⟨rfl,rfl,rfl⟩:=h
  rfl
 ·simp only[Option.some.injEq,Prod.mk.injEq]at h
  obtain⟨rfl,rfl,rfl⟩:=h
  rfl
 ·split at h
  ·rename_i r off len sz fz xs hrt
   simp only[Option.some.injEq,Prod.mk.injEq]at h
   obtain⟨rfl,rfl,rfl⟩:=h
   obtain⟨h0⟩:=hp _ (List.mem_singleton.2 rfl)
   simp only[AV.src,AV.view,hrt,h0,if_true,Xah]
  ·cases h
 ·cases h
theorem XfB{nb:Nat}{t:TypeId}{s:AV}{out:Out}(h:U1 std rt nb (Fp P t) s x=some (out,ps))(hp:∀p∈ps,p):
  (ezT P t).isSome=true∧∃r,Dz rt nb (elT P t) s x=some (out.av,out.new,r)∧out.g=[(r,.dead)]:=by
 unfold U1 at h
 split at h
 ·rename_i r off len n bytes z hel hez
  have hel':elT P t=some (n,bytes):=hel
  have hez':ezT P t=some z:=hez
  split at h
  ·rename_i sz xs sz' ys p hrt hsrc
   split at h
   ·rename_i e
    obtain⟨rfl,rfl⟩:=e
    simp only[Option.some.injEq,Prod.mk.injEq]at h
    obtain⟨rfl,rfl⟩:=h
    obtain⟨h0,h1,h2,h3⟩:=hp _ List.mem_cons_self
    refine⟨by rw[hez'];rfl,r,?_,rfl⟩
    simp only[Dz,hrt,Xkt hsrc (fun q hq=>hp q (List.mem_cons_of_mem _ hq)),Option.bind_some,hel']
    rw[if_pos ⟨h0,h1,trivial,trivial,h2,h3⟩]
    have e:std.nat (std.len (std.app xs ys))=xs.length+ys.length:=by
     show(((xs++ys).length:Nat):Int).toNat=_
     rw[Int.toNat_natCast,List.length_append]
    rw[e]
    rfl
   ·cases h
  ·cases h
 ·cases h
theorem Xix{n:Nat}{p:AV}{q:Nat×Root}(h:XgB std rt n p x=some (q,ps))(hp:∀r∈ps,r):F2 rt n p x=some q:=by
 unfold XgB at h
 split at h
 ·rename_i r i j
  split at h
  ·rename_i l hrt
   split at h
   ·rename_i ys hys
    split at h
    ·rename_i hc
     simp only[Option.some.injEq,Prod.mk.injEq]at h
     obtain⟨rfl,rfl⟩:=h
     simp only[F2,hrt,hys,Option.bind_some,true_and]
     rw[if_pos hc]
    ·cases h
   ·cases h
  ·rename_i sz xs hrt
   split at h
   ·rename_i ys hys
    split at h
    ·rename_i ds q' hds
     split at h
     ·rename_i hn
      simp only[Option.some.injEq,Prod.mk.injEq]at h
      obtain⟨rfl,rfl⟩:=h
      obtain⟨h0,h1⟩:=hp _ List.mem_cons_self
      obtain⟨h2⟩:=hp _ (List.mem_cons_of_mem _ List.mem_cons_self)
      have hi:i<xs.length:=by
       have:(i:Int)<(xs.length:Int):=h1
       omega
      have he:std.elt xs (std.ofNat i)=xs[i]:=by
       show(xs[((i:Nat):Int).toNat]?).getD []=_
       rw[Int.toNat_natCast,List.getElem?_eq_getElem hi];rfl
      rw[he]at h2
      simp only[F2,hrt,hys,Option.bind_some,Yy hds (fun r hr=>hp r (List.mem_cons_of_mem _ (List.mem_cons_of_mem _ hr))),List.getElem?_eq_getElem hi]
      rw[if_pos ⟨hn,h2⟩]
      have e:std.set xs i j ds=xs.set i (Kt xs[i] j ds):=by
       show xs.set i (Kt ((xs[i]?).getD []) j ds)=_
       rw[List.getElem?_eq_getElem hi];rfl
      rw[e]
     ·cases h
    ·cases h
   ·cases h
  ·cases h
 ·cases h
theorem Xjg{nb:Nat}{s d:TypeId}(h:XkW std rt (Fp P s) (Fp P d) x=some (av,ps))(hp:∀p∈ps,p):
  ∃src dst,P.underlying s=some src∧P.underlying d=some dst∧M1 rt nb src dst (Do P s) x=some (av,[]):=by
 have uInt:∀{t:TypeId} {k:IntKind},Tp P t= .int k→P.underlying t=some (.int k):=by
  intro t k h
  unfold Tp at h
  split at h<;>simp_all
 have uStr:∀{t:TypeId},Tp P t= .str→P.underlying t=some .string:=by
  intro t h
  unfold Tp at h
  split at h<;>simp_all
 have uBs:Do P s=true→∃u,P.underlying s=some u:=by
  intro hb
  unfold Do at hb
  cases hu:P.underlying s with
  |none=>simp[hu]at hb
  |some u=>exact⟨u,rfl⟩
 unfold XkW at h
 split at h
 ·rename_i k k' n hT
  split at h
  ·rename_i k'' hS
   simp only[Option.some.injEq,Prod.mk.injEq]at h
   obtain⟨rfl,rfl⟩:=h
   exact⟨_,_,uInt hS,uInt hT,rfl⟩
  ·cases h
 ·rename_i s' hT
  split at h
  ·rename_i hS
   simp only[Option.some.injEq,Prod.mk.injEq]at h
   obtain⟨rfl,rfl⟩:=h
   have hS':Tp P s= .str:=by
    have hS0:G5 (Tp P s)=true:=hS
    cases hk:Tp P s<;>rw[hk]at hS0<;>first|rfl|simp[G5]at hS0
   exact⟨_,_,uStr hS',uStr hT,rfl⟩
  ·cases h
 ·rename_i sz xs hT
  split at h
  ·rename_i hc
   obtain⟨hb,rfl⟩:=hc
   simp only[Option.some.injEq,Prod.mk.injEq]at h
   obtain⟨rfl,rfl⟩:=h
   obtain⟨ns,hns⟩:=hp _ (List.mem_singleton.2 rfl)
   obtain⟨u,hu⟩:=uBs hb
   have hb':Do P s=true:=hb
   refine⟨u,_,hu,uStr hT,?_⟩
   have e:std.bytes xs=Et ns:=by
    show(match G1 xs with|some ns=>Et ns|none=>default)=_
    rw[hns]
   simp only[M1,hb',if_true,AV.view,Option.bind_some,hns,Option.map_some,e]
  ·cases h
 ·rename_i r off len hT
  split at h
  ·rename_i sz fz xs hrt
   split at h
   ·rename_i hc
    obtain⟨hb,rfl⟩:=hc
    simp only[Option.some.injEq,Prod.mk.injEq]at h
    obtain⟨rfl,rfl⟩:=h
    obtain⟨h0⟩:=hp _ List.mem_cons_self
    obtain⟨ns,hns⟩:=hp _ (List.mem_cons_of_mem _ List.mem_cons_self)
    obtain⟨u,hu⟩:=uBs hb
    have hb':Do P s=true:=hb
    refine⟨u,_,hu,uStr hT,?_⟩
    rw[Xah]at hns⊢
    have e:std.bytes ((xs.drop off).take len)=Et ns:=by
     show(match G1 ((xs.drop off).take len)with|some ns=>Et ns|none=>default)=_
     rw[hns]
    simp only[M1,hb',if_true,AV.view,hrt,h0,Option.bind_some,hns,Option.map_some,e]
   ·cases h
  ·cases h
 ·cases h
theorem XiJ{t:TypeId}{op:BinOp}{y:AV}{yo:Operand}(h:Xjk std rt (Fp P t) op x y yo=some (av,ps))(hp:∀p∈ps,p):M4 P rt op t x y yo=some av:=by
 cases hn:Pc yo with
 |false=>
  simp only[Xjk,M4,hn]at h⊢
  exact Xkx h hp
 |true=>
  simp only[Xjk,M4,hn]at h⊢
  split at h
  ·rename_i n sz xs hs
   simp only[Option.some.injEq,Prod.mk.injEq]at h
   obtain⟨rfl,rfl⟩:=h
   simp only[Lf hs,if_true,Ls,Option.map_some]
   rfl
  ·rename_i n r off len hs
   split at h
   ·rename_i ha
    simp only[Option.some.injEq,Prod.mk.injEq]at h
    obtain⟨rfl,rfl⟩:=h
    simp only[Lf hs,if_true,Ls,ha,Option.map_some]
    congr 2
    show(len==0)=((len:Int)==0)
    rw[Bool.eq_iff_iff]
    simp
   ·cases h
  ·cases h
theorem XkZ{t:TypeId}(h:vLen std rt (Fp P t) x=some (av,ps)):Qm P rt t x=some av:=by
 unfold vLen at h
 split at h
 ·split at h
  ·rename_i hs
   simp only[Option.some.injEq,Prod.mk.injEq]at h
   obtain⟨rfl,rfl⟩:=h
   simp only[Qm,K5 hs,if_true]
   rfl
  ·cases h
 ·split at h
  ·rename_i n hs
   simp only[Option.some.injEq,Prod.mk.injEq]at h
   obtain⟨rfl,rfl⟩:=h
   simp only[Qm,Lf hs,if_true]
   rfl
  ·cases h
 ·split at h
  ·rename_i n hs
   split at h
   ·rename_i ha
    simp only[Option.some.injEq,Prod.mk.injEq]at h
    obtain⟨rfl,rfl⟩:=h
    simp only[Qm,Lf hs,ha,Bool.and_self,if_true]
    rfl
   ·cases h
  ·cases h
 ·cases h
theorem Yn{sl:Nat→AV}:∀{l:List (Nat×Operand)} {r:List (Nat×List D)} {ps:List Prop},Vm std rt sl l=some (r,ps)→(∀p∈ps,p)→I6 rt sl l=some r
 |[],r,ps,h,_=>by
  simp only[Vm,Option.some.injEq,Prod.mk.injEq]at h
  obtain⟨rfl,_⟩:=h
  rfl
 |(i,x)::l,r,ps,h,hp=>by
  simp only[Vm]at h
  split at h
  ·cases h
  ·rename_i ls hl
   split at h
   ·rename_i ds p r' q h1 h2
    simp only[Option.some.injEq,Prod.mk.injEq]at h
    obtain⟨rfl,rfl⟩:=h
    simp only[I6,hl,Option.bind_some,Yy h1 (fun s hs=>hp s (List.mem_append_left _ hs)),Yn h2 (fun s hs=>hp s (List.mem_append_right _ hs)),Option.map_some]
   ·cases h
end
open Go
section
variable {P:Program} {rt:Nat→Option Root} {ps:List Prop}
theorem H1{x:VA}{out:Out}(h:XgY x=some (out,ps)):x=some (out.av,ps)∧out.new=[]∧out.g=[]:=by
 unfold XgY at h
 split at h
 ·simp only[Option.some.injEq,Prod.mk.injEq]at h
  obtain⟨rfl,rfl⟩:=h
  exact⟨rfl,rfl,rfl⟩
 ·cases h
theorem Lc{out:Out}{av:AV}{new:List Root}{g:List (Nat×Root)}(h1:out.av=av)(h2:out.new=new)(h3:out.g=g):out=⟨av,new,g⟩:=by cases out;simp_all
theorem Xjq{tab:List (Nat×TyRow)}(hT:B8 P tab){nb:Nat}{sl:Nat→AV}{c:Call}{out:Out}(h:Xk2 std tab nb sl rt c=some (out,ps))(hp:∀p∈ps,p):Nz P nb sl rt c=some out:=by
 unfold Xk2 at h
 unfold Nz
 split at h
 ·rename_i x t hc ha ht
  split at h
  ·rename_i R hR
   obtain⟨h1,h2,h3⟩:=H1 h
   rw[hT t R hR]at h1
   simp only[hc,ha,ht,XkZ h1,Option.map_some]
   rw[Lc rfl h2 h3]
  ·cases h
 ·rename_i s x t xt hc ha ht
  simp only[hc,ha,ht]
  split at h
  ·rename_i R X hR hX
   have key:∀(hcond:(Fx P xt||Ho P xt)=true),U1 std rt nb R (Cm sl s) (Cm sl x)=some (out,ps)→
     (if((ezT P t).isSome&&(Fx P xt||Ho P xt))=true then Option.map (fun x=>{av:=x.1,new:=x.2.1,g:=[(x.2.2,Root.dead)]}) (Dz rt nb (elT P t) (Cm sl s) (Cm sl x))else none)=some out:=by
    intro hcond h
    rw[hT t R hR]at h
    obtain⟨h1,r,h2,h3⟩:=XfB h hp
    rw[if_pos (by rw[h1,hcond];rfl),h2,Option.map_some,Lc rfl rfl h3]
   split at h
   ·rename_i n hX'
    rw[hT xt X hX]at hX'
    exact key (by rw[Lf hX'];rfl) h
   ·rename_i hX'
    rw[hT xt X hX]at hX'
    have:Ho P xt=true:=K5 (by
     show G5 (Fp P xt).sk=true
     rw[hX'];rfl)
    exact key (by rw[this];simp) h
   ·cases h
  ·cases h
 ·rename_i x y hc ha
  split at h
  ·rename_i k a k' b hx hy
   simp only[Option.some.injEq,Prod.mk.injEq]at h
   obtain⟨rfl,_⟩:=h
   simp only[hc,ha,hx,hy,K4,if_true,Option.map_some]
   rfl
  ·cases h
 ·rename_i x y hc ha
  split at h
  ·rename_i k a k' b hx hy
   simp only[Option.some.injEq,Prod.mk.injEq]at h
   obtain⟨rfl,_⟩:=h
   simp only[hc,ha,hx,hy,K4,Option.map_some]
   rfl
  ·cases h
 ·cases h
theorem Xbs{t:TypeId}{f:Nat}{fl:Option (Nat×Nat×Bool)}(h:(XkA P t)[f]? =some fl):Xjm P t f=fl:=by
 unfold XkA at h
 split at h
 ·rename_i fs hu
  rw[List.getElem?_map]at h
  obtain⟨i,hi,rfl⟩:=Option.map_eq_some_iff.1 h
  have:f<fs.size:=by
   have:=(List.getElem?_eq_some_iff.1 hi).1
   simpa using this
  rw[List.getElem?_range this]at hi
  rw[←Option.some.inj hi]
 ·simp at h
theorem K9{sl:Nat→AV}{i:Operand}{k:IntKind}{n:Int}(h:Cm sl i= .d (.sc (.int k n))):Tb (Cm sl i)=some n:=by rw[h];rfl
theorem Xed{tab:List (Nat×TyRow)}(hT:B8 P tab){nb:Nat}{sl:Nat→AV}{t:TypeId}{x:Operand}{out:Out}(h:Xjb tab nb sl t x=some (out,ps)):some (⟨(opd nb (Ry P t) sl x).1,(opd nb (Ry P t) sl x).2,[]⟩:Out)=some out:=by
 unfold Xjb at h
 split at h
 ·split at h
  ·rename_i R hR
   have e:=hT t R hR
   subst e
   simp only[Option.some.injEq,Prod.mk.injEq]at h
   rw[←h.1]
   rfl
  ·cases h
 ·rename_i hx
  simp only[Option.some.injEq,Prod.mk.injEq]at h
  rw[←h.1]
  have:opd nb (Ry P t) sl x=(Cm sl x,[]):=by
   unfold opd
   split
   ·exact(hx rfl).elim
   ·rfl
  rw[this]
theorem Xce{tab:List (Nat×TyRow)}(hT:B8 P tab){nb:Nat}{sl:Nat→AV}{o:Oper}{out:Out}(h:vev std tab nb sl rt o=some (out,ps))(hp:∀p∈ps,p):ev P nb sl rt o=some out:=by
 unfold vev at h
 unfold ev
 split at h
 ·rename_i x ho
  simp only[ho]
  exact Xed hT h
 ·rename_i x ho
  simp only[ho]
  exact Xed hT h
 ·rename_i c a b ho
  split at h
  ·rename_i hc
   simp only[Option.some.injEq,Prod.mk.injEq]at h
   simp only[ho,hc,if_true,←h.1]
  ·rename_i hc
   simp only[Option.some.injEq,Prod.mk.injEq]at h
   simp only[ho,hc,←h.1]
   rfl
  ·cases h
 ·rename_i t ho
  split at h
  ·rename_i R hR
   have e:=hT t R hR
   subst e
   split at h
   ·rename_i zs hz
    have hz':Kd P t=some zs:=hz
    simp only[Option.some.injEq,Prod.mk.injEq]at h
    simp only[ho,hz',Option.map_some,←h.1]
   ·cases h
  ·cases h
 ·rename_i t x ho
  split at h
  ·rename_i l hl
   simp only[Option.some.injEq,Prod.mk.injEq]at h
   simp only[ho,Xjl,hl,Option.map_some,←h.1]
  ·cases h
 ·rename_i t ps' ho
  split at h
  ·rename_i R hR
   have e:=hT t R hR
   subst e
   split at h
   ·rename_i zs pl l hz hpl hl
    have hz':Kd P t=some zs:=hz
    have hpl':Vw P t=some pl:=hpl
    split at h
    ·rename_i r hr
     simp only[Option.some.injEq,Prod.mk.injEq]at h
     simp only[ho,hz',hpl',hl,Option.bind_some,hr,Option.map_some,←h.1]
    ·cases h
   ·cases h
  ·cases h
 ·rename_i t n ps' ho
  split at h
  ·rename_i R hR
   have e:=hT t R hR
   subst e
   split at h
   ·rename_i z l p hz hl
    have hz':ezT P t=some z:=hz
    split at h
    ·rename_i r hr
     simp only[Option.some.injEq,Prod.mk.injEq]at h
     obtain⟨h1,rfl⟩:=h
     simp only[ho,hz',Yn hl hp,Option.bind_some,hr,Option.map_some,←h1]
    ·cases h
   ·cases h
  ·cases h
 ·rename_i t x ho
  split at h
  ·rename_i R hR
   have e:=hT t R hR
   subst e
   obtain⟨h1,h2,h3⟩:=H1 h
   obtain⟨g,n,hg,hn,hl⟩:=Xja h1 hp
   simp only[ho,hg,hn,Option.bind_some,hl,Option.map_some]
   rw[Lc rfl h2 h3]
  ·cases h
 ·rename_i t p x ho
  split at h
  ·rename_i R hR
   have e:=hT t R hR
   subst e
   split at h
   ·rename_i n av new hn hopd
    have hn':szT P t=some n:=hn
    have hopd':opd nb (Ry P t) sl x=(av,new):=hopd
    split at h
    ·rename_i r R' q hst
     split at h
     ·rename_i hlt
      simp only[Option.some.injEq,Prod.mk.injEq]at h
      obtain⟨h1,rfl⟩:=h
      simp only[ho,hn',Option.bind_some,hopd',Xix hst hp,hlt,if_true,←h1]
     ·cases h
    ·cases h
   ·cases h
  ·cases h
 ·rename_i x ho
  split at h
  ·rename_i v hv
   simp only[Option.some.injEq,Prod.mk.injEq]at h
   simp only[ho,hv,Option.map_some,←h.1]
  ·cases h
 ·rename_i op t x y yt ho
  split at h
  ·rename_i R hR
   have e:=hT t R hR
   subst e
   obtain⟨h1,h2,h3⟩:=H1 h
   simp only[ho,XiJ h1 hp,Option.map_some]
   rw[Lc rfl h2 h3]
  ·cases h
 ·rename_i op t x ho
  obtain⟨h1,h2,h3⟩:=H1 h
  simp only[ho,Xmh h1,Option.map_some]
  rw[Lc rfl h2 h3]
 ·rename_i s d x ho
  split at h
  ·rename_i S T hS hT'
   have e:=hT s S hS
   subst e
   have e:=hT d T hT'
   subst e
   obtain⟨h1,h2,h3⟩:=H1 h
   obtain⟨src,dst,k1,k2,k3⟩:=Xjg (nb:=nb) h1 hp
   simp only[ho,k1,k2,Option.bind_some,k3,Option.map_some]
   rw[Lc rfl h2 h3]
  ·cases h
 ·rename_i t x f ho
  split at h
  ·rename_i R hR
   have e:=hT t R hR
   subst e
   split at h
   ·rename_i fl hfl
    obtain⟨h1,h2,h3⟩:=H1 h
    simp only[ho,Xbs hfl,Zy h1,Option.map_some]
    rw[Lc rfl h2 h3]
   ·cases h
  ·cases h
 ·rename_i t x f ho
  split at h
  ·rename_i R hR
   have e:=hT t R hR
   subst e
   split at h
   ·rename_i fl hfl
    split at h
    ·rename_i v hv
     simp only[Option.some.injEq,Prod.mk.injEq]at h
     simp only[ho,Xbs hfl,hv,Option.map_some,←h.1]
    ·cases h
   ·cases h
  ·cases h
 ·rename_i t x i ho
  split at h
  ·rename_i R k n hR hi
   have e:=hT t R hR
   subst e
   obtain⟨h1,h2,h3⟩:=H1 h
   simp only[ho,K9 hi,Option.bind_some,Z4 h1 hp,Option.map_some]
   rw[Lc rfl h2 h3]
  ·cases h
 ·rename_i t x i ho
  split at h
  ·rename_i R k n hR hi
   have e:=hT t R hR
   subst e
   obtain⟨h1,h2,h3⟩:=H1 h
   simp only[ho,K9 hi,Option.bind_some,Xf8 h1 hp,Option.map_some]
   rw[Lc rfl h2 h3]
  ·cases h
 ·rename_i t x lo hi ho
  split at h
  ·rename_i R l m hR hl hm
   have e:=hT t R hR
   subst e
   obtain⟨h1,h2,h3⟩:=H1 h
   simp only[ho,hl,hm,Option.bind_some,Xh3 h1 hp,Option.map_some]
   rw[Lc rfl h2 h3]
  ·cases h
 ·rename_i t n m ho
  split at h
  ·rename_i R k n' k' m' hR hn hm
   have e:=hT t R hR
   subst e
   split at h
   ·rename_i z hz
    have hz':ezT P t=some z:=hz
    simp only[Option.some.injEq,Prod.mk.injEq]at h
    obtain⟨h1,rfl⟩:=h
    obtain⟨k1,k2,k3,k4⟩:=hp _ (List.mem_singleton.2 rfl)
    simp only[ho,hz',K9 hn,K9 hm,Option.bind_some,Xbj]
    rw[if_pos ⟨k1,k2,k3,k4⟩,←h1]
    rfl
   ·cases h
  ·cases h
 ·rename_i x i ho
  split at h
  ·rename_i v hv
   simp only[Option.some.injEq,Prod.mk.injEq]at h
   simp only[ho,hv,Option.map_some,←h.1]
  ·cases h
 ·rename_i f first caps ho
  obtain⟨h0,h⟩:=Option.ite_none_right_eq_some.1 h
  simp only[Option.some.injEq,Prod.mk.injEq]at h
  simp only[ho,h0,if_true,←h.1]
 ·rename_i c ho
  simp only[ho]
  exact Xjq hT h hp
 ·cases h
end
open Go
def br(b:Bool)(p q:Unit→Prop):Prop:=match b with|true=>p ()|false=>q ()
def XeJ:List Prop→Prop→Prop
 |[],k=>k
 |p::ps,k=>p∧XeJ ps k
inductive GV where
 |yes
 |no
 |test (t:Nat) (b w:Bool)
 |bad
def Q6(ops:Array Oper)(o:Oper)(sl:Nat→AV):GV:=
 match o.guard with
 |none=>.yes
 |some (g,w)=>match ops[g]? with
  |some og=>(match og.dst with
   |some t=>(match sl t with| .d (.sc (.bool b))=>.test t b w| .tup []=>.no|_=>.bad)
   |none=>.bad)
  |none=>.bad
def Xld(o:Oper):Oper:={o with guard:=none}
inductive ClW (P:Program) (o:Oper) (st:St) (k:Out→List Nat→Prop):Prop
 |mk (out:Out) (T:List Nat) (h:OpSem P #[o] 0 T st.sl st.look st.rt.length out) (hl:∀p∈out.g,p.1<st.rt.length+out.new.length) (hk:k out T):ClW P o st k
inductive LpW (P:Program) (N:Nat) (body:Code) (Q:Exit→St→Prop) (st:St):Prop
 |mk (h:AW P N (.loop body) Q st):LpW P N body Q st
def Xfs(P:Program)(A:Ar)(tab:List (Nat×TyRow))(o:Oper)(st:St)(k:Out→List Nat→Prop):Prop:=
 match Xl9 o with
 |true=>ClW P (Xld o) st k
 |false=>match vev A tab st.rt.length st.sl st.look o with
  |some (out,ps)=>(match out.g.all (fun p=>p.1<st.rt.length+out.new.length)with
   |true=>XeJ ps (k out (Op.touched st.sl o.op))
   |false=>False)
  |none=>False
def Xhn(P:Program)(A:Ar)(tab:List (Nat×TyRow))(ops:Array Oper):List Oper→St→List Eff→(List Eff→St→Prop)→Prop
 |[],st,acc,K=>K acc st
 |o::l,st,acc,K=>
  match Q6 ops o st.sl with
  | .yes=>Xfs P A tab o st fun out T=>Xhn P A tab ops l (st.put o.dst out) (acc++[⟨out.g.map (·.1),out.new.length,T⟩]) K
  | .test t b true=>br b (fun _=>Xfs P A tab o ⟨Vg st.sl t (.d (.sc (.bool true))),st.rt⟩ fun out T=>Xhn P A tab ops l (St.put ⟨Vg st.sl t (.d (.sc (.bool true))),st.rt⟩ o.dst out) (acc++[⟨out.g.map (·.1),out.new.length,T⟩]) K)
    (fun _=>Xhn P A tab ops l (St.put ⟨Vg st.sl t (.d (.sc (.bool false))),st.rt⟩ o.dst ⟨.tup [],[],[]⟩) (acc++[⟨[],0,[]⟩]) K)
  | .test t b false=>br b (fun _=>Xhn P A tab ops l (St.put ⟨Vg st.sl t (.d (.sc (.bool true))),st.rt⟩ o.dst ⟨.tup [],[],[]⟩) (acc++[⟨[],0,[]⟩]) K)
    (fun _=>Xfs P A tab o ⟨Vg st.sl t (.d (.sc (.bool false))),st.rt⟩ fun out T=>Xhn P A tab ops l (St.put ⟨Vg st.sl t (.d (.sc (.bool false))),st.rt⟩ o.dst out) (acc++[⟨out.g.map (·.1),out.new.length,T⟩]) K)
  | .no=>Xhn P A tab ops l (st.put o.dst ⟨.tup [],[],[]⟩) (acc++[⟨[],0,[]⟩]) K
  | .bad=>False
def anyB(p:Bool)(t e:Unit→Prop):Prop:=(p=true→t ())∧e ()
def ifB(b:Bool)(p:Unit→Prop):Prop:=match b with|true=>p ()|false=>False
def St.known(st:St):Operand→Bool→St
 | .tmp t,b=>⟨Vg st.sl t (.d (.sc (.bool b))),st.rt⟩
 |_,_=>st
def vc(P:Program)(A:Ar)(tab:List (Nat×TyRow))(N:Nat):Code→(Exit→St→Prop)→St→Prop
 | .skip,Q,st=>Q .normal st
 | .ret,Q,st=>Q .ret st
 | .exit id,Q,st=>Q (.exit id) st
 | .label _,Q,st=>Q .normal st
 | .seq a b,Q,st=>vc P A tab N a (Exit.thenQ (fun st'=>vc P A tab N b Q st') Q) st
 | .cond x t e,Q,st=>(match Cm st.sl x with
   | .d (.sc (.bool b))=>br b (fun _=>vc P A tab N t Q (st.known x true)) (fun _=>vc P A tab N e Q (st.known x false))
   | .anyb p=>anyB p (fun _=>vc P A tab N t Q st) (fun _=>vc P A tab N e Q st)
   |_=>False)
 | .block id b,Q,st=>vc P A tab N b (Exit.blockQ id Q) st
 | .loop b,Q,st=>LpW P N b Q st
 | .region _ ops draw,Q,st=>ifB (ops.toList.all (Ul N)) fun _=>Xhn P A tab ops ops.toList st [] fun effs st'=>ifB (!draw||N3 ops N st.rt.length effs) fun _=>Q .normal st'
 |_,_,_=>False
section
variable {P:Program} {N:Nat} {tab:List (Nat×TyRow)} {Q:Exit→St→Prop}
theorem Ur:∀{ps:List Prop} {k:Prop},XeJ ps k→(∀p∈ps,p)∧k
 |[],k,h=>⟨by simp,h⟩
 |p::ps,k,h=>by
  obtain⟨h1,h2⟩:=h
  obtain⟨h3,h4⟩:=Ur h2
  refine⟨?_,h4⟩
  intro q hq
  rcases List.mem_cons.1 hq with rfl|hq
  ·exact h1
  ·exact h3 q hq
theorem OpSem.at{ops:Array Oper}{i nb:Nat}{o:Oper}{T:List Nat}{sl:Nat→AV}{rt:Nat→Option Root}{out:Out}(h:OpSem P #[Xld o] 0 T sl rt nb out)(ho:ops[i]? =some o)(hg:Ey ops o sl=some true):OpSem P ops i T sl rt nb out:=by
 obtain⟨o',ho',H⟩:=h
 simp at ho'
 subst ho'
 refine⟨o,ho,?_⟩
 intro c E a hM hl hT hnb hF K Q k
 have hl':XcL E #[Xld o] (Xld o) sl a:=by
  intro t ht
  refine hl t ?_
  unfold Oper.looksAt at ht⊢
  simp only[Xld,List.append_nil]at ht
  exact List.mem_append_left _ ht
 have key:=H c E a hM hl' hT hnb hF K Q k
 unfold wpOp
 rw[ho]
 simp only[C4 hl hg,if_true]
 exact key
theorem Ic{sl:Nat→AV}{t:Nat}{x:AV}(h:sl t=x):Vg sl t x=sl:=by
 funext s
 unfold Vg
 split
 ·rename_i e;rw[e,h]
 ·rfl
theorem Ob{st:St}{x:Operand}{b:Bool}(h:Cm st.sl x= .d (.sc (.bool b))):st.known x b=st:=by
 cases x with
 |tmp t=>
  show(⟨Vg st.sl t (.d (.sc (.bool b))),st.rt⟩:St)=st
  rw[Ic h]
 |_=>rfl
theorem Mb{ops:Array Oper}{o:Oper}{sl:Nat→AV}{t:Nat}{b w:Bool}(h:Q6 ops o sl= .test t b w):sl t= .d (.sc (.bool b))∧Ey ops o sl=some (b==w):=by
 unfold Q6 at h
 split at h
 ·cases h
 ·rename_i g w' hg
  split at h
  ·rename_i og hog
   split at h
   ·rename_i t' ht'
    split at h
    ·rename_i b' hs
     simp only[GV.test.injEq]at h
     obtain⟨rfl,rfl,rfl⟩:=h
     refine⟨hs,?_⟩
     simp only[Ey,hg,hog,Option.bind_some,ht',hs]
    ·cases h
    ·cases h
   ·cases h
  ·cases h
theorem Xcb{ops:Array Oper}{o:Oper}{sl:Nat→AV}(h:Q6 ops o sl= .no):Ey ops o sl=some false:=by
 unfold Q6 at h
 split at h
 ·cases h
 ·rename_i g w' hg
  split at h
  ·rename_i og hog
   split at h
   ·rename_i t' ht'
    split at h
    ·cases h
    ·rename_i hs
     simp only[Ey,hg,hog,Option.bind_some,ht',hs]
    ·cases h
   ·cases h
  ·cases h
theorem W3{ops:Array Oper}{o:Oper}{sl:Nat→AV}(h:Q6 ops o sl= .yes):Ey ops o sl=some true:=by
 unfold Q6 at h
 split at h
 ·rename_i hg;simp only[Ey,hg]
 ·split at h
  ·split at h
   ·split at h<;>cases h
   ·cases h
  ·cases h
theorem XjE(hT:B8 P tab){ops:Array Oper}{i:Nat}{o:Oper}{st:St}{acc:List Eff}{K:List Eff→St→Prop}{k:Out→List Nat→Prop}(h:Xfs P std tab o st k)(ho:ops[i]? =some o)(hd:Ul N o=true)(hg:Ey ops o st.sl=some true)
  (hk:∀out T,k out T→RW P N ops (i+1) (st.put o.dst out) (acc++[⟨out.g.map (·.1),out.new.length,T⟩]) K):RW P N ops i st acc K:=by
 unfold Xfs at h
 split at h
 ·obtain⟨out,T,h1,h2,h3⟩:=h
  exact RW.cons ho (D6 hd) (h1.at ho hg) h2 (hk out T h3)
 ·split at h
  ·rename_i out ps hv
   split at h
   ·rename_i hall
    obtain⟨h1,h2⟩:=Ur h
    have hev:=Xce hT hv h1
    refine RW.cons ho (D6 hd) (OpSem.ev ho hg hev) ?_ (hk out _ h2)
    intro p hp
    simpa using List.all_eq_true.1 hall p hp
   ·exact h.elim
  ·exact h.elim
theorem Xdc(hT:B8 P tab){ops:Array Oper}{K:List Eff→St→Prop}:∀{l:List Oper} {i:Nat} {st:St} {acc:List Eff},(∀(k:Nat) o,l[k]? =some o→ops[i+k]? =some o∧Ul N o=true)→i+l.length=ops.size→Xhn P std tab ops l st acc K→RW P N ops i st acc K
 |[],i,st,acc,_,hn,h=>RW.done (by simpa using hn) h
 |o::l,i,st,acc,hl,hn,h=>by
  obtain⟨ho,hd⟩:=hl 0 o rfl
  simp only[Nat.add_zero]at ho
  have hl':∀(k:Nat) o,l[k]? =some o→ops[i+1+k]? =some o∧Ul N o=true:=by
   intro k' o' h'
   have:=hl (k'+1) o' (by simpa using h')
   rwa[show i+(k'+1)=i+1+k' by omega]at this
  have hn':i+1+l.length=ops.size:=by simp at hn;omega
  have skip:∀{st:St},Ey ops o st.sl=some false→Xhn P std tab ops l (st.put o.dst ⟨.tup [],[],[]⟩) (acc++[⟨[],0,[]⟩]) K→RW P N ops i st acc K:=
   fun hg hk=>RW.cons ho (D6 hd) (OpSem.skip ho hg) (by simp) (Xdc hT hl' hn' hk)
  have step:∀{st:St},Ey ops o st.sl=some true→Xfs P std tab o st (fun out T=>Xhn P std tab ops l (st.put o.dst out) (acc++[⟨out.g.map (·.1),out.new.length,T⟩]) K)→RW P N ops i st acc K:=
   fun hg hk=>XjE hT hk ho hd hg (fun out T hk=>Xdc hT hl' hn' hk)
  simp only[Xhn]at h
  split at h
  ·rename_i hg
   exact step (W3 hg) h
  ·rename_i t b hg
   obtain⟨h1,h2⟩:=Mb hg
   cases b with
   |true=>
    simp only[br]at h
    rw[Ic h1]at h
    exact step h2 h
   |false=>
    simp only[br]at h
    rw[Ic h1]at h
    exact skip h2 h
  ·rename_i t b hg
   obtain⟨h1,h2⟩:=Mb hg
   cases b with
   |true=>
    simp only[br]at h
    rw[Ic h1]at h
    exact skip h2 h
   |false=>
    simp only[br]at h
    rw[Ic h1]at h
    exact step h2 h
  ·rename_i hg
   exact skip (Xcb hg) h
  ·exact h.elim
theorem Gz(hT:B8 P tab)(hm:P.follows .mixedOrders=true):∀{code:Code} {Q:Exit→St→Prop} {st:St},vc P std tab N code Q st→AW P N code Q st:=by
 intro code
 induction code with
 |skip=>intro Q st h;exact AW.skip h
 |ret=>intro Q st h;exact AW.ret h
 |exit id=>intro Q st h;exact AW.exit h
 |label l=>intro Q st h;exact AW.label h
 |seq a b iha ihb=>
  intro Q st h
  refine AW.seq ((iha h).mono ?_)
  intro e st' he
  cases e with
  |normal=>exact ihb he
  |_=>exact he
 |cond x t e iht ihe=>
  intro Q st h
  simp only[vc]at h
  split at h
  ·rename_i b hx
   refine AW.cond hx ?_ ?_
   ·rintro rfl
    have h':=iht h
    rwa[Ob hx]at h'
   ·rintro rfl
    have h':=ihe h
    rwa[Ob hx]at h'
  ·rename_i p hx
   exact AW.condAny hx (fun hb=>iht (h.1 hb)) (ihe h.2)
  ·exact h.elim
 |block id b ih=>intro Q st h;exact AW.block (ih h)
 |loop b ih=>intro Q st h;obtain⟨h⟩:=h;exact h
 |region id ops draw=>
  intro Q st h
  simp only[vc,ifB]at h
  split at h
  ·rename_i hd
   refine AW.reg' ?_
   have hK:=Xdc (N:=N) hT (l:=ops.toList) (i:=0) (fun k o hk=>⟨by simpa using hk,List.all_eq_true.1 hd o (List.mem_of_getElem? hk)⟩) (by simp) h
   obtain⟨l,st',hw,hk⟩:=hK
   refine⟨l,st',hw,?_⟩
   split at hk
   ·rename_i hb
    refine⟨?_,hk⟩
    rintro rfl
    exact⟨hm,by simpa using hb⟩
   ·exact hk.elim
  ·exact h.elim
 |_=>intro Q st h;exact h.elim
end
end
section
open Go
def look:List (Nat×AV)→Nat→AV
 |[],_=>.junk
 |(t,x)::l,s=>if s=t then x else look l s
def WeakL(l:List (Nat×AV))(sl:Nat→AV):Prop:=∀p∈l,sl p.1=p.2
theorem WeakL.nil(sl:Nat→AV):WeakL [] sl:=by intro p hp;cases hp
theorem WeakL.cons{t:Nat}{x:AV}{l:List (Nat×AV)}{sl:Nat→AV}(h:sl t=x)(k:WeakL l sl):WeakL ((t,x)::l) sl:=by
 intro p hp
 rcases List.mem_cons.1 hp with rfl|hp
 ·exact h
 ·exact k p hp
theorem WeakL.look{sl:Nat→AV}:∀{l:List (Nat×AV)},WeakL l sl→∀t,look l t=sl t∨look l t= .junk
 |[],_,t=>.inr rfl
 |(s,x)::l,h,t=>by
  simp only[Ab.look]
  split
  ·rename_i e
   subst e
   exact .inl (h (t,x) List.mem_cons_self).symm
  ·exact WeakL.look (fun p hp=>h p (List.mem_cons_of_mem _ hp)) t
section
variable {P:Program} {N:Nat} {Q:Exit→St→Prop} {st:St}
theorem LpW.of{κ:Type}{body:Code}(inv:κ→Prop)(μ:κ→Nat)(sl:κ→List (Nat×AV))(rt:κ→List Root)(k0:κ)(h0:inv k0)(hw:WeakL (sl k0) st.sl)(hrt:st.rt=rt k0)
  (round:∀k,inv k→AW P N body (Exit.thenQ (fun st'=>∃k',inv k'∧μ k'<μ k∧WeakL (sl k') st'.sl∧st'.rt=rt k') Q) ⟨look (sl k),rt k⟩):LpW P N body Q st:=by
 refine⟨AW.loop (fun n st=>∃k,inv k∧μ k=n∧WeakL (sl k) st.sl∧st.rt=rt k) (μ k0) ⟨k0,h0,rfl,hw,hrt⟩ ?_⟩
 rintro n st ⟨k,hk,rfl,hwk,hrk⟩
 refine AW.weak (sl':=look (sl k)) hwk.look ?_
 rw[hrk]
 refine(round k hk).mono ?_
 intro e st' he
 cases e with
 |normal=>
  obtain⟨k',h1,h2,h3,h4⟩:=he
  exact⟨μ k',h2,k',h1,rfl,h3,h4⟩
 |_=>exact he
end
theorem N0{a b:ByteArray}(h:a.toList=b.toList):a=b:=by
 rw[ByteArray.toList_eq,ByteArray.toList_eq]at h
 cases a;cases b
 simp only[ByteArray.mk.injEq]
 exact Array.toList_inj.1 h
theorem Yx{a b:ByteArray}:std.scmp .eql a b=decide (a=b):=by
 show(a.toList==b.toList)=_
 by_cases h:a=b
 ·subst h;simp
 ·have:¬a.toList=b.toList:=fun e=>h (N0 e)
  simp[h,this]
theorem Zu{a b:ByteArray}:std.scmp .neq a b= !decide (a=b):=by
 show(!(a.toList==b.toList))=_
 rw[show(a.toList==b.toList)=decide (a=b)from Yx]
theorem Bb{a b:Int}:std.cmp .lss a b=decide (a<b):=rfl
theorem A8{a b:Int}:std.cmp .leq a b=decide (a≤b):=rfl
theorem Bc{a b:Int}:std.cmp .gtr a b=decide (b<a):=rfl
theorem Ba{a b:Int}:std.cmp .geq a b=decide (b≤a):=rfl
theorem A7{a b:Int}:std.cmp .eql a b=decide (a=b):=by show(a==b)=_;exact Bool.eq_iff_iff.2 (by simp)
theorem A3{a b:Int}:std.cmp .neq a b= !decide (a=b):=by show(!(a==b))=_;rw[show(a==b)=decide (a=b)from A7]
theorem A2{xs:List (List D)}:std.len xs=(xs.length:Int):=rfl
theorem A6{k:IntKind}{a b:Int}:std.bin .add k a b=k.wrap (a+b):=rfl
theorem Az{k:IntKind}{a b:Int}:std.bin .sub k a b=k.wrap (a - b):=rfl
theorem Aw{k:IntKind}{a b:Int}:std.bin .mul k a b=k.wrap (a*b):=rfl
def cS(s:ByteArray):List D:=[.sc (.string s)]
def cI(n:Int):List D:=[.sc (.int .i64 n)]
section
variable {α:Type} {c:α→List D} {a:List α} {xs:List (List D)} {k:Nat}
end
theorem K1{n:Int}(h0: -9223372036854775808≤n)(h1:n<9223372036854775808):IntKind.i64.wrap n=n:=by
 rw[IntKind.wrap_i64];omega
open Go
section
variable {P:Program} {o:Oper} {st:St} {K:Out→List Nat→Prop} {cl:Call} {x:Operand} {f:FuncId} {caps ys as0 zs:List AV} {L π:List Nat} {r0:List Root} {o0 out:Out}
theorem Pm{ops:Array Oper}{sl:Nat→AV}(h:o.guard=none):Ey ops o sl=some true:=by simp only[Ey,h]
theorem ClW.pure(hgd:o.guard=none)(hop:o.op= .call cl)(hc:cl.callee= .value x)(hx:Cm st.sl x= .clo f caps)(ha:ArgR st.sl cl.args.toList ys)(hl:AV.lendAs st.look (ys++caps)=some (as0,L))(he:Dp P f)(hcall:CallOk P f as0 [] o0)
  (hren:o0.ren (Bo [] st.rt.length o0.new.length)=some out)(hog:out.g=[])(hfa:out.av.flat=true)(hfn:out.new.all Root.flat=true)(k:K out (AV.idss (ys++caps))):ClW P o st K:=
 .mk out _ (OpSem.pure rfl (Pm hgd) hop hc hx ha hl he hcall hren hog hfa hfn) (by rw[hog];simp) k
theorem ClW.val{av:AV}(hgd:o.guard=none)(hop:o.op= .call cl)(hc:cl.callee= .value x)(hx:Cm st.sl x= .clo f caps)(ha:ArgR st.sl cl.args.toList ys)(hl:AV.lendAs st.look (ys++caps)=some (as0,L))(he:Dp P f)(hcall:CallOk P f as0 [] ⟨av,[],[]⟩)
  (hren:av.ren (Bo [] st.rt.length 0)=some av)(hfa:av.flat=true)(k:K ⟨av,[],[]⟩ (AV.idss (ys++caps))):ClW P o st K:=
 ClW.pure (o0:=⟨av,[],[]⟩) (out:=⟨av,[],[]⟩) hgd hop hc hx ha hl he hcall (by
  show(av.ren (Bo [] st.rt.length 0)).bind _=_
  rw[hren]
  rfl) rfl hfa rfl k
theorem ClW.call(hgd:o.guard=none)(hop:o.op= .call cl)(hc:cl.callee= .value x)(hx:Cm st.sl x= .clo f caps)(ha:ArgR st.sl cl.args.toList ys)(hz:LendsR st.look L (ys++caps) zs)(hL:∀r∈L,r∈AV.idss (ys++caps)∧∃sz xs,st.look r=some (.row sz false xs))(he:Dp P f)
  (has:AV.rens (Bo π st.rt.length o0.new.length) as0=some zs)(hcall:CallOk P f as0 r0 o0)(hren:o0.ren (Bo π st.rt.length o0.new.length)=some out)(hlen:π.length=r0.length)(hnd:π.Nodup)(hlt:∀r∈π,r<st.rt.length)(hdis:∀r∈π,r∉L)(hin:∀r∈π,r∈AV.idss (ys++caps))
  (hrt:∀(j:Nat) r R,π[j]? =some r→r0[j]? =some R→∃R',st.look r=some R'∧R≠.dead∧R.ren (Bo π st.rt.length o0.new.length)=some R')
  (hg:∀p∈out.g++XdJ st.look L,p.1<st.rt.length+out.new.length)(k:K ⟨out.av,out.new,out.g++XdJ st.look L⟩ (AV.idss (ys++caps))):ClW P o st K:=
 .mk _ _ (OpSem.call rfl (Pm hgd) hop hc hx ha hz hL he has hcall hren hlen hnd hlt hdis hin hrt) hg k
end
open Go
def AV.rdo(rt:Nat→Option Root):AV→Option (AV×List Nat)
 | .tup l=>(AV.lendAs rt l).map fun p=>(.tup p.1,p.2)
 |x=>x.lendA rt
section
variable {P:Program} {c:Ctx} {E:Env} {rt:Nat→Option Root}
theorem Xdi(f:Nat→Option Nat){x y:AV}{L:List Nat}(h:x.rdo rt=some (y,L)):y.ren f=some y:=by
 cases x with
 |tup l=>
  simp only[AV.rdo]at h
  obtain⟨q,hq,h⟩:=Option.map_eq_some_iff.1 h
  simp only[Prod.mk.injEq]at h
  obtain⟨rfl,_⟩:=h
  simp[AV.ren,In f hq]
 |_=>exact Kb f h
theorem Xa3(hM:Mem c E){x y:AV}{v:Value}{L:List Nat}(h:RelAV E x v)(hy:x.rdo E.rt=some (y,L)):RelAV (E.lent L) y v∧∀r∈L,Ga E r:=by
 cases h with
 |tup l us hs hr=>
  simp only[AV.rdo]at hy
  obtain⟨q,hq,hy⟩:=Option.map_eq_some_iff.1 hy
  simp only[Prod.mk.injEq]at hy
  obtain⟨rfl,rfl⟩:=hy
  obtain⟨hlen,hg⟩:=Om hq
  have hex:∀(j:Nat) y,l[j]? =some y→RelAV E y (us.getD j undef):=hr
  refine⟨.tup _ us (hs.trans hlen.symm) ?_,?_⟩
  ·intro j y hy
   obtain⟨x,L1,h1,h2,h3⟩:=hg j y hy
   exact D3 hM (hex j x h1) h2 h3
  ·intro r hr'
   exact Gn (E:=E) (fun j y hy {y'} {L'} h=>E4 (hex j y hy) h) hq r hr'
 |d x v h=>exact⟨D3 hM (.d x v h) hy (fun _ h=>h),E4 (.d x v h) hy⟩
 |ref r off len R sz b cap t n h1 hk h2 h3 h4 h5 h6=>exact⟨D3 hM (.ref r off len R sz b cap t n h1 hk h2 h3 h4 h5 h6) hy (fun _ h=>h),E4 (.ref r off len R sz b cap t n h1 hk h2 h3 h4 h5 h6) hy⟩
 |refz r off R sz a h1 hk h2=>exact⟨D3 hM (.refz r off R sz a h1 hk h2) hy (fun _ h=>h),E4 (.refz r off R sz a h1 hk h2) hy⟩
 |ptr r i j R b h1 h2 h3=>exact⟨D3 hM (.ptr r i j R b h1 h2 h3) hy (fun _ h=>h),E4 (.ptr r i j R b h1 h2 h3) hy⟩
 |dref r off len v h1 ho=>exact⟨D3 hM (.dref r off len v h1 ho) hy (fun _ h=>h),E4 (.dref r off len v h1 ho) hy⟩
 |dptr r i j v h1 ho=>exact⟨D3 hM (.dptr r i j v h1 ho) hy (fun _ h=>h),E4 (.dptr r i j v h1 ho) hy⟩
 |rptr cs b o us hS hu hr=>exact⟨D3 hM (.rptr cs b o us hS hu hr) hy (fun _ h=>h),E4 (.rptr cs b o us hS hu hr) hy⟩
 |agg l us hs hr ho=>exact⟨D3 hM (.agg l us hs hr ho) hy (fun _ h=>h),E4 (.agg l us hs hr ho) hy⟩
 |clo f caps us hs hr=>exact⟨D3 hM (.clo f caps us hs hr) hy (fun _ h=>h),E4 (.clo f caps us hs hr) hy⟩
 |anyb p b hb=>exact⟨D3 hM (.anyb p b hb) hy (fun _ h=>h),E4 (.anyb p b hb) hy⟩
 |junk v=>exact⟨D3 hM (.junk v) hy (fun _ h=>h),E4 (.junk v) hy⟩
def EndD(P:Program)(rs:Array ResultVar)(av:AV):Exit→St→Prop
 | .normal,st=>∃l L,Hw P st rs.toList=some l∧(Wz l).rdo st.look=some (av,L)
 | .ret,st=>∃l L,Hw P st rs.toList=some l∧(Wz l).rdo st.look=some (av,L)
 |_,_=>False
theorem CallOk.of_bodyD{f:FuncId}{fn:Func}{body:Code}{as0:List AV}{av:AV}(hf:P.funcs[f]? =some fn)(hb:fn.body=some body)(hN:as0.length≤fn.ntmps)
  (hwa:AV.rens (G3 0) as0=some as0)(h:AW P fn.ntmps body (EndD P fn.results av) ⟨Oo as0,[]⟩):CallOk P f as0 [] ⟨av,[],[]⟩:=by
 intro w S β vs hM hA
 obtain⟨hC0,hM0⟩:=Xfd hM (r0:=[]) rfl
 refine calls_of_wp hf hb ?_
 refine wp_mono (h (F3 w S β []) (B1 w S β [] []) _ w ?_) ?_
 ·refine⟨B1 w S β [] [],rfl,hM0,(Step.refl _).toP,?_,fun _=>Iff.rfl,?_,rfl,?_,Nat.le_refl _⟩
  ·funext r
   show([]++[])[r]? =[][r]?
   rfl
  ·intro t
   show RelAV _ ((as0[t]?).getD .junk) ((vs++Array.replicate (fn.ntmps - vs.size) undef).getD t undef)
   cases ht:as0[t]? with
   |none=>exact .junk _
   |some y=>
    have hlt:t<vs.size:=by rw[hA.1];exact(List.getElem?_eq_some_iff.1 ht).1
    have:=hA.2 t y ht
    have e:(vs++Array.replicate (fn.ntmps - vs.size) undef).getD t undef=vs.getD t undef:=by
     rw[Array.getD_eq_getD_getElem?,Array.getD_eq_getD_getElem?,Array.getElem?_append_left hlt]
    rw[e]
    exact this
  ·simp only[Array.size_append,Array.size_replicate]
   have:=hA.1
   omega
 ·rintro e a' w' ⟨st,hq,hH⟩
  have main:(∃l L,Hw P st fn.results.toList=some l∧(Wz l).rdo st.look=some (av,L))→a'.defers=[]∧∃v,(results fn a'.tmps).run P w'= .ok v w'∧∃v' E',Ending.returned v= .returned v'∧E'.w=w'∧OutRel (F3 w S β []) (B1 w S β [] []) 0 ⟨av,[],[]⟩ v' E':=by
   rintro⟨l,L,hl,hav⟩
   obtain⟨E,rfl,hMe,hSt,hrt,hpr,hsl,hdef,hsz,hm⟩:=hH
   obtain⟨v,hrun,hrel⟩:=U2 hMe hrt hsl hl
   rw[←hrt]at hav
   obtain⟨hrel',hrows⟩:=Xa3 hMe hrel hav
   have hML:=Mi hMe hrows
   have hren:=Xdi (fun _=>none) hav
   refine⟨hdef,v,hrun,v,⟨fun _=>none,fun _=>False,E.β,(E.lent L).S,E.w⟩,rfl,rfl,?_⟩
   refine⟨?_,?_,?_,?_,hMe.size,?_⟩
   ·exact{
     os:=hMe.os
     output:=hMe.output
     tape:=hMe.tape
     size:=hMe.size
     keep:=hMe.keep
     shape:=hMe.shape
     s0:=hML.s0
     slt:=hML.slt
     glob:=hML.glob
     snew:=hML.snew
     blt:=fun r b h=>h.elim
     bown:=fun r R b h=>h.elim
     bkeep:=fun r R _ h=>h.elim
     inj:=fun r r' R R' b h=>h.elim
     roots:=fun r R h=>h.elim}
   ·refine⟨?_,?_,?_,?_,?_,?_⟩
    ·intro r R hR
     have:([]++([]:List Root))[r]? =some R:=hR
     simp at this
    ·intro r hr
     have:r<0:=hr
     omega
    ·intro r hr
     have:r<0:=hr
     omega
    ·intro b hb;exact .inl (hSt.S b hb)
    ·intro b hb;exact hSt.heap b hb
    ·intro b s hs;exact hSt.shape b s hs
   ·funext r
    show none=([]++([]:List Root))[r]?
    simp
   ·intro r
    show False↔r<0∨(0≤r∧r<0+0)
    exact⟨fun h=>h.elim,fun h=>by omega⟩
   ·show RelAV _ av v
    refine RelAV.conn (E':=⟨fun _=>none,fun _=>False,E.β,(E.lent L).S,E.w⟩) (f:=fun _=>none) (E:=E.lent L) ⟨rfl,fun _ h=>h,?_,?_,?_⟩ hrel' hren
    ·intro r r' h;cases h
    ·intro r r' h;cases h
    ·intro r r' h;cases h
  cases e with
  |normal=>obtain⟨h1,v,h2,h3⟩:=main hq;exact⟨h1,v,h2,h3⟩
  |ret=>obtain⟨h1,v,h2,h3⟩:=main hq;exact⟨h1,v,h2,h3⟩
  |_=>exact hq.elim
theorem Eh{t:Nat}{av av':AV}{L:List Nat}{st:St}(h:st.sl t=av')(hr:av'.rdo st.look=some (av,L)):EndD P #[.tmp t] av .ret st:=⟨[av'],L,by simp[Hw,Pa,h],hr⟩
end
section
variable {P:Program} {o:Oper} {st:St} {K:Out→List Nat→Prop} {cl:Call} {x:Operand} {f:FuncId} {caps ys zs:List AV} {L:List Nat}
theorem ClW.data{av:AV}(hgd:o.guard=none)(hop:o.op= .call cl)(hc:cl.callee= .value x)(hx:Cm st.sl x= .clo f caps)(ha:ArgR st.sl cl.args.toList ys)(hl:AV.lendAs st.look (ys++caps)=some (zs,L))(hL:∀r∈L,r∈AV.idss (ys++caps)∧∃sz xs,st.look r=some (.row sz false xs))(he:Dp P f)
  (hcall:CallOk P f zs [] ⟨av,[],[]⟩)(hren:av.ren (Bo [] st.rt.length 0)=some av)(hg:∀p∈XdJ st.look L,p.1<st.rt.length)(k:K ⟨av,[],XdJ st.look L⟩ (AV.idss (ys++caps))):ClW P o st K:=by
 refine ClW.call (out:=⟨av,[],[]⟩) (π:=[]) (r0:=[]) hgd hop hc hx ha (LendsR.of hl (fun r hr=>hr)) hL he (In _ hl) hcall ?_ rfl .nil (by simp) (by simp) (by simp) (by simp) ?_ k
 ·show(av.ren (Bo [] st.rt.length 0)).bind _=_
  rw[hren]
  rfl
 ·intro p hp
  simpa using hg p (by simpa using hp)
end
open Go
mutual
def AV.isD:AV→Bool
 | .d _=>true
 | .rptr _=>true
 | .agg l=>AV.isDs l
 | .clo _ l=>AV.isDs l
 | .anyb _=>true
 | .junk=>true
 |_=>false
def AV.isDs:List AV→Bool
 |[]=>true
 |x::l=>match x.isD with|true=>AV.isDs l|false=>false
end
theorem Xbm{x:AV}{l:List AV}(h:AV.isDs (x::l)=true):x.isD=true∧AV.isDs l=true:=by
 simp only[AV.isDs]at h
 split at h
 ·exact⟨by assumption,h⟩
 ·cases h
mutual
theorem Js(rt:Nat→Option Root):∀{x:AV},x.isD=true→x.lendA rt=some (x,[])∧x.ids=[]
 | .d x,_=>⟨rfl,rfl⟩
 | .rptr cs,_=>⟨rfl,rfl⟩
 | .agg l,h=>by
   have:=Jz rt (x:=l) (by simpa[AV.isD]using h)
   refine⟨by simp[AV.lendA,this.1],by simp[AV.ids,this.2]⟩
 | .clo f l,h=>by
   have:=Jz rt (x:=l) (by simpa[AV.isD]using h)
   refine⟨by simp[AV.lendA,this.1],by simp[AV.ids,this.2]⟩
 | .anyb _,_=>⟨rfl,rfl⟩
 | .junk,_=>⟨rfl,rfl⟩
 | .ref ..,h=>by simp[AV.isD]at h
 | .ptr ..,h=>by simp[AV.isD]at h
 | .tup ..,h=>by simp[AV.isD]at h
theorem Jz(rt:Nat→Option Root):∀{x:List AV},AV.isDs x=true→AV.lendAs rt x=some (x,[])∧AV.idss x=[]
 |[],_=>⟨rfl,rfl⟩
 |x::l,h=>by
  obtain⟨h1,h2⟩:=Xbm h
  have a:=Js rt h1
  have b:=Jz rt h2
  refine⟨by simp[AV.lendAs,a.1,b.1],by simp[AV.idss,a.2,b.2]⟩
end
def AV.isDT:AV→Bool
 | .tup l=>AV.isDs l
 |x=>x.isD
theorem Yr(f:Nat→Option Nat){x:AV}(h:x.isDT=true):x.ren f=some x:=by
 cases x with
 |tup l=>exact Xdi (x:=.tup l) (rt:=fun _=>none) (L:=[]) f (by simp[AV.rdo,(Jz (fun _=>none) (x:=l) h).1])
 |ref=>simp[AV.isDT,AV.isD]at h
 |ptr=>simp[AV.isDT,AV.isD]at h
 |d x=>exact Kb (rt:=fun _=>none) f (Js (fun _=>none) (x:=.d x) h).1
 |rptr cs=>exact Kb (rt:=fun _=>none) f (Js (fun _=>none) (x:=.rptr cs) h).1
 |agg l=>exact Kb (rt:=fun _=>none) f (Js (fun _=>none) (x:=.agg l) h).1
 |clo g l=>exact Kb (rt:=fun _=>none) f (Js (fun _=>none) (x:=.clo g l) h).1
 |anyb p=>rfl
 |junk=>rfl
section
variable {P:Program} {o:Oper} {st:St} {K:Out→List Nat→Prop} {cl:Call} {x:Operand} {f:FuncId} {caps ys:List AV}
theorem ClW.dd{av:AV}(hgd:o.guard=none)(hop:o.op= .call cl)(hc:cl.callee= .value x)(hx:Cm st.sl x= .clo f caps)(ha:ArgR st.sl cl.args.toList ys)(hd:AV.isDs (ys++caps)=true)(he:Dp P f)
  (hcall:CallOk P f (ys++caps) [] ⟨av,[],[]⟩)(hav:av.isDT=true)(k:K ⟨av,[],[]⟩ []):ClW P o st K:=by
 have h:=Jz st.look hd
 refine ClW.data (L:=[]) hgd hop hc hx ha h.1 (by simp) he hcall (Yr _ hav) (by simp[XdJ]) ?_
 rw[h.2]
 exact k
end
def Ie(t left:Int):Int:=if t≤left then left - t else -1
theorem P5{t left:Int}(h:0≤Ie t left):t≤left∧Ie t left=left - t:=by
 unfold Ie at*
 split at h
 ·rename_i h1;exact⟨h1,by rw[if_pos h1]⟩
 ·omega
def Kc{α:Type}(f:α→Int):List α→Int
 |[]=>0
 |x::l=>f x+Kc f l
theorem Pn{α:Type}(f:α→Int):∀(a b:List α),Kc f (a++b)=Kc f a+Kc f b
 |[],b=>by simp[Kc]
 |x::a,b=>by simp[Kc,Pn f a b];omega
theorem Vn{α:Type}(f:α→Int)(a:List α){k:Nat}(h:k<a.length):Kc f (a.take (k+1))=Kc f (a.take k)+f a[k]:=by
 rw[List.take_succ_eq_append_getElem h,Pn]
 simp[Kc]
theorem Xf2{α:Type}(f:α→Int)(a:List α)(k:Nat):Kc f a=Kc f (a.take k)+Kc f (a.drop k):=by
 rw[←Pn,List.take_append_drop]
theorem Dg{α:Type}(f:α→Int):∀(a:List α),(∀x∈a,0≤f x)→0≤Kc f a
 |[],_=>by simp[Kc]
 |x::a,h=>by
  have:=Dg f a (fun y hy=>h y (by simp[hy]))
  have:=h x (by simp)
  simp only[Kc]
  omega
theorem Nn{α:Type}(f:α→Int)(a:List α)(h:∀x∈a,0≤f x)(k:Nat):Kc f (a.take k)≤Kc f a:=by
 have:=Xf2 f a k
 have:=Dg f (a.drop k) (fun x hx=>h x (List.mem_of_mem_drop hx))
 omega
open Go
theorem Ar.eqs{A:Ar}(h:std=A):A.bin=std.bin∧A.sh=std.sh∧A.cmp=std.cmp∧A.scmp=std.scmp∧A.bcmp=std.bcmp∧A.bnot=std.bnot∧A.neg=std.neg∧A.wrap=std.wrap∧A.cat=std.cat∧A.ssize=std.ssize∧A.ssub=std.ssub∧A.sget=std.sget∧A.len=std.len∧A.rsub=std.rsub∧A.app=std.app∧A.elt=std.elt∧A.set=std.set∧A.nth=std.nth∧A.drp=std.drp∧A.str=std.str∧A.int=std.int∧A.bool=std.bool∧A.row=std.row∧A.nat=std.nat∧A.nadd=std.nadd∧A.nsub=std.nsub∧A.band=std.band∧A.ofNat=std.ofNat∧A.strRow=std.strRow∧A.mkRow=std.mkRow∧A.mx=std.mx∧A.mn=std.mn∧A.bytes=std.bytes∧A.emp=std.emp:=by subst h;exact⟨rfl,rfl,rfl,rfl,rfl,rfl,rfl,rfl,rfl,rfl,rfl,rfl,rfl,rfl,rfl,rfl,rfl,rfl,rfl,rfl,rfl,rfl,rfl,rfl,rfl,rfl,rfl,rfl,rfl,rfl,rfl,rfl,rfl,rfl⟩
section
variable {α:Type} {c:α→List D} {a:List α} {xs:List (List D)} {k:Nat} {i:Int}
theorem Er(hx:a.map c=xs)(hi:(k:Int)=i)(h:k<a.length):std.elt xs i=c a[k]:=by
 subst hx hi
 show(((a.map c)[(Int.ofNat k).toNat]?)).getD []=_
 rw[show(Int.ofNat k).toNat=k from rfl]
 simp[h]
theorem M5(hx:a.map c=xs)(hi:(k:Int)=i)(h:k<a.length):InR i (std.len xs):=by
 subst hx hi
 refine⟨Int.natCast_nonneg k,?_⟩
 show(k:Int)<((a.map c).length:Int)
 rw[List.length_map]
 omega
end
theorem Aj{s:ByteArray}:std.ssize s=(s.size:Int):=rfl
theorem Bd{b:Bool}:std.bnot b= !b:=rfl
theorem Ax{a b:Bool}:std.band a b=(a&&b):=rfl
theorem Av{a b:Bool}:std.bcmp a b=(a==b):=rfl
theorem A4{n:Int}:std.nat n=n.toNat:=rfl
theorem Ai{n:Nat}:std.ofNat n=(n:Int):=rfl
theorem Ay{a b:Nat}:std.nadd a b=a+b:=rfl
theorem Au{a b:Nat}:std.nsub a b=a - b:=rfl
theorem Xin{k:IntKind}{n:Int}:std.wrap k n=k.wrap n:=rfl
theorem Nc{n:Int}(h: -9223372036854775808≤n∧n<9223372036854775808):IntKind.i64.wrap n=n:=K1 h.1 h.2
theorem A9{xs:List (List D)}:std.emp xs=xs.isEmpty:=rfl
theorem nc{n:Nat}: @NatCast.natCast Int instNatCastInt n=(n:Int):=rfl
theorem Xi4{α:Type}{c:α→List D}{a:List α}{xs:List (List D)}(hx:a.map c=xs):(xs.length:Int)=(a.length:Int):=by rw[←hx,List.length_map]
section
variable {α:Type} {c:α→List D} {a:List α} {zs:List (List D)} {z:List D} {k:Nat} {i:Int}
def Ko(c:α→List D)(a:List α)(z:List D)(k:Nat):List (List D):=(a.take k).map c++List.replicate (a.length - k) z
theorem XhW(hk:k≤a.length):(Ko c a z k).length=a.length:=by unfold Ko;simp;omega
theorem Xke(hk:k<a.length):(Ko c a z k)[k]? =some z:=by
 unfold Ko
 rw[List.getElem?_append_right (by simp;omega),List.getElem?_replicate,if_pos (by simp;omega)]
theorem XhL:Ko c a z a.length=a.map c:=by unfold Ko;simp
theorem Xc9:Ko c a z 0=List.replicate a.length z:=by unfold Ko;simp
theorem Xbp{z ds:List D}(h:z.length=ds.length):Kt z 0 ds=ds:=by
 unfold Kt
 rw[List.take_zero,List.nil_append,List.drop_of_length_le (by omega),List.append_nil]
theorem Xhf(hk:k<a.length)(hz:Ko c a z k=zs)(hi:(k:Int)=i):InR (std.ofNat (std.nadd 0 (std.nat i))) (std.len zs):=by
 subst hz hi
 refine⟨Int.natCast_nonneg _,?_⟩
 rw[A2,XhW (by omega)]
 show((0+(k:Int).toNat:Nat):Int)<_
 omega
theorem Zd{n:Nat}(hk:k<a.length)(hz:Ko c a z k=zs)(hi:(k:Int)=i)(hn:n≤z.length):LenGe (std.elt zs (std.ofNat (std.nadd 0 (std.nat i)))) n:=by
 subst hz hi
 refine⟨?_⟩
 show n≤(((Ko c a z k)[(((0+(k:Int).toNat:Nat):Int)).toNat]?).getD []).length
 rw[show(((0+(k:Int).toNat:Nat):Int)).toNat=k by omega,Xke hk]
 exact hn
theorem Xha(hk:k<a.length)(hz:Ko c a z k=zs)(hi:(k:Int)=i)(hl:z.length=(c a[k]).length):std.set zs (std.nadd 0 (std.nat i)) 0 (c a[k])=Ko c a z (k+1):=by
 subst hz hi
 show(Ko c a z k).set (0+(k:Int).toNat) (Kt (((Ko c a z k)[0+(k:Int).toNat]?).getD []) 0 (c a[k]))=_
 rw[show 0+(k:Int).toNat=k by omega,Xke hk,Option.getD_some,Xbp hl]
 unfold Ko
 have e:a.length - k=(a.length - (k+1))+1:=by omega
 have hl:((a.take k).map c).length=k:=by simp;omega
 rw[e,List.replicate_succ,List.set_append,if_neg (by omega),hl,Nat.sub_self,List.set_cons_zero,List.take_succ_eq_append_getElem hk,List.map_append,List.append_assoc]
 rfl
end
theorem Qu{k:Nat}{i:Int}(hi:(k:Int)=i)(h:k<2^62):std.bin .add .i64 i 1=((k+1:Nat):Int):=by rw[A6,K1 (by omega) (by omega)];omega
theorem XiU{P:Program}{st:St}{t r n sz:Nat}{fz:Bool}{xs:List (List D)}(h:st.sl t= .ref r 0 n)(hr:st.look r=some (.row sz fz xs))(hn:n=xs.length):EndD P #[.tmp t] (.d (.row sz xs)) .ret st:=by
 refine Eh (L:=if fz then[]else[r]) h ?_
 subst hn
 show AV.lendA st.look (.ref r 0 xs.length)=_
 simp only[AV.lendA,hr]
 rw[if_pos (by omega),List.drop_zero,List.take_length]
end
section
open Go
def Xjo(P:Program):Nat→List Field→Bool
 |_,[]=>true
 |o,f::l=>f.offset==o&&Xjo P (o+P.cellsOf f.type) l
def Xlk(P:Program):List Field→Nat
 |[]=>0
 |f::l=>P.cellsOf f.type+Xlk P l
def M2(P:Program):Nat→TypeId→Bool
 |0,_=>false
 |g+1,t=>
  match P.underlying t with
  |some .bool=>P.cellsOf t==1
  |some (.int _)=>P.cellsOf t==1
  |some .string=>P.cellsOf t==1
  |some (.slice e)=>P.cellsOf t==1&&decide (0<P.cellsOf e)&&M2 P g e
  |some (.struct fs)=>Xjo P 0 fs.toList&&Xlk P fs.toList==P.cellsOf t&&fs.toList.all fun f=>M2 P g f.type
  |_=>false
mutual
inductive ShD (P:Program):TypeId→List D→Prop
 |bool {t:TypeId} (b:Bool) (h:P.underlying t=some .bool):ShD P t [.sc (.bool b)]
 |int {t:TypeId} {k:IntKind} (n:Int) (h:P.underlying t=some (.int k)) (hw:(Lit.int k n).wf=true):ShD P t [.sc (.int k n)]
 |str {t:TypeId} (s:ByteArray) (h:P.underlying t=some .string) (hs:s.size≤reachBytes):ShD P t [.sc (.string s)]
 |sl {t e:TypeId} (xs:List (List D)) (h:P.underlying t=some (.slice e)) (hl:xs.length*P.bytesOf e≤reachBytes) (hx:∀x∈xs,ShD P e x):ShD P t [.row (P.cellsOf e) xs]
 |st {t:TypeId} {fs:Array Field} (xs:List D) (h:P.underlying t=some (.struct fs)) (hx:ShDs P fs.toList xs):ShD P t xs
inductive ShDs (P:Program):List Field→List D→Prop
 |nil:ShDs P [] []
 |cons {f:Field} {l:List Field} {a b:List D} (h:ShD P f.type a) (t:ShDs P l b):ShDs P (f::l) (a++b)
end
inductive RelDs (w:World) (S:Nat→Prop):List D→List Value→Prop
 |nil:RelDs w S [] []
 |cons {x:D} {v:Value} {xs:List D} {vs:List Value} (h:RelD w S x v) (t:RelDs w S xs vs):RelDs w S (x::xs) (v::vs)
theorem RelDs.one{w:World}{S:Nat→Prop}{x:D}{v:Value}(h:RelD w S x v):RelDs w S [x] [v]:=.cons h .nil
theorem RelDs.append{w:World}{S:Nat→Prop}{a b:List D}{c d:List Value}(h:RelDs w S a c)(k:RelDs w S b d):RelDs w S (a++b) (c++d):=by
 induction h with
 |nil=>exact k
 |cons h _ ih=>exact .cons h ih
theorem RelDs.length{w:World}{S:Nat→Prop}{a:List D}{c:List Value}(h:RelDs w S a c):a.length=c.length:=by
 induction h with
 |nil=>rfl
 |cons h _ ih=>simp[ih]
theorem RelDs.get{w:World}{S:Nat→Prop}{a:List D}{c:List Value}(h:RelDs w S a c):∀(j:Nat) x,a[j]? =some x→∃v,c[j]? =some v∧RelD w S x v:=by
 induction h with
 |nil=>intro j x h;simp at h
 |cons h _ ih=>
  intro j x hj
  cases j with
  |zero=>simp at hj;subst hj;exact⟨_,rfl,h⟩
  |succ j=>simp at hj;simpa using ih j x hj
theorem Xfe(b off i:Nat):(⟨b,off,none⟩:Addr).add i=⟨b,off+i,none⟩:=by
 unfold Addr.add
 split
 ·rename_i h;subst h;rfl
 ·rfl
theorem XbI(b off i j:Nat):((⟨b,off,none⟩:Addr).add i).add j=⟨b,off+i+j,none⟩:=by rw[Xfe,Xfe]
section
variable {H:Type} {enc:TypeId×Value→H} {P:Program} {w:World} {base:Nat} {spare:Nat→Bool} {held:Bool}
theorem O8{e:TypeId}:∀{ds:List (DataW H)} {d:DataW H},d∈ds→∀n∈d.weights P e,n∈DataW.weightsAll P e ds
 |[],d,h,_,_=>by simp at h
 |x::l,d,h,n,hn=>by
  simp only[DataW.weightsAll,List.mem_append]
  rcases List.mem_cons.1 h with rfl|h
  ·exact .inl hn
  ·exact .inr (O8 h n hn)
theorem pick{α β:Type}{l:List α}{R:Nat→β→Prop}:∀{n:Nat},(∀i,i<n→∃y,R i y)→∃ys:List β,ys.length=n∧∀(i:Nat) y,ys[i]? =some y→R i y
 |0,_=>⟨[],rfl,by simp⟩
 |n+1,h=>by
  obtain⟨ys,h1,h2⟩:=pick (l:=l) (R:=R) (n:=n) (fun i hi=>h i (by omega))
  obtain⟨y,hy⟩:=h n (by omega)
  refine⟨ys++[y],by simp[h1],?_⟩
  intro i z hz
  by_cases hi:i<n
  ·rw[List.getElem?_append_left (by omega)]at hz
   exact h2 i z hz
  ·have hlt:=(List.getElem?_eq_some_iff.1 hz).1
   simp at hlt
   have:i=n:=by omega
   subst this
   rw[List.getElem?_append_right (by omega)]at hz
   simp[h1]at hz
   subst hz
   exact hy
theorem Xa5{g n:Nat}{fs0:List Field}{xs:List (DataW H×List MemPlace)}(ih:∀{t:TypeId} {cs:List Value} {x:DataW H×List MemPlace},M2 P g t=true→DataW.trod enc P w base spare held n t cs=some x→(∀m∈x.1.weights P t,m≤reachBytes)→
   ∃ys,RelDs w (fun b=>b<w.heap.size) ys cs∧ShD P t ys∧cs.length=P.cellsOf t):
  ∀{fs:List Field} {o i:Nat} {cs:List Value},Xjo P o fs=true→fs.all (fun f=>M2 P g f.type)=true→(∀(k:Nat) f,fs[k]? =some f→DataW.trod enc P w base spare held n f.type ((cs.drop f.offset).take (P.cellsOf f.type))=xs[i+k]?)→
   i+fs.length=xs.length→(∀m∈DataW.weightsEach P (fs.map (·.type)) ((xs.drop i).map (·.1)),m≤reachBytes)→cs.length=o+Xlk P fs→∃ys,RelDs w (fun b=>b<w.heap.size) ys (cs.drop o)∧ShDs P fs ys
 |[],o,i,cs,_,_,_,_,_,hlen=>by
  refine⟨[],?_,.nil⟩
  rw[List.drop_of_length_le (by simp[Xlk]at hlen;omega)]
  exact .nil
 |f::fs,o,i,cs,hl,ha,ht,hn,hw,hlen=>by
  simp only[Xjo,Bool.and_eq_true,beq_iff_eq]at hl
  simp only[List.all_cons,Bool.and_eq_true]at ha
  have hi:i<xs.length:=by simp at hn;omega
  have h0:=ht 0 f rfl
  simp only[Nat.add_zero]at h0
  have hx:xs[i]? =some xs[i]:=List.getElem?_eq_getElem hi
  rw[hx,hl.1]at h0
  have hd:xs.drop i=xs[i]::xs.drop (i+1):=List.drop_eq_getElem_cons hi
  have hw':∀m∈DataW.weights P f.type xs[i].1++DataW.weightsEach P (fs.map (·.type)) ((xs.drop (i+1)).map (·.1)),m≤reachBytes:=by
   rw[hd]at hw
   simpa only[List.map_cons,DataW.weightsEach]using hw
  obtain⟨ys,h1,h2,h3⟩:=ih ha.1 h0 (fun m hm=>hw' m (List.mem_append_left _ hm))
  simp only[Xlk]at hlen
  obtain⟨zs,k1,k2⟩:=Xa5 (fs0:=fs0) ih (fs:=fs) (o:=o+P.cellsOf f.type) (i:=i+1) (cs:=cs) hl.2 ha.2 (fun k f' hf=>by
   have:=ht (k+1) f' (by simpa using hf)
   rwa[show i+(k+1)=i+1+k by omega]at this) (by simp at hn;omega) (fun m hm=>hw' m (List.mem_append_right _ hm)) (by omega)
  refine⟨ys++zs,?_,.cons h2 k2⟩
  rw[show cs.drop o=(cs.drop o).take (P.cellsOf f.type)++cs.drop (o+P.cellsOf f.type)by rw[←List.drop_drop,List.take_append_drop]]
  exact h1.append k1
theorem Xdb:∀{g n:Nat} {t:TypeId} {cs:List Value} {x:DataW H×List MemPlace},M2 P g t=true→DataW.trod enc P w base spare held n t cs=some x→(∀m∈x.1.weights P t,m≤reachBytes)→
  ∃ys,RelDs w (fun b=>b<w.heap.size) ys cs∧ShD P t ys∧cs.length=P.cellsOf t
 |0,n,t,cs,x,hp,_,_=>by simp[M2]at hp
 |g+1,n,t,cs,x,hp,h,hw=>by
  unfold M2 at hp
  split at hp
  ·rename_i hu
   obtain⟨b,rfl,rfl⟩:=DataW.trod_bool hu h
   exact⟨_,.one (.sc _ rfl),.bool b hu,by simpa using(beq_iff_eq.1 hp).symm⟩
  ·rename_i k hu
   obtain⟨m,rfl,rfl,hwf⟩:=DataW.trod_int hu h
   exact⟨_,.one (.sc _ rfl),.int m hu hwf,by simpa using(beq_iff_eq.1 hp).symm⟩
  ·rename_i hu
   obtain⟨s,rfl,rfl,_⟩:=DataW.trod_string hu h
   refine⟨_,.one (.sc _ rfl),.str s hu ?_,by simpa using(beq_iff_eq.1 hp).symm⟩
   have:=hw s.data.toList.length (by simp[DataW.weights])
   simpa using this
  ·rename_i e hu
   simp only[Bool.and_eq_true,beq_iff_eq,decide_eq_true_eq]at hp
   obtain⟨⟨ab,ac⟩,hpe⟩:=hp
   rcases DataW.trod_slice hu h with⟨rfl,rfl⟩|⟨a,len,cap,elems,rest,n',rfl,rfl,rfl,hb,hl,hm,hlen,hel,hsp,hns⟩
   ·exact⟨[.row (P.cellsOf e) []],.one (.nil _ _ _),.sl [] hu (by simp) (by simp),ab.symm⟩
   ·simp only[DataW.weights,hu,List.length_map,List.mem_cons,List.mem_append]at hw
    have each:∀i,i<len→∃ys,∃cs',w.cells? base (a.add (i*P.cellsOf e)) (P.cellsOf e)=some cs'∧RelDs w (fun b=>b<w.heap.size) ys cs'∧ShD P e ys∧cs'.length=P.cellsOf e:=by
     intro i hi
     have h1:=hel i hi
     have hx:elems[i]? =some (elems[i]'(by omega)):=List.getElem?_eq_getElem (by omega)
     rw[hx]at h1
     obtain⟨cs',hcs,htr⟩:=Option.bind_eq_some_iff.1 h1
     obtain⟨ys,k1,k2,k3⟩:=Xdb hpe htr (fun m hm=>hw m (.inr (.inl (O8 (List.mem_map.2 ⟨_,List.getElem_mem (by omega),rfl⟩) m hm))))
     exact⟨ys,cs',hcs,k1,k2,k3⟩
    obtain⟨ys,hyl,hy⟩:=pick (l:=([]:List Nat)) each
    refine⟨[.row (P.cellsOf e) ys],.one ?_,.sl ys hu ?_ ?_,ab.symm⟩
    ·cases len with
     |zero=>
      obtain rfl:ys=[]:=by simpa using hyl
      exact .nil _ _ _
     |succ len=>
      have cellAt:∀(i:Nat) z,ys[i]? =some z→∃cs',z.length=P.cellsOf e∧cs'.length=P.cellsOf e∧(∀j,j<P.cellsOf e→w.cell? ((a.add (i*P.cellsOf e)).add j)=cs'[j]?)∧RelDs w (fun b=>b<w.heap.size) z cs':=by
       intro i z hz
       obtain⟨cs',h1,h2,h3,h4⟩:=hy i z hz
       obtain⟨_,_,h5⟩:=World.cells?_some h1
       exact⟨cs',h2.length.trans h4,h4,h5,h2⟩
      have h00:0<ys.length:=by omega
      obtain⟨cs0,_,af,ae,_⟩:=cellAt 0 ys[0] (List.getElem?_eq_getElem h00)
      have ad:=ae 0 ac
      have aa:w.cell? ((a.add (0*P.cellsOf e)).add 0)=some (cs0[0]'(by omega)):=ad.trans (List.getElem?_eq_getElem (by omega))
      have hspot:a.spot=none:=by simpa[Addr.add]using World.cell?_spot aa
      have hblk:a.block<w.heap.size:=by
       obtain⟨cs',h1,_⟩:=hy 0 ys[0] (List.getElem?_eq_getElem h00)
       have:=World.cells?_block h1 ac
       simpa[Addr.add]using this
      obtain⟨b,off,spot⟩:=a
      simp only at hspot hblk
      subst hspot
      rw[←hyl]
      refine .row (P.cellsOf e) ys b off cap (fun i j=>((w.cell? ⟨b,off+i*P.cellsOf e+j,none⟩).getD undef)) hblk (by omega) ?_ ?_ ?_
      ·intro i z hz
       obtain⟨_,h,_⟩:=cellAt i z hz
       exact h
      ·intro i z j y hz hy'
       obtain⟨cs',h1,h2,h3,h4⟩:=cellAt i z hz
       have hj:j<P.cellsOf e:=by rw[←h1];exact(List.getElem?_eq_some_iff.1 hy').1
       have h5:=h3 j hj
       rw[List.getElem?_eq_getElem (by omega)]at h5
       have h6:w.cell? ⟨b,off+i*P.cellsOf e+j,none⟩=some (cs'[j]'(by omega)):=by rw[XbI]at h5;exact h5
       rw[h6]
       rfl
      ·intro i z j y hz hy'
       obtain⟨cs',h1,h2,h3,h4⟩:=cellAt i z hz
       have hj:j<P.cellsOf e:=by rw[←h1];exact(List.getElem?_eq_some_iff.1 hy').1
       have h5:=h3 j hj
       rw[List.getElem?_eq_getElem (by omega)]at h5
       have h6:w.cell? ⟨b,off+i*P.cellsOf e+j,none⟩=some (cs'[j]'(by omega)):=by rw[XbI]at h5;exact h5
       rw[h6]
       obtain⟨v,hv,hr⟩:=h4.get j y hy'
       rw[List.getElem?_eq_getElem (by omega)]at hv
       obtain rfl:=Option.some.inj hv
       exact hr
    ·have h1:=hw _ (.inl rfl)
     refine Nat.le_trans (Nat.mul_le_mul_right _ ?_) h1
     omega
    ·intro z hz
     obtain⟨i,hi⟩:=List.getElem?_of_mem hz
     obtain⟨_,_,_,h,_⟩:=hy i z hi
     exact h
  ·rename_i fs hu
   simp only[Bool.and_eq_true,beq_iff_eq]at hp
   obtain⟨⟨hlay,hsum⟩,hall⟩:=hp
   obtain⟨xs,n',rfl,rfl,hlen,hxl,hel⟩:=DataW.trod_struct hu h
   simp only[DataW.weights,hu]at hw
   obtain⟨ys,h1,h2⟩:=Xa5 (fs0:=fs.toList) (xs:=xs) (fun{t} {cs} {x} a b c=>Xdb (g:=g) a b c) (fs:=fs.toList) (o:=0) (i:=0) (cs:=cs) hlay hall (fun k f hf=>by
    rw[Nat.zero_add];exact hel k f (by simpa using hf)) (by simp[hxl]) (by simpa using hw) (by omega)
   exact⟨ys,by simpa using h1,.st ys hu h2,hlen⟩
  ·cases hp
end
end
section
open Go
open Go.ChangeShapes Go.WideShapes Go.ChangeAt Go.RowKit
def Xdo(P:Program)(t:TypeId)(ys:List D):AV:=
 match P.underlying t with
 |some (.struct _)=>.agg (ys.map .d)
 |_=>match ys with
  |[y]=>.d y
  |_=>.junk
inductive ShAll (P:Program):List TypeId→List (List D)→Prop
 |nil:ShAll P [] []
 |cons {t:TypeId} {ts:List TypeId} {y:List D} {ys:List (List D)} (h:ShD P t y) (k:ShAll P ts ys):ShAll P (t::ts) (y::ys)
def L0(P:Program):List TypeId→List (List D)→List AV
 |t::ts,y::ys=>Xdo P t y::L0 P ts ys
 |_,_=>[]
theorem RelDs.ones{w:World}{S:Nat→Prop}{a:List D}{c:List Value}(h:RelDs w S a c):∀u∈c,u.oneCell'=true:=by
 induction h with
 |nil=>simp
 |cons h _ ih=>
  intro u hu
  rcases List.mem_cons.1 hu with rfl|hu
  ·exact h.one
  ·exact ih u hu
section
variable {H:Type} {enc:TypeId×Value→H} {P:Program} {W:World} {base base':Nat} {spare:Nat→Bool} {held:Bool} {E:Env}
theorem XkT{g:Nat}{t:TypeId}{v:Value}{d:DataW H}{p:List MemPlace}(hEw:E.w=W)(hES:E.S=fun b=>b<W.heap.size)(hp:M2 P g t=true)(hv:Value.okWide P W .any base' t v)
  (h:DataW.Trod enc P W base spare held t v d p)(hw:∀m∈d.weights P t,m≤reachBytes):∃ys,ShD P t ys∧RelAV E (Xdo P t ys) v:=by
 obtain⟨fuel,hf⟩:=h
 obtain⟨ys,h1,h2,h3⟩:=Xdb hp hf hw
 refine⟨ys,h2,?_⟩
 have h1':RelDs E.w E.S ys v.cells.toList:=by rw[hEw,hES];exact h1
 have one:(∀cs,v≠.agg cs)→(∀fs,P.underlying t≠some (.struct fs))→RelAV E (Xdo P t ys) v:=by
  intro hn hs
  have hc:v.cells.toList=[v]:=by
   cases v<;>first|rfl|exact absurd rfl (hn _)
  rw[hc]at h1'
  cases h1' with
  |cons hr ht=>
   cases ht with
   |nil=>
    unfold Xdo
    split
    ·rename_i fs hu;exact absurd hu (hs fs)
    ·exact .d _ _ hr
 cases g with
 |zero=>simp[M2]at hp
 |succ g=>
  unfold M2 at hp
  split at hp
  ·rename_i hu;obtain⟨b,rfl⟩:=okWide_bool hu hv;exact one (by intro cs h;cases h) (by intro fs h;rw[hu]at h;cases h)
  ·rename_i hu;obtain⟨b,rfl⟩:=okWide_int hu hv;exact one (by intro cs h;cases h) (by intro fs h;rw[hu]at h;cases h)
  ·rename_i hu;obtain⟨b,rfl⟩:=okWide_string hu hv;exact one (by intro cs h;cases h) (by intro fs h;rw[hu]at h;cases h)
  ·rename_i hu;obtain⟨a,l,c,rfl⟩:=okWide_slice hu hv;exact one (by intro cs h;cases h) (by intro fs h;rw[hu]at h;cases h)
  ·rename_i fs hu
   obtain⟨cs,rfl,_⟩:=okWide_struct hu hv
   have e:Xdo P t ys= .agg (ys.map .d):=by unfold Xdo;rw[hu]
   rw[e]
   have h1'':RelDs E.w E.S ys cs.toList:=h1'
   refine .agg _ cs (by have:=h1''.length;simp at this;simp[this]) ?_ (fun u hu=>h1''.ones u (by simpa using hu))
   intro j y hy
   rw[List.getElem?_map]at hy
   obtain⟨x,hx,rfl⟩:=Option.map_eq_some_iff.1 hy
   obtain⟨u,hu,hr⟩:=h1''.get j x hx
   have:cs.getD j undef=u:=by
    rw[Array.getElem?_toList]at hu
    rw[Array.getD_eq_getD_getElem?,hu];rfl
   rw[this]
   exact .d _ _ hr
  ·cases hp
theorem Xfb{g:Nat}(hEw:E.w=W)(hES:E.S=fun b=>b<W.heap.size):∀{ts:List TypeId} {vs:List Value} {ds:List (DataW H)} {p:List MemPlace},ts.all (M2 P g)=true→(∀(j:Nat) t v,ts[j]? =some t→vs[j]? =some v→Value.okWide P W .any base' t v)→
  DataW.TrodAll enc P W base spare held ts vs ds p→(∀m∈DataW.weightsEach P ts ds,m≤reachBytes)→∃yss,ShAll P ts yss∧(L0 P ts yss).length=vs.length∧∀(j:Nat) y,(L0 P ts yss)[j]? =some y→∃v,vs[j]? =some v∧RelAV E y v
 |[],vs,ds,p,_,_,h,_=>by
  cases vs with
  |nil=>exact⟨[],.nil,rfl,by simp[L0]⟩
  |cons v vs=>cases ds<;>simp[DataW.TrodAll]at h
 |t::ts,vs,ds,p,hp,hv,h,hw=>by
  obtain⟨v,vs',d,ds',p1,q,rfl,rfl,rfl,h1,h2⟩:=trodAll_cons h
  simp only[List.all_cons,Bool.and_eq_true]at hp
  simp only[DataW.weightsEach,List.mem_append]at hw
  obtain⟨ys,k1,k2⟩:=XkT hEw hES hp.1 (hv 0 t v rfl rfl) h1 (fun m hm=>hw m (.inl hm))
  obtain⟨yss,k3,k4,k5⟩:=Xfb hEw hES hp.2 (fun j t v a b=>hv (j+1) t v (by simpa using a) (by simpa using b)) h2 (fun m hm=>hw m (.inr hm))
  refine⟨ys::yss,.cons k1 k3,by simp[L0,k4],?_⟩
  intro j y hy
  cases j with
  |zero=>simp[L0]at hy;subst hy;exact⟨v,rfl,k2⟩
  |succ j=>simp[L0]at hy;simpa using k5 j y hy
theorem XhZ{f:FuncId}{g:Nat}{ts:List TypeId}{args:Array Value}{ds:List (DataW H)}{p:List MemPlace}(hp:ts.all (M2 P g)=true)(hcall:∀yss,ShAll P ts yss→CallOk P f (L0 P ts yss) [] ⟨.d (.sc (.bool true)),[],[]⟩)
  (hv:∀(j:Nat) t v,ts[j]? =some t→args.toList[j]? =some v→Value.okWide P W .any base' t v)(h:DataW.TrodAll enc P W base spare held ts args.toList ds p)(hw:∀m∈DataW.weightsEach P ts ds,m≤reachBytes)(hG:Globs.ok W fun b=>b<W.heap.size):
  Calls P f args W fun e W'=>e= .returned (.bool true)∧Below W.heap.size W W':=by
 let S:Nat→Prop:=fun b=>b<W.heap.size
 let β:Nat→Option Nat:=fun _=>none
 obtain⟨yss,h1,h2,h3⟩:=Xfb (E:=B1 W S β [] []) rfl rfl hp hv h hw
 have hM:Mem (F3 W S β []) (B1 W S β [] []):={
  os:=rfl
  output:=rfl
  tape:=rfl
  size:=Nat.le_refl _
  keep:=fun _ _ _=>rfl
  shape:=fun _ _ h=>h
  s0:=fun _ h=>h
  slt:=fun _ h=>h
  glob:=hG
  snew:=fun _ h=>.inl h
  blt:=fun r b h=>absurd h (Nat.not_lt_zero r)
  bown:=fun r R b h=>absurd h (Nat.not_lt_zero r)
  bkeep:=fun r R h=>absurd h (Nat.not_lt_zero r)
  inj:=fun r r' R R' b h=>absurd h (Nat.not_lt_zero r)
  roots:=fun r R h=>absurd h (Nat.not_lt_zero r)}
 have hA:XcC (B1 W S β [] []) (L0 P ts yss) args:=by
  refine⟨by rw[h2];simp,?_⟩
  intro j y hy
  obtain⟨v,hv,hr⟩:=h3 j y hy
  have:args.getD j undef=v:=by
   rw[Array.getElem?_toList]at hv
   rw[Array.getD_eq_getD_getElem?,hv];rfl
  rw[this]
  exact hr
 refine(hcall yss h1 W S β args hM hA).mono ?_
 rintro e W' ⟨v,E',rfl,rfl,hO⟩
 have hb:v= .bool true:=Xd7 hO.rel
 subst hb
 refine⟨rfl,hO.mem.os,hO.mem.tape,hO.mem.output,hO.mem.size,?_⟩
 intro k hk
 refine hO.mem.keep k hk ?_
 rintro⟨r,R,hR,_⟩
 simp at hR
end
section
variable {P:Program} {t:TypeId} {xs:List D}
theorem ShD.inv_int{k:IntKind}(hu:P.underlying t=some (.int k))(h:ShD P t xs):∃n,xs=[.sc (.int k n)]∧(Lit.int k n).wf=true:=by
 cases h with
 |int n h hw=>rw[hu]at h;obtain rfl:k=_:=by injection h with h;injection h
              exact⟨n,rfl,hw⟩
 |bool b h=>rw[hu]at h;cases h
 |str s h=>rw[hu]at h;cases h
 |sl ys h=>rw[hu]at h;cases h
 |st ys h=>rw[hu]at h;cases h
theorem ShD.inv_str(hu:P.underlying t=some .string)(h:ShD P t xs):∃s:ByteArray,xs=[.sc (.string s)]∧s.size≤reachBytes:=by
 cases h with
 |str s h hs=>exact⟨s,rfl,hs⟩
 |bool b h=>rw[hu]at h;cases h
 |int n h=>rw[hu]at h;cases h
 |sl ys h=>rw[hu]at h;cases h
 |st ys h=>rw[hu]at h;cases h
theorem ShD.inv_sl{e:TypeId}(hu:P.underlying t=some (.slice e))(h:ShD P t xs):∃ys,xs=[.row (P.cellsOf e) ys]∧ys.length*P.bytesOf e≤reachBytes∧∀x∈ys,ShD P e x:=by
 cases h with
 |sl ys h hl hx=>rw[hu]at h;obtain rfl:e=_:=by injection h with h;injection h
                 exact⟨ys,rfl,hl,hx⟩
 |bool b h=>rw[hu]at h;cases h
 |int n h=>rw[hu]at h;cases h
 |str ys h=>rw[hu]at h;cases h
 |st ys h=>rw[hu]at h;cases h
theorem ShD.inv_st{fs:Array Field}(hu:P.underlying t=some (.struct fs))(h:ShD P t xs):ShDs P fs.toList xs:=by
 cases h with
 |st ys h hx=>rw[hu]at h;obtain rfl:fs=_:=by injection h with h;injection h
              exact hx
 |bool b h=>rw[hu]at h;cases h
 |int n h=>rw[hu]at h;cases h
 |str ys h=>rw[hu]at h;cases h
 |sl ys h=>rw[hu]at h;cases h
theorem Zj{α:Type}{c:α→List D}{p:α→Prop}:∀{ys:List (List D)},(∀x∈ys,∃a,x=c a∧p a)→∃as0:List α,as0.map c=ys∧as0.length=ys.length∧∀a∈as0,p a
 |[],_=>⟨[],rfl,rfl,by simp⟩
 |y::ys,h=>by
  obtain⟨a,rfl,ha⟩:=h y (by simp)
  obtain⟨as0,rfl,hl,hp⟩:=Zj (ys:=ys) (fun x hx=>h x (by simp[hx]))
  refine⟨a::as0,rfl,by simp,?_⟩
  intro b hb
  rcases List.mem_cons.1 hb with rfl|hb
  ·exact ha
  ·exact hp b hb
theorem O1:reachBytes<2^47:=by decide
end
theorem Hj{α:Type}(f:α→Int)(h:∀x,0≤f x):∀{a:List α} {x:α},x∈a→f x≤Kc f a
 |y::a,x,hx=>by
  have hn:=Dg f a (fun z _=>h z)
  have hy:=h y
  simp only[Kc]
  rcases List.mem_cons.1 hx with rfl|hx
  ·omega
  ·have:=Hj f h hx
   omega
theorem Ve{P:Program}{st:St}{tab:List (Nat×TyRow)}(hT:B8 P tab){a t n:Nat}{g:Bool}{R:TyRow}{av0 av:AV}{L:List Nat}(hR:Di tab t=some R)(hg:R.agg=some g)(hn:R.sz=some n)(h:E8 st.look n g (st.sl a)=some av0)(hr:av0.rdo st.look=some (av,L)):EndD P #[.cell a t] av .ret st:=by
 obtain rfl:=hT t R hR
 refine⟨[av0],L,?_,hr⟩
 have hg':Xq P t=some g:=hg
 have hn':szT P t=some n:=hn
 simp[Hw,Pa,hg',hn',h]
open Go
def Xk0(n:Nat)(l:List (Nat×AV)):Bool:=l.all fun p=>p.2.ids.all fun r=>decide (r<n)
def XlS(n:Nat)(l:List Root):Bool:=l.all fun R=>R.ids.all fun r=>decide (r<n)
theorem XeR{n:Nat}:∀{l:List (Nat×AV)},Xk0 n l=true→∀t,∀r∈(look l t).ids,r<n
 |[],_,t,r,hr=>by simp[look,AV.ids]at hr
 |(s,x)::l,h,t,r,hr=>by
  simp only[Xk0,List.all_cons,Bool.and_eq_true]at h
  simp only[look]at hr
  split at hr
  ·have:=List.all_eq_true.1 h.1 r hr
   simpa using this
  ·exact XeR (l:=l) h.2 t r hr
theorem XlA{n:Nat}{l:List Root}(h:XlS n l=true)(r:Nat)(R:Root)(hR:l[r]? =some R):∀i∈R.ids,i<n:=by
 intro i hi
 have:=List.all_eq_true.1 (List.all_eq_true.1 h R (List.mem_of_getElem? hR)) i hi
 simpa using this
section
variable {P:Program} {N:Nat} {Q:Exit→St→Prop} {st:St}
theorem LpW.ofN{κ:Type}{body:Code}(inv:κ→Prop)(μ:κ→Nat)(sl:κ→List (Nat×AV))(rt:κ→List Root)(k0:κ)(n0:Nat)(h0:inv k0)(hw:WeakL (sl k0) st.sl)(hrt:st.rt=rt k0)
  (hids:∀k,inv k→(rt k).length=n0∧Xk0 n0 (sl k)=true∧XlS n0 (rt k)=true)
  (round:∀k,inv k→AW P N body (Exit.thenQ (fun st'=>∃k',inv k'∧μ k'<μ k∧WeakL (sl k') st'.sl∧st'.rt.take n0=rt k') Q) ⟨look (sl k),rt k⟩):LpW P N body Q st:=by
 refine⟨AW.weak (sl':=look (sl k0)) hw.look ?_⟩
 rw[hrt]
 intro c Ei a w hH
 have hm:c.m≤n0:=by
  obtain⟨E,_,_,_,_,_,_,_,_,hm⟩:=hH
  exact Nat.le_trans hm (Nat.le_of_eq (hids k0 h0).1)
 let J:Act→World→Nat→Prop:=fun a w n=>∃k,inv k∧μ k=n∧Holds c Ei N ⟨look (sl k),rt k⟩ a w
 let ν:Act→World→Nat:=fun a w=>open Classical in if h:∃k,J a w k∧∀m,J a w m→k≤m then h.choose else 0
 have hν:∀{a w n},J a w n→J a w (ν a w)∧ν a w≤n:=by
  intro a w n h
  have hl:=Np n h
  have:ν a w=hl.choose:=dif_pos hl
  rw[this]
  exact⟨hl.choose_spec.1,hl.choose_spec.2 n h⟩
 refine wp_loop (fun a w=>∃n,J a w n) ν ⟨μ k0,k0,h0,rfl,hH⟩ ?_
 rintro a w ⟨n,hn⟩
 obtain⟨⟨k,hk,hμ,hH'⟩,_⟩:=hν hn
 refine wp_mono (round k hk c Ei a w hH') ?_
 rintro e a' w' ⟨st',hq,hH''⟩
 cases e with
 |normal=>
  obtain⟨k',h1,h2,h3,h4⟩:=hq
  obtain⟨i1,i2,i3⟩:=hids k' h1
  have hlen:n0≤st'.rt.length:=by
   have:=congrArg List.length h4
   rw[List.length_take,i1]at this
   omega
  have hD:=hH''.drop (n:=n0) (sl':=look (sl k')) hm hlen (by
   intro t
   rcases h3.look t with h|h
   ·exact .inr ⟨h,XeR i2 t⟩
   ·exact .inl h) (by
   intro r R hr hR
   refine XlA i3 r R ?_
   rw[←h4,List.getElem?_take_of_lt hr]
   exact hR)
  rw[h4]at hD
  have hJ:J a' w' (μ k'):=⟨k',h1,rfl,hD⟩
  exact⟨⟨_,hJ⟩,Nat.lt_of_le_of_lt (hν hJ).2 (by omega)⟩
 |_=>exact⟨st',hq,hH''⟩
end
theorem Kw{P:Program}{st:St}{t:Nat}{x x':D}(h:st.sl t= .d x')(e:x'=x):EndD P #[.tmp t] (.d x) .ret st:=by
 subst e
 exact Eh h rfl
theorem Xgk{k:IntKind}{a b:Int}(h:a=b):D.sc (.int k a)=D.sc (.int k b):=by rw[h]
theorem XlI{a b:ByteArray}(h:a=b):D.sc (.string a)=D.sc (.string b):=by rw[h]
open Go
section
variable {P:Program} {N:Nat} {Q:Exit→St→Prop} {st:St}
theorem Holds.ren{c:Ctx}{Ei:Env}{a:Act}{w:World}(h:Holds c Ei N st a w){n0:Nat}{ids:List Nat}{sl':Nat→AV}{rt':List Root}(hm:c.m≤n0)(hge:∀i∈ids,n0≤i)(hnd:ids.Nodup)(hlen:rt'.length=n0+ids.length)
  (hlow:∀(r:Nat) R',r<n0→rt'[r]? =some R'→∃R,st.rt[r]? =some R∧R.ren (Ee n0 ids)=some R')(hhigh:∀(j i:Nat) R',ids[j]? =some i→rt'[n0+j]? =some R'→∃R,st.rt[i]? =some R∧R.ren (Ee n0 ids)=some R')
  (hs:∀t,sl' t= .junk∨(st.sl t).ren (Ee n0 ids)=some (sl' t)):Holds c Ei N ⟨sl',rt'⟩ a w:=by
 obtain⟨E,rfl,hM,hSt,hrt,hpr,hsl,hdef,hsz,_⟩:=h
 let f:=Ee n0 ids
 let E':Env:=⟨fun r=>rt'[r]?,fun r=>r<rt'.length,fun r=>if r<n0 then E.β r else(ids[r - n0]?).bind E.β,E.S,E.w⟩
 have e_β:∀r,E'.β r=if r<n0 then E.β r else(ids[r - n0]?).bind E.β:=fun r=>rfl
 have src:∀{x R'},rt'[x]? =some R'→∃r R,f r=some x∧E.pres r∧E'.β x=E.β r∧E.rt r=some R∧R.ren f=some R':=by
  intro x R' hx
  have hxl:x<rt'.length:=(List.getElem?_eq_some_iff.1 hx).1
  by_cases hlt:x<n0
  ·obtain⟨R,h1,h2⟩:=hlow x R' hlt hx
   refine⟨x,R,if_pos hlt,?_,?_,?_,h2⟩
   ·rw[hpr];exact(List.getElem?_eq_some_iff.1 h1).1
   ·rw[e_β,if_pos hlt]
   ·rw[hrt];exact h1
  ·have hk:x - n0<ids.length:=by omega
   have hgi:ids[x - n0]? =some ids[x - n0]:=List.getElem?_eq_getElem hk
   obtain⟨R,h1,h2⟩:=hhigh (x - n0) _ R' hgi (by rw[show n0+(x - n0)=x by omega];exact hx)
   refine⟨ids[x - n0],R,?_,?_,?_,?_,h2⟩
   ·have:=W7 hnd hge hgi
    rwa[show n0+(x - n0)=x by omega]at this
   ·rw[hpr];exact(List.getElem?_eq_some_iff.1 h1).1
   ·rw[e_β,if_neg hlt,hgi];rfl
   ·rw[hrt];exact h1
 have inj':∀{r r' x},f r=some x→f r'=some x→r=r':=by
  intro r r' x h h'
  rcases Fv h with⟨h1,rfl⟩|⟨h1,h2,h3⟩<;>rcases Fv h' with⟨k1,k2⟩|⟨k1,k2,k3⟩
  ·exact k2
  ·omega
  ·omega
  ·rw[h3]at k3;exact Option.some.inj k3
 have dom:∀{r x},f r=some x→∃R',rt'[x]? =some R':=by
  intro r x h
  have:x<rt'.length:=by
   rcases Fv h with⟨h1,rfl⟩|⟨h1,h2,h3⟩
   ·omega
   ·have:=(List.getElem?_eq_some_iff.1 h3).1
    omega
  exact⟨_,List.getElem?_eq_getElem this⟩
 have hC:Conn f E E':=by
  refine⟨rfl,fun _ h=>h,?_,?_,?_⟩
  ·intro r x h
   obtain⟨R',hR'⟩:=dom h
   obtain⟨r',R,h1,_,_,h2,h3⟩:=src hR'
   rw[inj' h h1,h2]
   show Option.map Root.kind rt'[x]? =_
   rw[hR']
   simp[Ix h3]
  ·intro r x h
   obtain⟨R',hR'⟩:=dom h
   obtain⟨r',R,h1,h2,_⟩:=src hR'
   rw[inj' h h1]
   exact⟨fun _=>h2,fun _=>(List.getElem?_eq_some_iff.1 hR').1⟩
  ·intro r x h _
   obtain⟨R',hR'⟩:=dom h
   obtain⟨r',R,h1,_,h2,_⟩:=src hR'
   rw[h2,inj' h h1]
 have live:∀{x R'},rt'[x]? =some R'→R'≠.dead→∃r R,f r=some x∧E.pres r∧E'.β x=E.β r∧E.rt r=some R∧R≠.dead:=by
  intro x R' hx hd
  obtain⟨r,R,h1,h2,h3,h4,h5⟩:=src hx
  exact⟨r,R,h1,h2,h3,h4,fun e=>hd ((Hg h5).2 e)⟩
 have hM':Mem c E':={
  os:=hM.os
  output:=hM.output
  tape:=hM.tape
  size:=hM.size
  keep:=hM.keep
  shape:=hM.shape
  s0:=hM.s0
  slt:=hM.slt
  glob:=hM.glob
  snew:=hM.snew
  blt:=by
   intro x b hp hb
   obtain⟨r,R,_,h2,h3,_⟩:=src (List.getElem?_eq_getElem (show x<rt'.length from hp))
   rw[h3]at hb
   exact hM.blt r b h2 hb
  bown:=by
   intro x R b hp hR hd hb
   obtain⟨r,R0,_,h2,h3,h4,h5⟩:=live hR hd
   rw[h3]at hb
   exact hM.bown r R0 b h2 h4 h5 hb
  bkeep:=by
   intro x R hlt hp hR hd
   obtain⟨r,R0,h1,h2,h3,h4,h5⟩:=live hR hd
   rcases Fv h1 with⟨k1,rfl⟩|⟨k1,k2,_⟩
   ·rw[h3];exact hM.bkeep x R0 hlt h2 h4 h5
   ·omega
  inj:=by
   intro x x' R R' b hp hp' hR hd hR' hd' hb hb'
   obtain⟨r,R0,h1,h2,h3,h4,h5⟩:=live hR hd
   obtain⟨r',R0',h1',h2',h3',h4',h5'⟩:=live hR' hd'
   rw[h3]at hb
   rw[h3']at hb'
   have:=hM.inj r r' R0 R0' b h2 h2' h4 h5 h4' h5' hb hb'
   subst this
   rw[h1]at h1'
   exact Option.some.inj h1'
  roots:=by
   intro x R hp hR
   obtain⟨r,R0,h1,h2,h3,h4,h5⟩:=src (show rt'[x]? =some R from hR)
   exact RootRel.conn hC (fun _ h=>h) h1 h2 h5 (hM.roots r R0 h2 h4)}
 refine⟨E',rfl,hM',?_,rfl,fun _=>Iff.rfl,?_,hdef,hsz,?_⟩
 ·refine⟨?_,?_,?_,hSt.S,hSt.heap,hSt.shape⟩
  ·intro r R hr hR
   have hlt:r<n0:=by omega
   obtain⟨R1,h1,h2⟩:=hSt.rt r R hr hR
   have hx:rt'[r]? =some (rt'[r]'(by omega)):=List.getElem?_eq_getElem (by omega)
   obtain⟨R2,k1,k2⟩:=hlow r _ hlt hx
   have k3:E.rt r=some R2:=by rw[hrt];exact k1
   rw[h1]at k3
   obtain rfl:=Option.some.inj k3
   refine⟨_,hx,?_⟩
   rcases h2 with h2|h2
   ·exact .inl ((Hg k2).2 h2)
   ·exact .inr ((Ix k2).trans h2)
  ·intro r hr _
   show r<rt'.length
   omega
  ·intro r hr hp
   rw[e_β,if_pos (by omega)]
   exact hSt.β r hr hp
 ·intro t
  show RelAV E' (sl' t) _
  rcases hs t with h|h
  ·rw[h];exact .junk _
  ·exact RelAV.conn hC (hsl t) h
 ·show c.m≤rt'.length
  omega
def mvF(r n:Nat):Nat→Option Nat:=fun x=>if x=r then some n else if x<n then some x else none
def mvS(r n:Nat)(sl:Nat→AV):Nat→AV:=fun t=>((sl t).ren (mvF r n)).getD .junk
def Xaa(n0:Nat)(sl:List (Nat×AV))(rt:List Root)(st':St):Prop:=
 ∃ids:List Nat,(∀i∈ids,n0≤i)∧ids.Nodup∧rt.length=n0+ids.length∧(∀(r:Nat) R',r<n0→rt[r]? =some R'→∃R,st'.rt[r]? =some R∧R.ren (Ee n0 ids)=some R')∧
  (∀(j i:Nat) R',ids[j]? =some i→rt[n0+j]? =some R'→∃R,st'.rt[i]? =some R∧R.ren (Ee n0 ids)=some R')∧∀p∈sl,(st'.sl p.1).ren (Ee n0 ids)=some p.2
theorem LpW.ofR{κ:Type}{body:Code}(inv:κ→Prop)(μ:κ→Nat)(sl:κ→List (Nat×AV))(rt:κ→List Root)(k0:κ)(n0:Nat)(h0:inv k0)(hw:WeakL (sl k0) st.sl)(hrt:st.rt=rt k0){m0:Nat}(ab:m0≤n0){st0:St}(aa:st0.rt.length=m0)
  (from0:∀c Ei a w,Holds c Ei N st0 a w→Holds c Ei N st a w)
  (round:∀k,inv k→AW P N body (Exit.thenQ (fun st'=>∃k',inv k'∧μ k'<μ k∧Xaa n0 (sl k') (rt k') st') Q) ⟨look (sl k),rt k⟩):LpW P N body Q st0:=by
 refine⟨?_⟩
 intro c Ei a w hH0
 have hm:c.m≤n0:=by
  obtain⟨E,_,_,_,_,_,_,_,_,hm⟩:=hH0
  omega
 have hH:Holds c Ei N ⟨look (sl k0),rt k0⟩ a w:=by
  have h1:=from0 c Ei a w hH0
  obtain⟨E,hw',hM,hSt,hrt',hpr,hsl,hrest⟩:=h1
  rw[hrt]at hpr hrest
  refine⟨E,hw',hM,hSt,by rw[hrt'];unfold St.look;rw[hrt],hpr,?_,hrest⟩
  intro t
  rcases hw.look t with e|e
  ·show RelAV E (look (sl k0) t) _
   rw[e];exact hsl t
  ·show RelAV E (look (sl k0) t) _
   rw[e];exact .junk _
 let J:Act→World→Nat→Prop:=fun a w n=>∃k,inv k∧μ k=n∧Holds c Ei N ⟨look (sl k),rt k⟩ a w
 let ν:Act→World→Nat:=fun a w=>open Classical in if h:∃k,J a w k∧∀m,J a w m→k≤m then h.choose else 0
 have hν:∀{a w n},J a w n→J a w (ν a w)∧ν a w≤n:=by
  intro a w n h
  have hl:=Np n h
  have:ν a w=hl.choose:=dif_pos hl
  rw[this]
  exact⟨hl.choose_spec.1,hl.choose_spec.2 n h⟩
 refine wp_loop (fun a w=>∃n,J a w n) ν ⟨μ k0,k0,h0,rfl,hH⟩ ?_
 rintro a w ⟨n,hn⟩
 obtain⟨⟨k,hk,hμ,hH'⟩,_⟩:=hν hn
 refine wp_mono (round k hk c Ei a w hH') ?_
 rintro e a' w' ⟨st',hq,hH''⟩
 cases e with
 |normal=>
  obtain⟨k',h1,h2,ids,i1,i2,i3,i4,i5,i6⟩:=hq
  have hD:=hH''.ren (n0:=n0) (ids:=ids) (sl':=look (sl k')) (rt':=rt k') hm i1 i2 i3 i4 i5 (by
   intro t
   have key:∀{l:List (Nat×AV)},(∀p∈l,(st'.sl p.1).ren (Ee n0 ids)=some p.2)→look l t= .junk∨(st'.sl t).ren (Ee n0 ids)=some (look l t):=by
    intro l
    induction l with
    |nil=>intro _;exact .inl rfl
    |cons p l ih=>
     intro hl
     obtain⟨s,x⟩:=p
     simp only[look]
     split
     ·rename_i e;subst e;exact .inr (hl (t,x) List.mem_cons_self)
     ·exact ih (fun p hp=>hl p (List.mem_cons_of_mem _ hp))
   exact key i6)
  have hJ:J a' w' (μ k'):=⟨k',h1,rfl,hD⟩
  exact⟨⟨_,hJ⟩,Nat.lt_of_le_of_lt (hν hJ).2 (by omega)⟩
 |_=>exact⟨st',hq,hH''⟩
end
open Go
section
variable {P:Program} {f:FuncId} {as0:List AV} {o0:Out} {av:AV} {L:List Nat}
theorem Xjd{l:List AV}(h:AV.isDs l=true):∀(j:Nat) y,l[j]? =some y→y.isD=true:=by
 induction l with
 |nil=>intro j y h;simp at h
 |cons x l ih=>
  intro j y hy
  obtain⟨h1,h2⟩:=Xbm h
  cases j with
  |zero=>simp at hy;subst hy;exact h1
  |succ j=>simp at hy;exact ih h2 j y hy
theorem CallOk.toD(h:CallOk P f as0 [] o0)(has:AV.isDs as0=true)(hg:o0.g=[])(hl:o0.av.rdo (fun r=>o0.new[r]?)=some (av,L)):CallOk P f as0 [] ⟨av,[],[]⟩:=by
 intro w S β vs hM hA
 have hM':Mem (F3 w S β []) (B1 w S β [] o0.new):={
  os:=rfl
  output:=rfl
  tape:=rfl
  size:=Nat.le_refl _
  keep:=fun _ _ _=>rfl
  shape:=fun _ _ h=>h
  s0:=fun _ h=>h
  slt:=hM.slt
  glob:=hM.glob
  snew:=fun _ h=>.inl h
  blt:=fun r b h=>absurd h (Nat.not_lt_zero r)
  bown:=fun r R b h=>absurd h (Nat.not_lt_zero r)
  bkeep:=fun r R h=>absurd h (Nat.not_lt_zero r)
  inj:=fun r r' R R' b h=>absurd h (Nat.not_lt_zero r)
  roots:=fun r R h=>absurd h (Nat.not_lt_zero r)}
 have hA':XcC (B1 w S β [] o0.new) as0 vs:=by
  refine⟨hA.1,?_⟩
  intro j y hy
  have hd:=Xjd has j y hy
  refine RelAV.conn (f:=fun _=>none) (E:=B1 w S β [] []) (E':=B1 w S β [] o0.new) ⟨rfl,fun _ h=>h,?_,?_,?_⟩ (hA.2 j y hy) (Kb (rt:=fun _=>none) _ (Js _ hd).1)
  ·intro r r' h;cases h
  ·intro r r' h;cases h
  ·intro r r' h;cases h
 refine(h w S β vs hM' hA').mono ?_
 rintro e w' ⟨v,E,rfl,rfl,hO⟩
 have hrt:E.rt=fun r=>o0.new[r]? :=by
  rw[hO.rt,hg]
  funext r
  show([]++o0.new)[r]? =_
  rw[List.nil_append]
 rw[←hrt]at hl
 obtain⟨hrel',hrows⟩:=Xa3 hO.mem hO.rel hl
 have hML:=Mi hO.mem hrows
 have hren:=Xdi (fun _=>none) hl
 refine⟨v,⟨fun _=>none,fun _=>False,E.β,(E.lent L).S,E.w⟩,rfl,rfl,?_,?_,?_,?_,hO.size,?_⟩
 ·exact{
   os:=hO.mem.os
   output:=hO.mem.output
   tape:=hO.mem.tape
   size:=hO.mem.size
   keep:=hO.mem.keep
   shape:=hO.mem.shape
   s0:=hML.s0
   slt:=hML.slt
   glob:=hML.glob
   snew:=hML.snew
   blt:=fun r b h=>h.elim
   bown:=fun r R b h=>h.elim
   bkeep:=fun r R _ h=>h.elim
   inj:=fun r r' R R' b h=>h.elim
   roots:=fun r R h=>h.elim}
 ·refine⟨?_,?_,?_,?_,?_,?_⟩
  ·intro r R hR
   have:([]++([]:List Root))[r]? =some R:=hR
   simp at this
  ·intro r hr
   have:r<0:=hr
   omega
  ·intro r hr
   have:r<0:=hr
   omega
  ·intro b hb;exact .inl (hO.step.S b hb)
  ·intro b hb;exact hO.step.heap b hb
  ·intro b s hs;exact hO.step.shape b s hs
 ·funext r
  show none=([]++([]:List Root))[r]?
  simp
 ·intro r
  show False↔r<0∨(0≤r∧r<0+0)
  exact⟨fun h=>h.elim,fun h=>by omega⟩
 ·show RelAV _ av v
  refine RelAV.conn (f:=fun _=>none) (E:=E.lent L) (E':=⟨fun _=>none,fun _=>False,E.β,(E.lent L).S,E.w⟩) ⟨rfl,fun _ h=>h,?_,?_,?_⟩ hrel' hren
  ·intro r r' h;cases h
  ·intro r r' h;cases h
  ·intro r r' h;cases h
theorem CallOk.rowD{n sz:Nat}{xs:List (List D)}(h:CallOk P f as0 [] ⟨.ref 0 0 n,[.row sz false xs],[]⟩)(has:AV.isDs as0=true)(hn:n=xs.length):CallOk P f as0 [] ⟨.d (.row sz xs),[],[]⟩:=by
 subst hn
 refine h.toD (L:=[0]) has rfl ?_
 show(AV.ref 0 0 xs.length).rdo (fun r=>[Root.row sz false xs][r]?)=_
 simp[AV.rdo,AV.lendA]
theorem Y9{st:St}{t r n sz:Nat}{xs:List (List D)}(h:st.sl t= .ref r 0 n)(hr:st.rt[r]? =some (.row sz false xs)):EndQ P #[.tmp t] [] ⟨.ref 0 0 n,[.row sz false xs],[]⟩ .ret st:=by
 refine⟨[r],[.ref r 0 n],?_,?_,by simp,by simp,rfl,?_,by simp,by simp⟩
 ·simp[Hw,Pa,h]
 ·simp[Wz,AV.ren,Ee,Xch]
 ·intro k i R hk hR
  cases k with
  |zero=>
   simp at hk hR
   subst hk
   subst hR
   exact⟨_,hr,rfl⟩
  |succ k=>simp at hk
theorem Xan{st:St}{t sz:Nat}{x x':D}{xs ys:List (List D)}(h:st.sl t= .d x')(e:x'=x)(hr:st.rt[0]? =some (.row sz false ys)):EndQ P #[.tmp t] [.row sz false xs] ⟨.d x,[],[(0,.row sz false ys)]⟩ .ret st:=by
 subst e
 refine⟨[],[.d x'],?_,rfl,by simp,by simp,rfl,by simp,?_,by simp⟩
 ·simp[Hw,Pa,h]
 ·intro r R hR
  cases r with
  |zero=>exact⟨_,_,hr,rfl,by simp[Lz]⟩
  |succ r=>simp at hR
end
def tx(l:List UInt8):ByteArray:=⟨l.toArray⟩
def cB(b:UInt8):List D:=[.sc (.int .u8 b.toNat)]
theorem Ui(s:ByteArray):tx s.data.toList=s:=by cases s;simp[tx]
theorem Xkg{a b:List UInt8}(h:tx a=tx b):a=b:=by simpa[tx]using h
theorem Xli{a b:List UInt8}:tx a=tx b↔a=b:=⟨Xkg,fun h=>by rw[h]⟩
theorem B3{l:List UInt8}:(tx l).size=l.length:=by simp[tx,ByteArray.size]
theorem D8{a b:List UInt8}:tx a++tx b=tx (a++b):=by
 cases ha:tx a++tx b
 rename_i d
 have:(tx a++tx b).data=(tx (a++b)).data:=by simp[tx,ByteArray.data_append]
 rw[ha]at this
 simp only[tx]at this⊢
 rw[this]
theorem Xd3{a b:List UInt8}:std.cat (tx a) (tx b)=tx (a++b):=D8
theorem Iq:∀(l:List UInt8),G1 (l.map cB)=some (l.map fun b=>(b.toNat:Int))
 |[]=>rfl
 |b::l=>by
  show(G1 (l.map cB)).map ((b.toNat:Int)::·)=_
  rw[Iq l];rfl
theorem XjM(l:List UInt8):ByteOk (l.map cB):=⟨_,Iq l⟩
theorem Uy(l:List UInt8):std.bytes (l.map cB)=tx l:=by
 show(match G1 (l.map cB)with|some ns=>Et ns|none=>default)=_
 rw[Iq]
 show Et _=_
 unfold Et tx
 rw[List.map_map]
 congr 2
 induction l with
 |nil=>rfl
 |cons b l ih=>simp only[List.map_cons,ih,Function.comp,Int.toNat_natCast,UInt8.ofNat_toNat]
theorem XjP{l:List UInt8}{a b:Int}:std.ssub (tx l) a b=tx ((l.drop a.toNat).take (b.toNat - a.toNat)):=by
 show(tx l).extract a.toNat b.toNat=_
 unfold tx
 cases h:ByteArray.extract ⟨l.toArray⟩ a.toNat b.toNat
 rename_i d
 have:(ByteArray.extract ⟨l.toArray⟩ a.toNat b.toNat).data=d:=by rw[h]
 rw[ByteArray.data_extract]at this
 rw[←this]
 simp[List.extract_eq_take_drop]
open Go
inductive LendL (rt:Nat→Option Root):List AV→List AV→Prop
 |nil:LendL rt [] []
 |d {x:AV} {ys zs:List AV} (h:x.isD=true) (t:LendL rt ys zs):LendL rt (x::ys) (x::zs)
 |ref {r n sz:Nat} {fz:Bool} {xs:List (List D)} {ys zs:List AV} (h:rt r=some (.row sz fz xs)) (hn:n=xs.length) (t:LendL rt ys zs):LendL rt (.ref r 0 n::ys) (.d (.row sz xs)::zs)
 |agg {l l' ys zs:List AV} (h:LendL rt l l') (t:LendL rt ys zs):LendL rt (.agg l::ys) (.agg l'::zs)
 |sub {r o n sz:Nat} {fz:Bool} {xs us:List (List D)} {ys zs:List AV} (h:rt r=some (.row sz fz xs)) (hn:o+n≤xs.length) (e:(xs.drop o).take n=us) (t:LendL rt ys zs):LendL rt (.ref r o n::ys) (.d (.row sz us)::zs)
theorem LendL.get{rt:Nat→Option Root}{ys zs:List AV}(h:LendL rt ys zs):∃L,AV.lendAs rt ys=some (zs,L):=by
 induction h with
 |nil=>exact⟨[],rfl⟩
 |d h _ ih=>
  obtain⟨L,hL⟩:=ih
  exact⟨L,by simp[AV.lendAs,(Js rt h).1,hL]⟩
 | @ref r n sz fz xs ys zs h hn _ ih=>
   obtain⟨L,hL⟩:=ih
   subst hn
   exact⟨(if fz then[]else[r])++L,by simp[AV.lendAs,AV.lendA,h,hL]⟩
 |agg _ _ ih1 ih2=>
  obtain⟨L1,h1⟩:=ih1
  obtain⟨L2,h2⟩:=ih2
  exact⟨L1++L2,by simp[AV.lendAs,AV.lendA,h1,h2]⟩
 | @sub r o n sz fz xs us ys zs h hn e _ ih=>
   obtain⟨L,hL⟩:=ih
   subst e
   exact⟨(if fz then[]else[r])++L,by simp[AV.lendAs,AV.lendA,h,hL,hn]⟩
theorem Hc{α:Type}{c:α→List D}(h:∀a,(c a).all D.flat=true)(l:List α){sz:Nat}:([Root.row sz false (l.map c)]).all Root.flat=true:=by
 simp[Root.flat]
 intro a _ x hx
 have:=List.all_eq_true.1 (h a) x hx
 exact this
section
variable {P:Program} {o:Oper} {st:St} {K:Out→List Nat→Prop} {cl:Call} {x:Operand} {f:FuncId} {caps ys as0:List AV}
theorem ClW.lnt{av:AV}(hgd:o.guard=none)(hop:o.op= .call cl)(hc:cl.callee= .value x)(hx:Cm st.sl x= .clo f caps)(ha:ArgR st.sl cl.args.toList ys)(hl:LendL st.look (ys++caps) as0)(he:Dp P f)
  (hcall:CallOk P f as0 [] ⟨av,[],[]⟩)(hav:av.isDT=true)(hfl:av.flat=true)(k:K ⟨av,[],[]⟩ (AV.idss (ys++caps))):ClW P o st K:=by
 obtain⟨L,hL⟩:=hl.get
 exact ClW.val hgd hop hc hx ha hL he hcall (Yr _ hav) hfl k
theorem ClW.lntR{n sz:Nat}{xs:List (List D)}(hgd:o.guard=none)(hop:o.op= .call cl)(hc:cl.callee= .value x)(hx:Cm st.sl x= .clo f caps)(ha:ArgR st.sl cl.args.toList ys)(hl:LendL st.look (ys++caps) as0)(he:Dp P f)
  (hcall:CallOk P f as0 [] ⟨.ref 0 0 n,[.row sz false xs],[]⟩)(hfl:([Root.row sz false xs]).all Root.flat=true)(k:K ⟨.ref st.rt.length 0 n,[.row sz false xs],[]⟩ (AV.idss (ys++caps))):ClW P o st K:=by
 obtain⟨L,hL⟩:=hl.get
 refine ClW.pure (out:=⟨.ref st.rt.length 0 n,[.row sz false xs],[]⟩) hgd hop hc hx ha hL he hcall ?_ rfl rfl hfl k
 simp[Out.ren,AV.ren,Bo,Fl,Root.ren,Xiy]
end
def wfI(n:Int):Prop:=-9223372036854775808≤n∧n<9223372036854775808
theorem Xi{n:Int}(h:(Lit.int .i64 n).wf=true):wfI n:=by
 have h':(decide ((-(2^63):Int)≤n)&&decide (n≤2^63 - 1))=true:=h
 simp only[Bool.and_eq_true,decide_eq_true_eq]at h'
 unfold wfI
 omega
def mkd{α:Type}(mk:Nat→α)(a:List α)(j:Nat):List α:=((List.range a.length).map mk).take j++a.drop j
section
variable {α:Type} {mk:Nat→α} {a l:List α} {e:α→List D} {zs:List (List D)} {j:Nat} {i:Int}
theorem Sj(h:j≤a.length):(mkd mk a j).length=a.length:=by simp[mkd];omega
theorem Yv:mkd mk a 0=a:=by simp[mkd]
theorem XdI:mkd mk a a.length=(List.range a.length).map mk:=by
 unfold mkd
 rw[List.drop_length,List.append_nil,List.take_of_length_le (by simp)]
theorem Xdk(h:j<a.length):(mkd mk a j).set j (mk j)=mkd mk a (j+1):=by
 unfold mkd
 have hl:(((List.range a.length).map mk).take j).length=j:=by simp;omega
 have hd:a.drop j=a[j]::a.drop (j+1):=List.drop_eq_getElem_cons h
 rw[List.set_append,if_neg (by omega),hl,Nat.sub_self,hd,List.set_cons_zero,List.take_succ_eq_append_getElem (by simpa using h),List.append_assoc]
 simp
theorem Ye(hz:l.map e=zs)(hi:(j:Int)=i)(h:j<l.length):InR (std.ofNat (std.nadd 0 (std.nat i))) (std.len zs):=by
 subst hz hi
 refine⟨Int.natCast_nonneg _,?_⟩
 show(((0+(j:Int).toNat:Nat)):Int)<((l.map e).length:Int)
 rw[List.length_map]
 omega
theorem Xj2(hi:(j:Int)=i):std.nadd 0 (std.nat i)=j:=by
 subst hi
 show 0+(j:Int).toNat=j
 omega
theorem Of{n:Nat}(hz:l.map e=zs)(hi:(j:Int)=i)(h:j<l.length)(hn:n≤(e l[j]).length):LenGe (std.elt zs (std.ofNat (std.nadd 0 (std.nat i)))) n:=by
 rw[Xj2 hi]
 refine⟨?_⟩
 subst hz
 show n≤((((l.map e)[((j:Nat):Int).toNat]?)).getD []).length
 simpa[h]using hn
theorem Xz{off:Nat}{ds:List D}{x:α}(hz:l.map e=zs)(hi:(j:Int)=i)(h:j<l.length)(hp:Kt (e l[j]) off ds=e x):std.set zs (std.nadd 0 (std.nat i)) off ds=(l.set j x).map e:=by
 rw[Xj2 hi]
 subst hz
 show(l.map e).set j (Kt ((((l.map e)[j]?)).getD []) off ds)=_
 rw[List.map_set,List.getElem?_map,List.getElem?_eq_getElem h]
 show _=(l.map e).set j (e x)
 rw[←hp]
 rfl
end
open Go
section
variable {P:Program} {o:Oper} {st:St} {K:Out→List Nat→Prop} {cl:Call} {x:Operand} {f:FuncId} {caps ys:List AV}
theorem ClW.ddA{o0 out:Out}(hgd:o.guard=none)(hop:o.op= .call cl)(hc:cl.callee= .value x)(hx:Cm st.sl x= .clo f caps)(ha:ArgR st.sl cl.args.toList ys)(hd:AV.isDs (ys++caps)=true)(he:Dp P f)
  (hcall:CallOk P f (ys++caps) [] o0)(hren:o0.ren (Bo [] st.rt.length o0.new.length)=some out)(hog:out.g=[])(hfa:out.av.flat=true)(hfn:out.new.all Root.flat=true)(k:K out []):ClW P o st K:=by
 have h:=Jz st.look hd
 refine ClW.pure (L:=[]) hgd hop hc hx ha h.1 he hcall hren hog hfa hfn ?_
 rw[h.2]
 exact k
end
theorem F4{α:Type}{c:α→List D}(h:∀a,(c a).all D.flat=true){l:List α}{xs:List (List D)}{sz:Nat}(hx:l.map c=xs):Root.flat (.row sz false xs)=true:=by
 subst hx
 have:=Hc h l (sz:=sz)
 simpa using this
theorem LendsR.refl{rt:Nat→Option Root}:∀(l:List AV),LendsR rt [] l l
 |[]=>.nil
 |x::l=>.same (LendsR.refl l)
section
variable {P:Program} {o:Oper} {st:St} {K:Out→List Nat→Prop} {cl:Call} {x:Operand} {f:FuncId} {caps ys as0:List AV}
end
open Go Go.RowKit
theorem Mt{w w':World}(h:Below w.heap.size w w'){b:Nat}{s:TypeId×Nat}(hs:w.shape? b=some s):w'.shape? b=some s:=by
 rw[Iz (h.block b (XeO hs))];exact hs
section
variable {P:Program} {f:FuncId} {as0:List AV}
theorem CallOk.ofCallsG{y:D}(h:∀(E:Env) (vs:Array Value),(∀b,E.S b→b<E.w.heap.size)→Globs.ok E.w E.S→XcC E as0 vs→Calls P f vs E.w fun e w'=>∃v,e= .returned v∧Below E.w.heap.size E.w w'∧RelD E.w E.S y v):CallOk P f as0 [] ⟨.d y,[],[]⟩:=by
 intro w S β vs hM hA
 refine(h (B1 w S β [] []) vs hM.slt hM.glob hA).mono ?_
 rintro e w' ⟨v,he,hb,hr⟩
 have hb:Below w.heap.size w w':=hb
 have st:Step (B1 w S β [] []) {B1 w S β [] []with w:=w'}:=⟨fun r R hR=>⟨R,hR,.inr rfl⟩,fun _ h=>h,fun _ _=>rfl,fun _ h=>h,fun b hS=>hb.block b (hM.slt b hS),fun b s hs=>Mt hb hs⟩
 refine⟨v,{B1 w S β [] []with w:=w'},he,rfl,?_,st,?_,?_,hb.size,.d _ _ (hr.step st.S st.heap)⟩
 ·exact{
   os:=hb.os.trans hM.os
   output:=hb.output.trans hM.output
   tape:=hb.tape.trans hM.tape
   size:=hb.size
   keep:=fun b hlt hn=>hb.block b hlt
   shape:=fun b s hs=>Mt hb hs
   s0:=hM.s0
   slt:=fun b hS=>Nat.lt_of_lt_of_le (hM.slt b hS) hb.size
   glob:=Globs.step st.S st.heap hM.glob
   snew:=hM.snew
   blt:=fun r b hp hβ=>absurd hp (Nat.not_lt_zero r)
   bown:=fun r R b hp=>absurd hp (Nat.not_lt_zero r)
   bkeep:=fun r R hlt hp=>absurd hp (Nat.not_lt_zero r)
   inj:=fun r r' R R' b hp=>absurd hp (Nat.not_lt_zero r)
   roots:=fun r R hp=>absurd hp (Nat.not_lt_zero r)}
 ·rfl
 ·intro r
  constructor
  ·exact fun h=>.inl h
  ·rintro(h|⟨_,h⟩)
   ·exact h
   ·exact absurd h (by simp)
theorem CallOk.ofCalls{y:D}(h:∀(E:Env) (vs:Array Value),(∀b,E.S b→b<E.w.heap.size)→XcC E as0 vs→Calls P f vs E.w fun e w'=>∃v,e= .returned v∧Below E.w.heap.size E.w w'∧RelD E.w E.S y v):CallOk P f as0 [] ⟨.d y,[],[]⟩:=
 .ofCallsG fun E vs hS _ hA=>h E vs hS hA
theorem XkK{E:Env}{x:AV}{vs:Array Value}(h:XcC E [x] vs):∃v,vs= #[v]∧RelAV E x v:=by
 obtain⟨hs,hr⟩:=h
 have:vs.size=1:=hs
 obtain⟨l⟩:=vs
 match l,this with
 |[v],_=>exact⟨v,rfl,hr 0 x rfl⟩
theorem Xl3{E:Env}{x y:AV}{vs:Array Value}(h:XcC E [x,y] vs):∃u v,vs= #[u,v]∧RelAV E x u∧RelAV E y v:=by
 obtain⟨hs,hr⟩:=h
 have:vs.size=2:=hs
 obtain⟨l⟩:=vs
 match l,this with
 |[u,v],_=>exact⟨u,v,rfl,hr 0 x rfl,hr 1 y rfl⟩
theorem P1{E:Env}{x v:Value}(h:RelAV E (.d (.sc x)) v):v=x:=by
 cases h with
 |d _ _ h=>cases h;rfl
end
open Go
inductive ArW (op:BinOp) (k k':IntKind) (a b:Int) (K:Int→Prop):Prop|mk (v:Int) (h:Kg op false (.int k a) (.int k' b)=some (.int k v)) (hk:K v):ArW op k k' a b K
inductive CmpW (op:BinOp) (k k':IntKind) (a b:Int) (K:Bool→Prop):Prop|mk (v:Bool) (h:Kg op false (.int k a) (.int k' b)=some (.bool v)) (hk:K v):CmpW op k k' a b K
inductive CatW (a b:ByteArray) (K:ByteArray→Prop):Prop|mk (v:ByteArray) (h:Ym .add a b=some (.string v)) (hk:K v):CatW a b K
inductive SCmpW (op:BinOp) (a b:ByteArray) (K:Bool→Prop):Prop|mk (v:Bool) (h:Ym op a b=some (.bool v)) (hk:K v):SCmpW op a b K
inductive BCmpW (op:BinOp) (a b:Bool) (K:Bool→Prop):Prop|mk (v:Bool) (h:Kg op true (.bool a) (.bool b)=some (.bool v)) (hk:K v):BCmpW op a b K
inductive AggW (ks:List EK) (xs ys:List AV) (K:Bool→Prop):Prop|mk (v:Bool) (h:O7 ks xs ys=some v) (hk:K v):AggW ks xs ys K
inductive EmpW (xs:List (List D)) (K:Bool→Prop):Prop|mk (v:Bool) (h:v=xs.isEmpty) (hk:K v):EmpW xs K
inductive Emp0W (n:Nat) (K:Bool→Prop):Prop|mk (v:Bool) (h:v=(n==0)) (hk:K v):Emp0W n K
inductive NegW (k:IntKind) (n:Int) (K:Int→Prop):Prop|mk (v:Int) (h:v=k.wrap (0 - n)) (hk:K v):NegW k n K
inductive RowW (xs:List (List D)) (i:Nat) (K:List D→Prop):Prop|mk (cs:List D) (h:xs[i]? =some cs) (hk:K cs):RowW xs i K
inductive IdxW (xs:List (List D)) (i:Int) (K:List D→Prop):Prop|mk (cs:List D) (h0:0≤i) (h:xs[i.toNat]? =some cs) (hk:K cs):IdxW xs i K
inductive RIdxW (off len:Nat) (i:Int) (K:Nat→Prop):Prop|mk (p:Nat) (h0:0≤i) (h1:i<len) (h:p=off+i.toNat) (hk:K p):RIdxW off len i K
inductive SIdxW (s:ByteArray) (i:Int) (K:Int→Prop):Prop|mk (v:Int) (h0:0≤i) (h1:i.toNat<s.size) (h:v=((s[i.toNat]'h1).toNat:Int)) (hk:K v):SIdxW s i K
inductive SSubW (s:ByteArray) (lo hi:Option Int) (K:ByteArray→Prop):Prop
 |mk (v:ByteArray) (h0:0≤lo.getD 0) (h1:lo.getD 0≤hi.getD s.size) (h2:hi.getD s.size≤s.size) (h:v=s.extract (lo.getD 0).toNat (hi.getD s.size).toNat) (hk:K v):SSubW s lo hi K
inductive RSubW (xs:List (List D)) (lo hi:Option Int) (K:List (List D)→Prop):Prop
 |mk (v:List (List D)) (h0:0≤lo.getD 0) (h1:lo.getD 0≤hi.getD xs.length) (h2:hi.getD xs.length≤xs.length) (h:v=(xs.drop (lo.getD 0).toNat).take ((hi.getD xs.length).toNat - (lo.getD 0).toNat)) (hk:K v):RSubW xs lo hi K
inductive NSubW (off len:Nat) (lo hi:Option Int) (K:Nat→Nat→Prop):Prop
 |mk (o n:Nat) (h0:0≤lo.getD 0) (h1:lo.getD 0≤hi.getD len) (h2:hi.getD len≤len) (ho:o=off+(lo.getD 0).toNat) (hn:n=(hi.getD len).toNat - (lo.getD 0).toNat) (hk:K o n):NSubW off len lo hi K
inductive WrapW (k:IntKind) (n:Int) (K:Int→Prop):Prop|mk (v:Int) (h:v=k.wrap n) (hk:K v):WrapW k n K
inductive BytesW (xs:List (List D)) (K:ByteArray→Prop):Prop|mk (v:ByteArray) (ns:List Int) (h:G1 xs=some ns) (hv:v=Et ns) (hk:K v):BytesW xs K
inductive RBytesW (xs:List (List D)) (off len:Nat) (K:ByteArray→Prop):Prop
 |mk (v:ByteArray) (ns:List Int) (h0:off+len≤xs.length) (h:G1 ((xs.drop off).take len)=some ns) (hv:v=Et ns) (hk:K v):RBytesW xs off len K
inductive SLenW (s:ByteArray) (K:Int→Prop):Prop|mk (v:Int) (h:v=(s.size:Int)) (hk:K v):SLenW s K
inductive LenW (xs:List (List D)) (K:Int→Prop):Prop|mk (v:Int) (h:v=(xs.length:Int)) (hk:K v):LenW xs K
inductive NLenW (n:Nat) (K:Int→Prop):Prop|mk (v:Int) (h:v=(n:Int)) (hk:K v):NLenW n K
inductive MaxW (a b:Int) (K:Int→Prop):Prop|mk (v:Int) (h:v=if b>a then b else a) (hk:K v):MaxW a b K
inductive MinW (a b:Int) (K:Int→Prop):Prop|mk (v:Int) (h:v=if b<a then b else a) (hk:K v):MinW a b K
inductive RSetW (xs:List (List D)) (i j:Nat) (ds:List D) (K:List (List D)→Prop):Prop
 |mk (v:List (List D)) (y:List D) (hy:xs[i]? =some y) (hj:j+ds.length≤y.length) (h:v=xs.set i (Kt y j ds)) (hk:K v):RSetW xs i j ds K
inductive MakeW (n m:Int) (bytes:Nat) (z:List D) (K:Nat→List (List D)→Prop):Prop
 |mk (l:Nat) (v:List (List D)) (h0:0≤n) (h1:n≤m) (h2:bytes*m≤2^48) (h3:m<2^63) (hl:l=n.toNat) (h:v=List.replicate n.toNat z) (hk:K l v):MakeW n m bytes z K
inductive Src where
 |str (s:ByteArray)
 |row (xs:List (List D))
 |sub (xs:List (List D)) (off len:Nat)
def Src.val:Src→Option (List (List D))
 | .str s=>some (strRow s)
 | .row xs=>some xs
 | .sub xs off len=>if off+len≤xs.length then some ((xs.drop off).take len)else none
inductive AppW (off len:Nat) (xs:List (List D)) (s:Src) (bytes:Nat) (K:Nat→List (List D)→Prop):Prop
 |mk (n:Nat) (v ys:List (List D)) (hs:s.val=some ys) (h0:off=0) (h1:len=xs.length) (h2:(2*(xs.length+ys.length)+1024)*bytes≤2^48) (h3:xs.length+ys.length<2^62) (hn:n=xs.length+ys.length) (h:v=xs++ys) (hk:K n v):AppW off len xs s bytes K
def isCmp:BinOp→Bool
 | .eql| .neq| .lss| .leq| .gtr| .geq=>true
 |_=>false
def sBin(R:TyRow)(op:BinOp)(x y:AV)(K:AV→Prop):Prop:=
 match x,y with
 | .d (.sc (.int k a)),.d (.sc (.int k' b))=>(match isCmp op with
   |true=>CmpW op k k' a b fun v=>K (.d (.sc (.bool v)))
   |false=>ArW op k k' a b fun v=>K (.d (.sc (.int k v))))
 | .d (.sc (.string a)),.d (.sc (.string b))=>(match op with
   | .add=>CatW a b fun s=>K (.d (.sc (.string s)))
   |_=>SCmpW op a b fun v=>K (.d (.sc (.bool v))))
 | .d (.sc (.bool a)),.d (.sc (.bool b))=>(match Ze R.sk with
   |true=>BCmpW op a b fun v=>K (.d (.sc (.bool v)))
   |false=>False)
 | .agg xs,.agg ys=>(match op,R.eq with
   | .eql,some ks=>AggW ks xs ys fun v=>K (.d (.sc (.bool v)))
   | .neq,some ks=>AggW ks xs ys fun v=>br v (fun _=>K (.d (.sc (.bool false)))) (fun _=>K (.d (.sc (.bool true))))
   |_,_=>False)
 |_,_=>False
def XkS(rt:Nat→Option Root)(R:TyRow)(op:BinOp)(x y:AV)(yo:Operand)(K:AV→Prop):Prop:=
 match Pc yo with
 |true=>(match op,R.sk,x with
  | .eql,.sl _,.d (.row _ xs)=>EmpW xs fun v=>K (.anyb v)
  | .eql,.sl _,.ref r _ len=>(match Lh rt r with|true=>Emp0W len fun v=>K (.anyb v)|false=>False)
  |_,_,_=>False)
 |false=>sBin R op x y K
def sUn(op:UnOp)(x:AV)(K:AV→Prop):Prop:=
 match x with
 | .d (.sc (.bool b))=>(match op with| .not=>br b (fun _=>K (.d (.sc (.bool false)))) (fun _=>K (.d (.sc (.bool true))))|_=>False)
 | .d (.sc (.int k n))=>(match op with| .neg=>NegW k n fun v=>K (.d (.sc (.int k v)))|_=>False)
 |_=>False
def Xmc(x:Option AV)(K:AV→Prop):Prop:=match x with|some v=>K v|none=>False
def Xlb(rt:Nat→Option Root)(R:TyRow)(x:AV)(K:AV→Prop):Prop:=
 match R.agg,R.sz with
 |some g,some n=>(match x with
  | .ptr r i j=>(match rt r with
    |some (.row _ _ xs)=>RowW xs i fun cs=>Xmc (Lo (cs.map AV.d) j n g) K
    |some (.box ty l)=>(match i with|0=>Xmc (Lo l j n g) K|_=>False)
    |_=>False)
  | .rptr cs=>Xmc (Lo (cs.map AV.d) 0 n g) K
  |_=>False)
 |_,_=>False
def Sf(rt:Nat→Option Root)(R:TyRow)(x:AV)(i:Int)(K:AV→Prop):Prop:=
 match R.el with
 |none=>False
 |some (esz,_)=>(match x with
  | .ref r off len=>(match rt r with
    |some (.row sz _ _)=>(match Nat.beq esz sz with|true=>RIdxW off len i fun p=>K (.ptr r p 0)|false=>False)
    |_=>False)
  | .d (.row sz xs)=>(match Nat.beq esz sz with|true=>IdxW xs i fun cs=>K (.rptr cs)|false=>False)
  |_=>False)
def XcU(R:TyRow)(x:AV)(i:Int)(K:AV→Prop):Prop:=
 match x with
 | .d (.sc (.string s))=>(match G5 R.sk with|true=>SIdxW s i fun v=>K (.d (.sc (.int .u8 v)))|false=>False)
 |_=>False
def Xgw(rt:Nat→Option Root)(R:TyRow)(x:AV)(lo hi:Option Int)(K:AV→Prop):Prop:=
 match x with
 | .d (.sc (.string s))=>(match G5 R.sk with|true=>SSubW s lo hi fun v=>K (.d (.sc (.string v)))|false=>False)
 | .d (.row sz xs)=>(match R.el with
   |some (esz,_)=>(match Nat.beq esz sz with|true=>RSubW xs lo hi fun v=>K (.d (.row sz v))|false=>False)
   |none=>False)
 | .ref r off len=>(match rt r,R.el with
   |some (.row sz _ _),some (esz,_)=>(match Nat.beq esz sz with|true=>NSubW off len lo hi fun o n=>K (.ref r o n)|false=>False)
   |_,_=>False)
 |_=>False
def Xkj(rt:Nat→Option Root)(S T:TyRow)(x:AV)(K:AV→Prop):Prop:=
 match T.sk,x with
 | .int k,.d (.sc (.int _ n))=>(match S.sk with| .int _=>WrapW k n fun v=>K (.d (.sc (.int k v)))|_=>False)
 | .str,.d (.sc (.string s))=>(match G5 S.sk with|true=>K (.d (.sc (.string s)))|false=>False)
 | .str,.d (.row sz xs)=>(match S.bsl,sz with|true,1=>BytesW xs fun v=>K (.d (.sc (.string v)))|_,_=>False)
 | .str,.ref r off len=>(match rt r with
   |some (.row sz _ xs)=>(match S.bsl,sz with|true,1=>RBytesW xs off len fun v=>K (.d (.sc (.string v)))|_,_=>False)
   |_=>False)
 |_,_=>False
def Xk3(rt:Nat→Option Root)(R:TyRow)(x:AV)(K:AV→Prop):Prop:=
 match x with
 | .d (.sc (.string s))=>(match G5 R.sk with|true=>SLenW s fun v=>K (.d (.sc (.int .i64 v)))|false=>False)
 | .d (.row _ xs)=>(match R.sk with| .sl _=>LenW xs fun v=>K (.d (.sc (.int .i64 v)))|_=>False)
 | .ref r _ len=>(match R.sk,Lh rt r with| .sl _,true=>NLenW len fun v=>K (.d (.sc (.int .i64 v)))|_,_=>False)
 |_=>False
def sSrc(rt:Nat→Option Root):AV→Option (Nat×Src)
 | .d (.sc (.string s))=>some (1,.str s)
 | .d (.row sz xs)=>some (sz,.row xs)
 | .ref r off len=>(match rt r with
   |some (.row sz _ xs)=>some (sz,.sub xs off len)
   |_=>none)
 |_=>none
def Xdd(rt:Nat→Option Root)(nb:Nat)(R X:TyRow)(s x:AV)(K:Out→Prop):Prop:=
 match s,R.el,R.ez,(match X.sk with| .sl _=>true| .str=>true|_=>false)with
 | .ref r off len,some (n,bytes),some _,true=>(match rt r,sSrc rt x with
   |some (.row sz false xs),some (sz',src)=>(match Nat.beq sz' sz&&Nat.beq n sz with
    |true=>AppW off len xs src bytes fun n v=>K ⟨.ref nb 0 n,[.row sz false v],[(r,.dead)]⟩
    |false=>False)
   |_,_=>False)
 |_,_,_,_=>False
def Xgq(rt:Nat→Option Root)(n:Nat)(p x:AV)(K:Nat×Root→Prop):Prop:=
 match p,x.leaves with
 | .ptr r i j,some ys=>(match rt r with
   |some (.box ty l)=>(match i,Nat.beq ys.length n&&Nat.ble (j+ys.length) l.length with
    |0,true=>K (r,.box ty (Kt l j ys))
    |_,_=>False)
   |some (.row sz false xs)=>(match Xct rt ys with
    |some ds=>(match Nat.beq ds.length n with
     |true=>RSetW xs i j ds fun v=>K (r,.row sz false v)
     |false=>False)
    |none=>False)
   |_=>False)
 |_,_=>False
def Xg2(tab:List (Nat×TyRow))(sl:Nat→AV):List Operand→List TypeId→List AV
 |[],_=>[]
 |x::xs,[]=>Cm sl x::Xg2 tab sl xs []
 |x::xs,t::ts=>(match Pc x with|true=>.d (.row (XiB (Di tab t)) [])|false=>Cm sl x)::Xg2 tab sl xs ts
def XkU(tab:List (Nat×TyRow))(nb:Nat)(sl:Nat→AV)(rt:Nat→Option Root)(c:Call)(k:Out→Prop):Prop:=
 match c.callee,c.args.toList,c.argTypes.toList with
 | .builtin .len,[x],[t]=>(match Di tab t with|some R=>Xk3 rt R (Cm sl x) fun v=>k ⟨v,[],[]⟩|none=>False)
 | .builtin .append,[s,x],[t,xt]=>(match Di tab t,Di tab xt with
   |some R,some X=>Xdd rt nb R X (Cm sl s) (Cm sl x) k
   |_,_=>False)
 | .builtin .max,[x,y],_=>(match Cm sl x,Cm sl y with| .d (.sc (.int k' a)),.d (.sc (.int _ b))=>MaxW a b fun v=>k ⟨.d (.sc (.int k' v)),[],[]⟩|_,_=>False)
 | .builtin .min,[x,y],_=>(match Cm sl x,Cm sl y with| .d (.sc (.int k' a)),.d (.sc (.int _ b))=>MinW a b fun v=>k ⟨.d (.sc (.int k' v)),[],[]⟩|_,_=>False)
 |_,_,_=>False
def sv(tab:List (Nat×TyRow))(nb:Nat)(sl:Nat→AV)(rt:Nat→Option Root)(o:Oper)(k:Out→Prop):Prop:=
 match o.op with
 | .load t x=>(match Di tab t with|some R=>Xlb rt R (Cm sl x) fun v=>k ⟨v,[],[]⟩|none=>False)
 | .store t p x=>(match Di tab t with
   |some R=>(match R.sz,opd nb (XiB (some R)) sl x with
    |some n,(av,new)=>Xgq rt n (Cm sl p) av fun q=>(match Nat.blt q.1 nb with|true=>k ⟨.junk,new,[q]⟩|false=>False)
    |_,_=>False)
   |none=>False)
 | .binOp op t x y _=>(match Di tab t with|some R=>XkS rt R op (Cm sl x) (Cm sl y) y fun v=>k ⟨v,[],[]⟩|none=>False)
 | .unOp op _ x=>sUn op (Cm sl x) fun v=>k ⟨v,[],[]⟩
 | .convert s d x=>(match Di tab s,Di tab d with|some S,some T=>Xkj rt S T (Cm sl x) fun v=>k ⟨v,[],[]⟩|_,_=>False)
 | .indexAddr t x i=>(match Di tab t,Cm sl i with|some R,.d (.sc (.int _ n))=>Sf rt R (Cm sl x) n fun v=>k ⟨v,[],[]⟩|_,_=>False)
 | .index t x i=>(match Di tab t,Cm sl i with|some R,.d (.sc (.int _ n))=>XcU R (Cm sl x) n fun v=>k ⟨v,[],[]⟩|_,_=>False)
 | .slice t x lo hi none=>(match Di tab t,G4 sl lo,G4 sl hi with|some R,some l,some h=>Xgw rt R (Cm sl x) l h fun v=>k ⟨v,[],[]⟩|_,_,_=>False)
 | .makeSlice t n m=>(match Di tab t,Cm sl n,Cm sl m with
   |some R,.d (.sc (.int _ n)),.d (.sc (.int _ m))=>(match R.ez with|some z=>MakeW n m z.2.2 z.1 fun l v=>k ⟨.ref nb 0 l,[.row z.2.1 false v],[]⟩|none=>False)
   |_,_,_=>False)
 | .call c=>XkU tab nb sl rt c k
 | .slice _ _ _ _ (some _)=>False
 |_=>(match vev std tab nb sl rt o with|some (out,ps)=>XeJ ps (k out)|none=>False)
open Go
section
variable {P:Program} {rt:Nat→Option Root} {K:AV→Prop} {x y:AV} {t:TypeId}
theorem XkJ{op:BinOp}(h:sBin (Fp P t) op x y K):∃v,Ra P op t x y=some v∧K v:=by
 unfold sBin at h
 split at h
 ·rename_i k a k' b
  split at h
  ·obtain⟨v,h1,h2⟩:=h
   exact⟨_,by show(Kg op (Hh P t) (.int k a) (.int k' b)).map _=_;rw[show Kg op (Hh P t) (.int k a) (.int k' b)=some (.bool v)from h1];rfl,h2⟩
  ·obtain⟨v,h1,h2⟩:=h
   exact⟨_,by show(Kg op (Hh P t) (.int k a) (.int k' b)).map _=_;rw[show Kg op (Hh P t) (.int k a) (.int k' b)=some (.int k v)from h1];rfl,h2⟩
 ·rename_i a b
  split at h
  ·obtain⟨v,h1,h2⟩:=h
   exact⟨_,by show(Kg .add (Hh P t) (.string a) (.string b)).map _=_;rw[show Kg .add (Hh P t) (.string a) (.string b)=some (.string v)from h1];rfl,h2⟩
  ·obtain⟨v,h1,h2⟩:=h
   exact⟨_,by show(Kg op (Hh P t) (.string a) (.string b)).map _=_;rw[show Kg op (Hh P t) (.string a) (.string b)=some (.bool v)from h1];rfl,h2⟩
 ·rename_i a b
  split at h
  ·rename_i hb
   obtain⟨v,h1,h2⟩:=h
   have e:Hh P t=true:=XaG hb
   exact⟨_,by show(Kg op (Hh P t) (.bool a) (.bool b)).map _=_;rw[e,h1];rfl,h2⟩
  ·exact h.elim
 ·rename_i xs ys
  split at h
  ·rename_i ks hks
   obtain⟨v,h1,h2⟩:=h
   have e:eqT P t=some ks:=hks
   exact⟨_,by show(eqT P t).bind _=_;rw[e,Option.bind_some,h1];rfl,h2⟩
  ·rename_i ks hks
   obtain⟨v,h1,h2⟩:=h
   have e:eqT P t=some ks:=hks
   refine⟨.d (.sc (.bool !v)),by show(eqT P t).bind _=_;rw[e,Option.bind_some,h1];rfl,?_⟩
   cases v<;>exact h2
  ·exact h.elim
 ·exact h.elim
theorem XjH{op:BinOp}{yo:Operand}(h:XkS rt (Fp P t) op x y yo K):∃v,M4 P rt op t x y yo=some v∧K v:=by
 unfold XkS at h
 unfold M4
 split at h
 ·rename_i hy
  simp only[hy]
  split at h
  ·rename_i n sz xs hs
   obtain⟨v,h1,h2⟩:=h
   rw[if_pos (Lf hs)]
   subst h1
   exact⟨_,rfl,h2⟩
  ·rename_i n r off len hs
   split at h
   ·rename_i ha
    obtain⟨v,h1,h2⟩:=h
    rw[if_pos (Lf hs)]
    subst h1
    exact⟨_,by simp only[Ls,ha,if_true,Option.map_some],h2⟩
   ·exact h.elim
  ·exact h.elim
 ·rename_i hy
  simp only[hy]
  exact XkJ h
theorem XlG{op:UnOp}(h:sUn op x K):∃v,XlP op x=some v∧K v:=by
 unfold sUn at h
 split at h
 ·rename_i b
  split at h
  ·refine⟨.d (.sc (.bool !b)),rfl,?_⟩
   cases b<;>exact h
  ·exact h.elim
 ·rename_i k n
  split at h
  ·obtain⟨v,h1,h2⟩:=h
   subst h1
   exact⟨_,rfl,h2⟩
  ·exact h.elim
 ·exact h.elim
theorem Wc{a:Option AV}(h:Xmc a K):∃v,a=some v∧K v:=by
 unfold Xmc at h
 split at h
 ·exact⟨_,rfl,h⟩
 ·exact h.elim
theorem XjN(h:Xlb rt (Fp P t) x K):∃g n v,Xq P t=some g∧szT P t=some n∧E8 rt n g x=some v∧K v:=by
 unfold Xlb at h
 split at h
 ·rename_i g n hg hn
  refine⟨g,n,?_⟩
  have hg':Xq P t=some g:=hg
  have hn':szT P t=some n:=hn
  split at h
  ·rename_i r i j
   split at h
   ·rename_i sz fz xs hr
    obtain⟨cs,h1,h2⟩:=h
    obtain⟨v,h3,h4⟩:=Wc h2
    exact⟨v,hg',hn',by simp only[E8,hr,h1,Option.bind_some,h3],h4⟩
   ·rename_i l hr
    split at h
    ·obtain⟨v,h3,h4⟩:=Wc h
     exact⟨v,hg',hn',by simp only[E8,hr,if_true,h3],h4⟩
    ·exact h.elim
   ·exact h.elim
  ·rename_i cs
   obtain⟨v,h3,h4⟩:=Wc h
   exact⟨v,hg',hn',h3,h4⟩
  ·exact h.elim
 ·exact h.elim
theorem Xd8{t:TypeId}{esz b sz:Nat}(h:(Fp P t).el=some (esz,b))(e:Nat.beq esz sz=true):(elT P t).map (·.1)=some sz:=by
 have:elT P t=some (esz,b):=h
 rw[this,Option.map_some,Nat.eq_of_beq_eq_true e]
theorem Zi{i:Int}(h:Sf rt (Fp P t) x i K):∃v,Ct rt (elT P t) x i=some v∧K v:=by
 unfold Sf at h
 split at h
 ·exact h.elim
 ·rename_i esz b hel
  split at h
  ·rename_i r off len
   split at h
   ·rename_i sz fz xs hr
    split at h
    ·rename_i he
     obtain⟨p,h0,h1,rfl,hk⟩:=h
     refine⟨_,?_,hk⟩
     simp only[Ct,hr]
     rw[if_pos ⟨Xd8 hel he,h0,h1⟩]
    ·exact h.elim
   ·exact h.elim
  ·rename_i sz xs
   split at h
   ·rename_i he
    obtain⟨cs,h0,h1,hk⟩:=h
    refine⟨_,?_,hk⟩
    simp only[Ct]
    rw[if_pos ⟨Xd8 hel he,h0⟩,h1]
    rfl
   ·exact h.elim
  ·exact h.elim
theorem XfI{i:Int}(h:XcU (Fp P t) x i K):∃v,Jk (Ho P t) x i=some v∧K v:=by
 unfold XcU at h
 split at h
 ·rename_i s
  split at h
  ·rename_i hs
   obtain⟨v,h0,h1,rfl,hk⟩:=h
   refine⟨_,?_,hk⟩
   simp only[Jk]
   rw[dif_pos ⟨K5 hs,h0,h1⟩]
  ·exact h.elim
 ·exact h.elim
theorem Xgx{lo hi:Option Int}(h:Xgw rt (Fp P t) x lo hi K):∃v,Ev rt (elT P t) (Ho P t) x lo hi=some v∧K v:=by
 unfold Xgw at h
 split at h
 ·rename_i s
  split at h
  ·rename_i hs
   obtain⟨v,h0,h1,h2,rfl,hk⟩:=h
   refine⟨_,?_,hk⟩
   simp only[Ev]
   rw[if_pos ⟨K5 hs,h0,h1,h2⟩]
  ·exact h.elim
 ·rename_i sz xs
  split at h
  ·rename_i esz b hel
   split at h
   ·rename_i he
    obtain⟨v,h0,h1,h2,rfl,hk⟩:=h
    refine⟨_,?_,hk⟩
    simp only[Ev]
    rw[if_pos ⟨Xd8 hel he,h0,h1,h2⟩]
   ·exact h.elim
  ·exact h.elim
 ·rename_i r off len
  split at h
  ·rename_i sz fz xs esz b hr hel
   split at h
   ·rename_i he
    obtain⟨o,n,h0,h1,h2,rfl,rfl,hk⟩:=h
    refine⟨_,?_,hk⟩
    simp only[Ev,hr]
    rw[if_pos ⟨Xd8 hel he,h0,h1,h2⟩]
   ·exact h.elim
  ·exact h.elim
 ·exact h.elim
theorem Xez{k:IntKind}(h:Tp P t= .int k):P.underlying t=some (.int k):=by
 unfold Tp at h
 split at h<;>first|(cases h;assumption)|cases h
theorem Qi(h:Tp P t= .str):P.underlying t=some .string:=by
 unfold Tp at h
 split at h<;>first|assumption|cases h
theorem Xio(h:G5 (Tp P t)=true):P.underlying t=some .string:=by
 unfold G5 at h
 split at h
 ·rename_i e;exact Qi e
 ·cases h
theorem XhN(h:Do P t=true):∃d,P.underlying t=some d:=by
 unfold Do at h
 split at h
 ·exact⟨_,by assumption⟩
 ·cases h
theorem XjK{nb:Nat}{s d:TypeId}(h:Xkj rt (Fp P s) (Fp P d) x K):∃src dst v,P.underlying s=some src∧P.underlying d=some dst∧M1 rt nb src dst (Do P s) x=some (v,[])∧K v:=by
 unfold Xkj at h
 split at h
 ·rename_i k k0 n hk
  split at h
  ·rename_i k1 hs
   obtain⟨v,rfl,hk'⟩:=h
   exact⟨_,_,_,Xez hs,Xez hk,rfl,hk'⟩
  ·exact h.elim
 ·rename_i s' hd
  split at h
  ·rename_i hs
   exact⟨_,_,_,Xio hs,Qi hd,rfl,h⟩
  ·exact h.elim
 ·rename_i sz xs hd
  split at h
  ·rename_i hb
   obtain⟨v,ns,h1,rfl,hk⟩:=h
   have hb':Do P s=true:=hb
   obtain⟨src,hsrc⟩:=XhN hb'
   refine⟨src,_,_,hsrc,Qi hd,?_,hk⟩
   simp only[M1,hb',if_true,AV.view,Option.bind_some,h1,Option.map_some]
  ·exact h.elim
 ·rename_i r off len hd
  split at h
  ·rename_i sz fz xs hr
   split at h
   ·rename_i hb
    obtain⟨v,ns,h0,h1,rfl,hk⟩:=h
    have hb':Do P s=true:=hb
    obtain⟨src,hsrc⟩:=XhN hb'
    refine⟨src,_,_,hsrc,Qi hd,?_,hk⟩
    simp only[M1,hb',if_true,AV.view,hr,h0,Option.bind_some,h1,Option.map_some]
   ·exact h.elim
  ·exact h.elim
 ·exact h.elim
theorem Xkl(h:Xk3 rt (Fp P t) x K):∃v,Qm P rt t x=some v∧K v:=by
 unfold Xk3 at h
 split at h
 ·rename_i s
  split at h
  ·rename_i hs
   obtain⟨v,rfl,hk⟩:=h
   exact⟨_,by simp only[Qm];rw[if_pos (K5 hs)],hk⟩
  ·exact h.elim
 ·rename_i sz xs
  split at h
  ·rename_i n hs
   obtain⟨v,rfl,hk⟩:=h
   exact⟨_,by simp only[Qm];rw[if_pos (Lf hs)],hk⟩
  ·exact h.elim
 ·rename_i r off len
  split at h
  ·rename_i n hs ha
   obtain⟨v,rfl,hk⟩:=h
   exact⟨_,by simp only[Qm];rw[if_pos (by rw[Lf hs,ha];rfl)],hk⟩
  ·exact h.elim
 ·exact h.elim
theorem Xks{sz:Nat}{src:Src}{ys:List (List D)}(h:sSrc rt x=some (sz,src))(hy:src.val=some ys):x.src rt=some (sz,ys):=by
 unfold sSrc at h
 split at h
 ·cases h;cases hy;rfl
 ·cases h;cases hy;rfl
 ·rename_i r off len
  split at h
  ·rename_i s fz xs hr
   cases h
   simp only[Src.val]at hy
   show AV.view rt (.ref r off len)=_
   simp only[AV.view,hr]
   split at hy
   ·rename_i hle
    cases hy
    rw[if_pos hle]
   ·cases hy
  ·cases h
 ·cases h
theorem XfE{nb:Nat}{xt:TypeId}{s:AV}{k:Out→Prop}(h:Xdd rt nb (Fp P t) (Fp P xt) s x k):
  ∃out,(if(ezT P t).isSome&&(Fx P xt||Ho P xt)then(Dz rt nb (elT P t) s x).map fun(av,new,r)=>(⟨av,new,[(r,.dead)]⟩:Out)else none)=some out∧k out:=by
 unfold Xdd at h
 split at h
 ·rename_i r off len n bytes z hel hez hx
  split at h
  ·rename_i sz xs sz' src hr hsrc
   split at h
   ·rename_i he
    simp only[Bool.and_eq_true]at he
    obtain⟨m,v,ys,hs,rfl,rfl,h2,h3,rfl,rfl,hk⟩:=h
    have e1:=Nat.eq_of_beq_eq_true he.1
    have e2:=Nat.eq_of_beq_eq_true he.2
    subst e1 e2
    refine⟨_,?_,hk⟩
    have hel':elT P t=some (n,bytes):=hel
    have hez':ezT P t=some z:=hez
    have hsl:(Fx P xt||Ho P xt)=true:=by
     have hx':(match Tp P xt with| .sl _=>true| .str=>true|_=>false)=true:=hx
     split at hx'
     ·rename_i m hm;rw[Lf hm];rfl
     ·rename_i hm;rw[show Ho P xt=true from K5 (by rw[hm];rfl)];simp
     ·cases hx'
    rw[hez',hsl]
    simp only[Option.isSome_some,Bool.and_self,if_true,Dz,hr,Xks hsrc hs,Option.bind_some,hel']
    rw[if_pos (by exact⟨trivial,trivial,trivial,trivial,h2,h3⟩)]
    rfl
   ·exact h.elim
  ·exact h.elim
 ·exact h.elim
theorem Xg5{n:Nat}{p:AV}{k:Nat×Root→Prop}(h:Xgq rt n p x k):∃q,F2 rt n p x=some q∧k q:=by
 unfold Xgq at h
 split at h
 ·rename_i r i j ys hys
  split at h
  ·rename_i l hr
   split at h
   ·rename_i hb
    simp only[Bool.and_eq_true]at hb
    refine⟨_,?_,h⟩
    simp only[F2,hr,hys,Option.bind_some]
    rw[if_pos (by exact⟨trivial,Nat.eq_of_beq_eq_true hb.1,Nat.le_of_ble_eq_true hb.2⟩)]
   ·exact h.elim
  ·rename_i sz xs hr
   split at h
   ·rename_i ds hds
    split at h
    ·rename_i hn
     obtain⟨v,y,hy,hj,rfl,hk⟩:=h
     refine⟨_,?_,hk⟩
     simp only[F2,hr,hys,Option.bind_some,hds,hy]
     rw[if_pos ⟨Nat.eq_of_beq_eq_true hn,hj⟩]
    ·exact h.elim
   ·exact h.elim
  ·exact h.elim
 ·exact h.elim
theorem Xjp{tab:List (Nat×TyRow)}(hT:B8 P tab){nb:Nat}{sl:Nat→AV}{c:Call}{k:Out→Prop}(h:XkU tab nb sl rt c k):∃out,Nz P nb sl rt c=some out∧k out:=by
 unfold XkU at h
 split at h
 ·rename_i x t hc ha ht
  split at h
  ·rename_i R hR
   have e:=hT t R hR
   subst e
   obtain⟨v,h1,h2⟩:=Xkl h
   exact⟨_,by simp only[Nz,hc,ha,ht,h1,Option.map_some],h2⟩
  ·exact h.elim
 ·rename_i s x t xt hc ha ht
  split at h
  ·rename_i R X hR hX
   have e:=hT t R hR
   subst e
   have e:=hT xt X hX
   subst e
   obtain⟨v,h1,h2⟩:=XfE h
   exact⟨_,by simp only[Nz,hc,ha,ht];exact h1,h2⟩
  ·exact h.elim
 ·rename_i x y hc ha
  split at h
  ·rename_i k' a k2 b hx hy
   obtain⟨v,rfl,h2⟩:=h
   refine⟨_,?_,h2⟩
   simp only[Nz]
   rw[hc,ha]
   simp only[hx,hy,K4,if_true,Option.map_some]
  ·exact h.elim
 ·rename_i x y hc ha
  split at h
  ·rename_i k' a k2 b hx hy
   obtain⟨v,rfl,h2⟩:=h
   refine⟨_,?_,h2⟩
   simp only[Nz]
   rw[hc,ha]
   simp only[hx,hy,K4,Bool.false_eq_true,if_false,Option.map_some]
  ·exact h.elim
 ·exact h.elim
end
theorem sv_ok{P:Program}{tab:List (Nat×TyRow)}(hT:B8 P tab){nb:Nat}{sl:Nat→AV}{rt:Nat→Option Root}{o:Oper}{k:Out→Prop}(h:sv tab nb sl rt o k):∃out,ev P nb sl rt o=some out∧k out:=by
 unfold sv at h
 split at h
 ·rename_i t x ho
  split at h
  ·rename_i R hR
   have e:=hT t R hR
   subst e
   obtain⟨g,n,v,h1,h2,h3,h4⟩:=XjN h
   exact⟨_,by simp only[ev,ho,h1,h2,h3,Option.bind_some,Option.map_some],h4⟩
  ·exact h.elim
 ·rename_i t p x ho
  split at h
  ·rename_i R hR
   have e:=hT t R hR
   subst e
   split at h
   ·rename_i n av new hn hopd
    have hn':szT P t=some n:=hn
    have hopd':opd nb (Ry P t) sl x=(av,new):=hopd
    obtain⟨q,h1,h2⟩:=Xg5 h
    split at h2
    ·rename_i hlt
     refine⟨_,?_,h2⟩
     simp only[ev,ho,hn',Option.bind_some,hopd',h1]
     rw[if_pos (by simpa[Nat.blt_eq]using hlt)]
    ·exact h2.elim
   ·exact h.elim
  ·exact h.elim
 ·rename_i op t x y yt ho
  split at h
  ·rename_i R hR
   have e:=hT t R hR
   subst e
   obtain⟨v,h1,h2⟩:=XjH h
   exact⟨_,by simp only[ev,ho,h1,Option.map_some],h2⟩
  ·exact h.elim
 ·rename_i op t x ho
  obtain⟨v,h1,h2⟩:=XlG h
  exact⟨_,by simp only[ev,ho,h1,Option.map_some],h2⟩
 ·rename_i s d x ho
  split at h
  ·rename_i S T hS hT'
   have e:=hT s S hS
   subst e
   have e:=hT d T hT'
   subst e
   obtain⟨src,dst,v,h1,h2,h3,h4⟩:=XjK (nb:=nb) h
   exact⟨_,by simp only[ev,ho,h1,h2,h3,Option.bind_some,Option.map_some],h4⟩
  ·exact h.elim
 ·rename_i t x i ho
  split at h
  ·rename_i R k' n hR hi
   have e:=hT t R hR
   subst e
   obtain⟨v,h1,h2⟩:=Zi h
   exact⟨_,by simp only[ev,ho,K9 hi,h1,Option.bind_some,Option.map_some],h2⟩
  ·exact h.elim
 ·rename_i t x i ho
  split at h
  ·rename_i R k' n hR hi
   have e:=hT t R hR
   subst e
   obtain⟨v,h1,h2⟩:=XfI h
   exact⟨_,by simp only[ev,ho,K9 hi,h1,Option.bind_some,Option.map_some],h2⟩
  ·exact h.elim
 ·rename_i t x lo hi ho
  split at h
  ·rename_i R l m hR hl hm
   have e:=hT t R hR
   subst e
   obtain⟨v,h1,h2⟩:=Xgx h
   exact⟨_,by simp only[ev,ho,hl,hm,h1,Option.bind_some,Option.map_some],h2⟩
  ·exact h.elim
 ·rename_i t n m ho
  split at h
  ·rename_i R k1 n k2 m hR hn hm
   have e:=hT t R hR
   subst e
   split at h
   ·rename_i z hz
    have hz':ezT P t=some z:=hz
    obtain⟨l,v,h0,h1,h2,h3,rfl,rfl,hk⟩:=h
    refine⟨_,?_,hk⟩
    simp only[ev,ho,hz',K9 hn,K9 hm,Option.bind_some,Xbj]
    rw[if_pos ⟨h0,h1,h2,h3⟩]
    rfl
   ·exact h.elim
  ·exact h.elim
 ·rename_i c ho
  obtain⟨out,h1,h2⟩:=Xjp hT h
  exact⟨out,by simp only[ev,ho,h1],h2⟩
 ·exact h.elim
 ·split at h
  ·rename_i out ps hv
   obtain⟨h1,h2⟩:=Ur h
   exact⟨out,Xce hT hv h1,h2⟩
  ·exact h.elim
end
section
open Go
theorem XaS{P:Program}{c:Ctx}{E:Env}(hM:Mem c E){nb:Nat}{s d e:TypeId}{u:TypeDesc}{str:ByteArray}(hs:P.underlying s=some u)(hd:P.underlying d=some (.slice e))(he:P.underlying e=some (.int .u8))
  (hF:Fresh c E nb [.row 1 false (strRow str)]):Yields1 c P E nb (.ref nb 0 str.size,[.row 1 false (strRow str)]) (convert s d (.string str)):=by
 have hnew:=Lib.bytesWorld_at_new E.w e str
 have g:Grow E.w (Lib.bytesWorld E.w e str) (.cells (Lib.bytesCells E.w e str) e ((Lib.bytesCells E.w e str).size,(Lib.bytesCells E.w e str).size+1)):=by
  refine⟨?_,rfl,rfl,rfl⟩
  refine Array.ext_getElem? ?_
  intro j
  rw[Array.getElem?_push]
  split
  ·rename_i h;subst h;exact hnew
  ·rename_i h
   by_cases hj:j<E.w.heap.size
   ·exact Lib.bytesWorld_at_old E.w e str j hj
   ·rw[Array.getElem?_eq_none (by rw[Lib.bytesWorld_size];omega),Array.getElem?_eq_none (by omega)]
 have hlen:(strRow str).length=str.size:=by unfold strRow;rw[List.length_map];exact Array.length_toList
 have hsz:str.size≤(Lib.bytesCells E.w e str).size:=by
  unfold Lib.bytesCells
  rw[Array.size_append,Array.size_map]
  show str.data.size≤_
  omega
 have hcap:grownCap E.w str.size 0 e≤(Lib.bytesCells E.w e str).size:=by
  unfold Lib.bytesCells
  rw[Array.size_append,Array.size_map,Array.size_replicate]
  show _≤str.data.size+_
  have:str.size=str.data.size:=rfl
  omega
 have hcap0:str.size≤grownCap E.w str.size 0 e:=grownCap_ge _ _ _ _
 obtain⟨q,hrel⟩:=Xgi hM (r:=nb) (sz:=1) (xs:=strRow str) (t:=e) (by simpa using hF.rt 0 _ rfl) (by simpa using hF.np 0 (by simp)) hF.m g ⟨fun o ho hh=>by omega,.inl rfl⟩
  (by intro i x hx;obtain⟨b,_,rfl⟩:=List.mem_map.1 (List.mem_of_getElem? hx);rfl)
  (by rw[hlen];omega)
  (by
   intro i x j y hx hy
   unfold strRow at hx
   rw[List.getElem?_map]at hx
   obtain⟨b,hb,rfl⟩:=Option.map_eq_some_iff.1 hx
   cases j with
   |succ j=>simp at hy
   |zero=>
    simp at hy
    subst hy
    refine⟨.int .u8 b.toNat,?_,.sc _ rfl⟩
    have hi:i<str.data.size:=by have:=(List.getElem?_eq_some_iff.1 hb).1;simpa using this
    rw[show i*1+0=i by omega]
    unfold Lib.bytesCells
    rw[Array.getElem?_append_left (by simpa using hi),Array.getElem?_map]
    rw[Array.getElem?_toList]at hb
    rw[hb]
    rfl)
 refine⟨_,_,Lib.run_convert_string_bytes E.w s d e str hs hd he,q,hrel _ _ hcap0 (by omega)⟩
theorem OpSem.strB{P:Program}{ops:Array Oper}{i nb:Nat}{o:Oper}{sl:Nat→AV}{rt:Nat→Option Root}{s d e:TypeId}{u:TypeDesc}{x:Operand}{str:ByteArray}(ho:ops[i]? =some o)(hg:Ey ops o sl=some true)(hop:o.op= .convert s d x)
  (hx:Cm sl x= .d (.sc (.string str)))(hs:P.underlying s=some u)(hd:P.underlying d=some (.slice e))(he:P.underlying e=some (.int .u8)):OpSem P ops i [] sl rt nb ⟨.ref nb 0 str.size,[.row 1 false (strRow str)],[]⟩:=by
 refine⟨o,ho,?_⟩
 intro c E a hM hl hT hnb hF K Q k
 unfold wpOp
 rw[ho]
 simp only[C4 hl hg,if_true]
 obtain⟨hsl,hop0⟩:=Gt hl
 have hv:=Bw hsl x
 rw[←hop0 x (by rw[hop];simp[Op.operands]),hx]at hv
 have hval:=P1 hv
 refine .inl (Done.wp ?_ k)
 refine Done.of (r:=(.ref nb 0 str.size,[.row 1 false (strRow str)])) (s:=convert s d (.string str)) (XaS hM hs hd he hF) ?_
 simp[execOp,hop,hval]
theorem Mem.recast{c:Ctx}{E:Env}(hM:Mem c E){rt1:Nat→Option Root}(h1:∀x R,E.rt x=some R→∃R',rt1 x=some R'∧R'.kind=R.kind)(h2:∀x R',rt1 x=some R'→∃R,E.rt x=some R∧R'.kind=R.kind)
  (h3:∀x R',E.pres x→rt1 x=some R'→RootRel E x R'):Mem c {E with rt:=rt1}∧Step E {E with rt:=rt1}∧Step {E with rt:=rt1} E:=by
 have st:Step E {E with rt:=rt1}:=⟨fun x R h=>by obtain⟨R',a,b⟩:=h1 x R h;exact⟨R',a,.inr b⟩,fun _ h=>h,fun _ _=>rfl,fun _ h=>h,fun _ _=>rfl,fun _ _ h=>h⟩
 have st':Step {E with rt:=rt1} E:=⟨fun x R h=>by obtain⟨R',a,b⟩:=h2 x R h;exact⟨R',a,.inr b.symm⟩,fun _ h=>h,fun _ _=>rfl,fun _ h=>h,fun _ _=>rfl,fun _ _ h=>h⟩
 have dd:∀{R R':Root},R'.kind=R.kind→R'≠.dead→R≠.dead:=by
  intro R R' hk hd e
  exact hd (kind_dead.1 (hk.trans (kind_dead.2 e)))
 refine⟨{os:=hM.os,output:=hM.output,tape:=hM.tape,size:=hM.size,keep:=hM.keep,shape:=hM.shape,s0:=hM.s0,slt:=hM.slt,snew:=hM.snew,glob:=hM.glob,blt:=hM.blt,bown:=?_,bkeep:=?_,inj:=?_,roots:=?_},st,st'⟩
 ·intro r R b hp hr hd hb
  obtain⟨R0,a,k⟩:=h2 r R hr
  exact hM.bown r R0 b hp a (dd k hd) hb
 ·intro r R hm hp hr hd
  obtain⟨R0,a,k⟩:=h2 r R hr
  exact hM.bkeep r R0 hm hp a (dd k hd)
 ·intro r r' R R' b hp hp' hr hd hr' hd' hb hb'
  obtain⟨R0,a,k⟩:=h2 r R hr
  obtain⟨R1,a',k'⟩:=h2 r' R' hr'
  exact hM.inj r r' R0 R1 b hp hp' a (dd k hd) a' (dd k' hd') hb hb'
 ·intro r R hp hr
  exact(h3 r R hp hr).step st hp (fun _ _=>rfl) (fun _ _ h=>h)
theorem cB_at{bs:List UInt8}{i j:Nat}{x:List D}{y:D}(hx:(bs.map cB)[i]? =some x)(hy:x[j]? =some y):j=0∧∃u:UInt8,bs[i]? =some u∧y= .sc (.int .u8 u.toNat):=by
 rw[List.getElem?_map]at hx
 obtain⟨u,hu,rfl⟩:=Option.map_eq_some_iff.1 hx
 cases j with
 |succ j=>simp[cB]at hy
 |zero=>simp[cB]at hy;exact⟨rfl,u,hu,hy.symm⟩
theorem XfF{P:Program}{c:Ctx}{E:Env}(hM:Mem c E){nb t xT ty r len e inf_bytes:Nat}{bs:List UInt8}{s:ByteArray}{vs:Value}(hx:P.underlying xT=some .string)(hz:(ezT P t).isSome=true)(hel:elT P t=some (1,inf_bytes))
  (hu:P.underlying t=some (.slice e))(hr:E.rt r=some (.buf e false bs))(hs:RelAV E (.ref r 0 len) vs)(hlen:len=bs.length)(h48:(2*(bs.length+s.size)+1024)*inf_bytes≤2^48)(h62:bs.length+s.size<2^62)
  (hp:E.pres r)(hF:Fresh c E nb [.buf e false (bs++s.data.toList)]):
  ∃v E',(Builtin.append_ #[t,xT] ty #[vs,.string s]).run P E.w= .ok v E'.w∧Appended c E nb r E'∧RelAV E' (.ref nb 0 (bs.length+s.size)) v:=by
 have hstr:strRow s=s.data.toList.map cB:=rfl
 have hsl:(strRow s).length=s.size:=by rw[hstr,List.length_map];exact Array.length_toList
 have hnb:E.rt nb=some (.buf e false (bs++s.data.toList)):=by simpa using hF.rt 0 _ rfl
 have hnp:¬E.pres nb:=by simpa using hF.np 0 (by simp)
 have hne:nb≠r:=by rintro rfl;exact hnp hp
 obtain⟨hM1,st,st'⟩:=hM.recast (rt1:=fun x=>if x=r then some (.row 1 false (bs.map cB))else if x=nb then some (.row 1 false (bs.map cB++strRow s))else E.rt x)
  (by
   intro x R hR
   by_cases h:x=r
   ·subst h;rw[hr]at hR;obtain rfl:=Option.some.inj hR;exact⟨_,if_pos rfl,rfl⟩
   ·by_cases h':x=nb
    ·subst h';rw[hnb]at hR;obtain rfl:=Option.some.inj hR;exact⟨.row 1 false (bs.map cB++strRow s),by rw[if_neg h,if_pos rfl],rfl⟩
    ·exact⟨R,by rw[if_neg h,if_neg h'];exact hR,rfl⟩)
  (by
   intro x R hR
   by_cases h:x=r
   ·subst h;rw[if_pos rfl]at hR;obtain rfl:=Option.some.inj hR;exact⟨_,hr,rfl⟩
   ·rw[if_neg h]at hR
    by_cases h':x=nb
    ·subst h';rw[if_pos rfl]at hR;obtain rfl:=Option.some.inj hR;exact⟨_,hnb,rfl⟩
    ·rw[if_neg h']at hR;exact⟨R,hR,rfl⟩)
  (by
   intro x R hpx hR
   by_cases h:x=r
   ·subst h
    rw[if_pos rfl]at hR
    obtain rfl:=Option.some.inj hR
    rcases hM.roots x _ hpx hr with⟨h1,h2⟩|⟨b,cs,fr,h1,h2,h3,h4,h5,h6⟩
    ·exact .inl ⟨h1,by rw[h2];rfl⟩
    ·refine .inr ⟨b,cs,e,fr,h1,h2,?_,by simpa using h3,?_,.inr ⟨rfl,h5,h6 rfl,.inl rfl⟩⟩
     ·intro i y hy
      obtain⟨u,_,rfl⟩:=List.mem_map.1 (List.mem_of_getElem? hy)
      rfl
     ·intro i y j z hy hz'
      obtain⟨rfl,u,hu',rfl⟩:=cB_at hy hz'
      exact⟨_,by simpa using h4 i u hu',.sc _ rfl⟩
   ·rw[if_neg h]at hR
    by_cases h':x=nb
    ·subst h';exact absurd hpx hnp
    ·rw[if_neg h']at hR;exact hM.roots x R hpx hR)
 generalize hE1:({E with rt:=_}:Env)=E1 at hM1 st st'
 have ae:E1.rt r=some (.row 1 false (bs.map cB)):=by rw[←hE1];exact if_pos rfl
 have aa:E1.rt nb=some (.row 1 false (bs.map cB++strRow s)):=by rw[←hE1];show(if nb=r then _ else _)=_;rw[if_neg hne,if_pos rfl]
 have ab:∀x,x≠r→x≠nb→E1.rt x=E.rt x:=by intro x h1 h2;rw[←hE1];show(if x=r then _ else _)=_;rw[if_neg h1,if_neg h2]
 have ac:E1.w=E.w:=by rw[←hE1]
 have ad:E1.pres=E.pres:=by rw[←hE1]
 have af:E1.β=E.β:=by rw[←hE1]
 have e1S:E1.S=E.S:=by rw[←hE1]
 have hF1:Fresh c E1 nb [.row 1 false (bs.map cB++strRow s)]:=⟨hF.m,fun k R hk=>by
   cases k with
   |zero=>simp at hk;subst hk;exact aa
   |succ k=>simp at hk,fun k hk=>by
   have:k=0:=by simpa using hk
   subst this
   rw[ad];exact hnp⟩
 have hev:Dz E1.rt nb (elT P t) (.ref r 0 len) (.d (.sc (.string s)))=some (.ref nb 0 ((bs.map cB).length+(strRow s).length),[.row 1 false (bs.map cB++strRow s)],r):=by
  simp only[Dz,ae,AV.src,Option.bind_some,hel]
  rw[if_pos (by refine⟨trivial,?_,trivial,trivial,?_,?_⟩<;>simp only[List.length_map,hsl]<;>assumption)]
 obtain⟨v,E2,hrun,hA,hrel,hty⟩:=Pd (ty:=ty) hM1 (.inr hx) hz (hs.step st) (.d _ _ (.sc (.string s) rfl)) hev hF1
 have hlb:(bs.map cB).length+(strRow s).length=bs.length+s.size:=by rw[hsl,List.length_map]
 rw[hlb]at hrel
 have e2:∀x,E2.rt x=(E1.kill r).rt x:=fun x=>by rw[hA.rt]
 have kr:∀x,(E.kill r).rt x=if x=r then some .dead else E.rt x:=fun x=>rfl
 have kr1:∀x,(E1.kill r).rt x=if x=r then some .dead else E1.rt x:=fun x=>rfl
 have hpn:E2.pres nb:=(hA.pres nb).2 (.inr rfl)
 obtain⟨hM2,st2,st2'⟩:=hA.mem.recast (rt1:=(E.kill r).rt)
  (by
   intro x R hR
   rw[e2,kr1]at hR
   rw[kr]
   by_cases h:x=r
   ·rw[if_pos h]at hR⊢;exact⟨R,hR,rfl⟩
   ·rw[if_neg h]at hR⊢
    by_cases h':x=nb
    ·subst h';rw[aa]at hR;obtain rfl:=Option.some.inj hR;exact⟨_,hnb,rfl⟩
    ·rw[ab x h h']at hR;exact⟨R,hR,rfl⟩)
  (by
   intro x R hR
   rw[kr]at hR
   simp only[e2,kr1]
   by_cases h:x=r
   ·rw[if_pos h]at hR⊢;exact⟨R,hR,rfl⟩
   ·rw[if_neg h]at hR⊢
    by_cases h':x=nb
    ·subst h';rw[hnb]at hR;obtain rfl:=Option.some.inj hR;exact⟨_,aa,rfl⟩
    ·rw[ab x h h'];exact⟨R,hR,rfl⟩)
  (by
   intro x R hpx hR
   rw[kr]at hR
   by_cases h:x=r
   ·rw[if_pos h]at hR;obtain rfl:=Option.some.inj hR;trivial
   ·rw[if_neg h]at hR
    by_cases h':x=nb
    ·subst h'
     rw[hnb]at hR
     obtain rfl:=Option.some.inj hR
     have hroot:=hA.mem.roots x _ hpn (by rw[e2,kr1,if_neg h];exact aa)
     rcases hroot with⟨h1,h2⟩|⟨b,cs,tt,fr,h1,h2,h3,h4,h5,h6⟩
     ·refine .inl ⟨h1,?_⟩
      rw[hstr,←List.map_append]at h2
      simpa using h2
     ·have htt:tt=e:=by
       have key:∃n,E2.w.shape? b=some (e,n):=by
        rcases hty e hu b h1 with hb|hb
        ·rw[af]at hb
         rcases hM.roots r _ hp hr with⟨g1,_⟩|⟨b',cs',fr',g1,g2,_⟩
         ·rw[g1]at hb;cases hb
         ·rw[g1]at hb
          obtain rfl:=Option.some.inj hb
          exact⟨_,hA.step.shape b' _ (by rw[ac];unfold World.shape?;rw[g2])⟩
        ·exact hb
       obtain⟨n,hn⟩:=key
       unfold World.shape? at hn
       rw[h2]at hn
       simp only[Option.some.injEq,Prod.mk.injEq]at hn
       exact hn.1
      subst htt
      rw[hstr,←List.map_append]at h4 h5
      refine .inr ⟨b,cs,fr,h1,h2,by simpa using h4,?_,?_⟩
      ·intro i u hu'
       obtain⟨w',hw,hd⟩:=h5 i (cB u) 0 (.sc (.int .u8 u.toNat)) (by rw[List.getElem?_map,hu'];rfl) rfl
       cases hd
       simpa using hw
      ·rcases h6 with⟨h6,_⟩|⟨_,h7,h8⟩
       ·cases h6
       ·exact⟨h7,fun _=>h8.1⟩
    ·rw[←ab x h h']at hR
     exact hA.mem.roots x R hpx (by rw[e2,kr1,if_neg h];exact hR))
 refine⟨v,_,?_,⟨hM2,(st.trans hA.step).trans st2,rfl,?_,?_,?_⟩,hrel.step st2⟩
 ·rw[ac]at hrun;exact hrun
 ·intro x
  have:=hA.pres x
  rw[ad]at this
  exact this
 ·show E2.S=E.S
  rw[hA.S,e1S]
 ·have:=hA.size
  rw[ac]at this
  exact this
theorem OpSem.appB{P:Program}{ops:Array Oper}{i nb:Nat}{o:Oper}{sl:Nat→AV}{rt:Nat→Option Root}{cl:Call}{x y:Operand}{t xT r len e bytes:Nat}{bs:List UInt8}{str:ByteArray}(ho:ops[i]? =some o)(hg:Ey ops o sl=some true)(hop:o.op= .call cl)
  (hc:cl.callee= .builtin .append)(ha:cl.args= #[x,y])(ht:cl.argTypes= #[t,xT])(hx:Cm sl x= .ref r 0 len)(hy:Cm sl y= .d (.sc (.string str)))(hxT:P.underlying xT=some .string)(hz:(ezT P t).isSome=true)(hel:elT P t=some (1,bytes))
  (hu:P.underlying t=some (.slice e))(hr:rt r=some (.buf e false bs))(hlen:len=bs.length)(h48:(2*(bs.length+str.size)+1024)*bytes≤2^48)(h62:bs.length+str.size<2^62):
  OpSem P ops i [r] sl rt nb ⟨.ref nb 0 (bs.length+str.size),[.buf e false (bs++str.data.toList)],[(r,.dead)]⟩:=by
 refine⟨o,ho,?_⟩
 intro c E a hM hl hT hnb hF K Q k
 unfold wpOp
 rw[ho]
 simp only[C4 hl hg,if_true]
 obtain⟨hsl,hop0⟩:=Gt hl
 have hv:=Bw hsl x
 rw[←hop0 x (by rw[hop];simp[Op.operands,Call.operands,hc,ha]),hx]at hv
 have hw:=Bw hsl y
 rw[←hop0 y (by rw[hop];simp[Op.operands,Call.operands,hc,ha]),hy]at hw
 have hval:=P1 hw
 have hr':E.rt r=some (.buf e false bs):=by
  rcases hT r (by simp)with h|h
  ·rw[h]at hr;cases hr
  ·rw[h];exact hr
 have hp:E.pres r:=Mm hv (by simp[AV.ids]) hr' (by simp)
 obtain⟨v,E',hrun,hA,hrel⟩:=XfF (ty:=o.type) hM hxT hz hel hu hr' hv hlen h48 h62 hp hF
 refine .inl (Done.wp ?_ k)
 refine⟨v,E',.inl ?_,hA.mem,hA.step,?_,?_,hA.size,hrel⟩
 ·simp[execOp,hop,resolve,hc,ha,ht,invoke,builtin,hval,hrun]
 ·rw[hA.rt];rfl
 ·intro z
  rw[hA.pres]
  constructor
  ·rintro(h|rfl)
   ·exact .inl h
   ·exact .inr ⟨Nat.le_refl _,by simp⟩
  ·rintro(h|⟨h1,h2⟩)
   ·exact .inl h
   ·have h2':z<nb+1:=by simpa using h2
    exact .inr (by omega)
open Go
theorem Xag{P:Program}{c:Ctx}{E:Env}(hM:Mem c E){nb:Nat}{t:TypeId}{n:Nat}{k:IntKind}(hz:Kd P t=some (List.replicate n (.int k 0,0)))(hF:Fresh c E nb [.row 1 false (List.replicate n [.sc (.int k 0)])]):
  Yields1 c P E nb (.ptr nb 0 0,[.row 1 false (List.replicate n [.sc (.int k 0)])]) (Instr.alloc t true (.tuple #[])):=by
 obtain⟨z,hrun,hcells,h1,_⟩:=Fh (w:=E.w) hz
 have hsz:z.cells.size=n:=by rw[←Array.length_toList,hcells];simp
 have hcell:∀i,i<n→z.cells[i]? =some (.int k 0):=by
  intro i hi
  rw[←Array.getElem?_toList,hcells,List.getElem?_map,List.getElem?_replicate,if_pos hi]
  rfl
 have hrt:E.rt nb=some (.row 1 false (List.replicate n [.sc (.int k 0)])):=by simpa using hF.rt 0 _ rfl
 obtain⟨q,_⟩:=Xgi hM (r:=nb) (sz:=1) (xs:=List.replicate n [.sc (.int k 0)]) (t:=t) (cs:=z.cells) (fr:=(0,0)) (w':=E.w.alloc (.cells z.cells t)) hrt
  (by simpa using hF.np 0 (by simp)) hF.m (Grow.alloc _ _) ⟨Gx _,.inr rfl⟩
  (by intro i x hx;rw[List.eq_of_mem_replicate (List.mem_of_getElem? hx)];rfl)
  (by rw[List.length_replicate];omega)
  (by
   intro i x j y hx hy
   have hi:i<n:=by have:=(List.getElem?_eq_some_iff.1 hx).1;simpa using this
   rw[List.eq_of_mem_replicate (List.mem_of_getElem? hx)]at hy
   cases j with
   |succ j=>simp at hy
   |zero=>
    simp at hy
    subst hy
    exact⟨.int k 0,by simpa using hcell i hi,.sc _ rfl⟩)
 refine⟨.pointer (some ⟨E.w.heap.size,0,none⟩),_,?_,q,?_⟩
 ·simp[Instr.alloc,hrun,newVar,newRow,Env.withBlk]
 ·have:=RelAV.ptr (E:=E.withBlk nb (E.w.alloc (.cells z.cells t))) nb 0 0 _ E.w.heap.size hrt (Or.inr rfl) (Ea _ _ _)
  simpa[Root.kind]using this
section
variable {P:Program} {ops:Array Oper} {i nb:Nat} {o:Oper} {sl:Nat→AV} {rt:Nat→Option Root}
theorem OpSem.allocA{t:TypeId}{n:Nat}{k:IntKind}(ho:ops[i]? =some o)(hg:Ey ops o sl=some true)(hop:o.op= .alloc t)(hz:Kd P t=some (List.replicate n (.int k 0,0))):
  OpSem P ops i [] sl rt nb ⟨.ptr nb 0 0,[.row 1 false (List.replicate n [.sc (.int k 0)])],[]⟩:=by
 refine⟨o,ho,?_⟩
 intro c E a hM hl hT hnb hF K Q k
 unfold wpOp
 rw[ho]
 simp only[C4 hl hg,if_true]
 refine .inl (Done.wp ?_ k)
 exact Done.of (Xag hM hz hF) (by simp[execOp,hop])
theorem XhX{E:Env}{r i j:Nat}{R:Root}{v:Value}(h:RelAV E (.ptr r i j) v)(hr:E.rt r=some R)(hd:R≠.dead)(hm:∀ks,R≠.map ks:=by intro ks h;cases h):∃b,E.pres r∧E.β r=some b∧v= .pointer (some ⟨b,i*R.kind.sz+j,none⟩):=by
 cases h with
 |dptr _ _ _ _ h1 _=>rw[hr]at h1;exact absurd (Option.some.inj h1) hd
 |ptr _ _ _ R' b h1 h2 h3=>
  rw[hr]at h1
  obtain rfl:=Option.some.inj h1
  refine⟨b,h2,h3,?_⟩
  cases R with
  |map ks=>exact absurd rfl (hm ks)
  |_=>rfl
theorem OpSem.idxA{t e:TypeId}{x y:Operand}{n r:Nat}{fz:Bool}{xs:List (List D)}{k:IntKind}{j:Int}(ho:ops[i]? =some o)(hg:Ey ops o sl=some true)(hop:o.op= .indexAddr t x y)(hx:Cm sl x= .ptr r 0 0)
  (hy:Cm sl y= .d (.sc (.int k j)))(hu:P.underlying t=some (.array n e))(hs:szT P e=some 1)(hr:rt r=some (.row 1 fz xs))(h0:0≤j)(h1:j<(n:Int)):OpSem P ops i [r] sl rt nb ⟨.ptr r j.toNat 0,[],[]⟩:=by
 refine⟨o,ho,?_⟩
 intro c E a hM hl hT hnb hF K Q kk
 unfold wpOp
 rw[ho]
 simp only[C4 hl hg,if_true]
 obtain⟨hsl,hop0⟩:=Gt hl
 have hv:=Bw hsl x
 rw[←hop0 x (by rw[hop];simp[Op.operands]),hx]at hv
 have hw:=Bw hsl y
 rw[←hop0 y (by rw[hop];simp[Op.operands]),hy]at hw
 have hval:=P1 hw
 have hr':E.rt r=some (.row 1 fz xs):=by
  rcases hT r (by simp)with h|h
  ·rw[h]at hr;cases hr
  ·rw[h];exact hr
 obtain⟨b,hp,hb,hv'⟩:=XhX hv hr' (by simp)
 refine .inl (Done.wp ?_ kk)
 refine Done.same hM (s:=Instr.indexAt t (.pointer (some ⟨b,0,none⟩)) (.int k j)) ⟨.pointer (some ⟨b,j.toNat*1+0,none⟩),?_,.ptr r _ 0 _ b hr' hp hb⟩ (by simp[execOp,hop,hval,hv'])
 simp only[Instr.indexAt,asIntOf,Sem.run_bind,Sem.run_pure,Result.andThen_ok,run_underlying hu]
 simp[h0,h1,Cz hs,He,Instr.sureAddr]
theorem OpSem.slcA{t e:TypeId}{x:Operand}{xlo xhi:Option Operand}{lo hi:Option Int}{n r:Nat}{fz:Bool}{xs:List (List D)}(ho:ops[i]? =some o)(hg:Ey ops o sl=some true)(hop:o.op= .slice t x xlo xhi none)(hx:Cm sl x= .ptr r 0 0)
  (hlo:G4 sl xlo=some lo)(hhi:G4 sl xhi=some hi)(hu:P.underlying t=some (.array n e))(hs:szT P e=some 1)(hr:rt r=some (.row 1 fz xs))(hn:xs.length=n)(h0:0≤lo.getD 0)(h1:lo.getD 0≤hi.getD (n:Int))(h2:hi.getD (n:Int)≤(n:Int)):
  OpSem P ops i [r] sl rt nb ⟨.ref r (lo.getD 0).toNat ((hi.getD (n:Int)).toNat - (lo.getD 0).toNat),[],[]⟩:=by
 refine⟨o,ho,?_⟩
 intro c E a hM hl hT hnb hF K Q kk
 unfold wpOp
 rw[ho]
 simp only[C4 hl hg,if_true]
 obtain⟨hsl,hop0⟩:=Gt hl
 have hv:=Bw hsl x
 rw[←hop0 x (by rw[hop];simp[Op.operands]),hx]at hv
 have hr':E.rt r=some (.row 1 fz xs):=by
  rcases hT r (by simp)with h|h
  ·rw[h]at hr;cases hr
  ·rw[h];exact hr
 have hbd:∀(q:Option Operand),(∀z,q=some z→z∈o.op.operands)→G4 sl q=G4 (fun t=>open Classical in if t∈o.looksAt ops then sl t else .junk) q:=by
  intro q hq
  cases q with
  |none=>rfl
  |some z=>unfold G4;simp only;rw[hop0 z (hq z rfl)]
 rw[hbd xlo (by intro z hz;rw[hop,hz];simp[Op.operands])]at hlo
 rw[hbd xhi (by intro z hz;rw[hop,hz];simp[Op.operands])]at hhi
 obtain⟨kl,hkl⟩:=Qz hsl hlo
 obtain⟨kh,hkh⟩:=Qz hsl hhi
 obtain⟨b,hp,hb,hv'⟩:=XhX hv hr' (by simp)
 have hroot:=hM.roots r _ hp hr'
 refine .inl (Done.wp ?_ kk)
 have hbnd:=Fr (P:=P) (w:=E.w) (isSl:=false) (len:=n) (cap:=n) (kl:=kl) (kh:=kh) h0 h1 h2 (Nat.le_refl _)
 generalize hL:(lo.getD 0).toNat=L at*
 generalize hH:(hi.getD (n:Int)).toNat=H at*
 have hLH:L≤H:=by omega
 have hHn:H≤n:=by omega
 refine Done.same hM (s:=Instr.sliceAt t (.pointer (some ⟨b,0,none⟩)) (lo.map (Value.int kl)) (hi.map (Value.int kh)) none) ⟨.slice (some (if n=L then⟨b,0,none⟩else⟨b,L*1,none⟩)) (H - L) (n - L),?_,?_⟩ (by simp[execOp,hop,hkl,hkh,hv'])
 ·simp[Instr.sliceAt,run_underlying hu,hbnd,Cz hs,Instr.sureAddr,He]
 ·rcases hroot with⟨g1,_⟩|⟨b',cs,tt,fr,g1,g2,g3,g4,g5,g6⟩
  ·rw[g1]at hb;cases hb
  ·rw[hb]at g1
   obtain rfl:=Option.some.inj g1
   by_cases hnl:n=L
   ·rw[if_pos hnl,show H - L=0 by omega,show n - L=0 by omega]
    exact .refz r L _ 1 _ hr' rfl hp
   ·rw[if_neg hnl]
    exact .ref r L (H - L) _ 1 b (n - L) tt cs.size hr' rfl hp hb (by unfold World.shape?;rw[g2]) (by omega) (by omega)
end
open Go
def Hp(xs:List (List D))(off len:Nat)(z:List D):List (List D):=xs.take off++(List.replicate len z++xs.drop (off+len))
theorem Xf3{xs:List (List D)}{off len:Nat}{z:List D}(h:off+len≤xs.length):(Hp xs off len z).length=xs.length:=by
 unfold Hp
 rw[List.length_append,List.length_append,List.length_take,List.length_replicate,List.length_drop]
 omega
theorem S4{xs:List (List D)}{off len:Nat}{z:List D}(h:off+len≤xs.length){i:Nat}:(Hp xs off len z)[i]? =if off≤i∧i<off+len then some z else xs[i]? :=by
 unfold Hp
 rcases Nat.lt_or_ge i off with h1|h1
 ·rw[if_neg (by omega),List.getElem?_append_left (by rw[List.length_take];omega),List.getElem?_take_of_lt h1]
 ·rw[List.getElem?_append_right (by rw[List.length_take];omega),List.length_take,Nat.min_eq_left (by omega)]
  rcases Nat.lt_or_ge i (off+len)with h2|h2
  ·rw[if_pos ⟨h1,h2⟩,List.getElem?_append_left (by rw[List.length_replicate];omega),List.getElem?_replicate,if_pos (by omega)]
  ·rw[if_neg (by omega),List.getElem?_append_right (by rw[List.length_replicate];omega),List.length_replicate,List.getElem?_drop]
   congr 1
   omega
section
variable {P:Program} {c:Ctx} {E:Env}
def Nr(zs:List Value)(n:Nat):List Value:=(List.range (n*zs.length)).map fun i=>zs.getD (i% zs.length) undef
theorem Xbh{zs:List Value}{n:Nat}:(Nr zs n).length=n*zs.length:=by simp[Nr]
theorem Xgs{zs:List Value}{n k j:Nat}(hk:k<n)(hj:j<zs.length):(Nr zs n)[k*zs.length+j]? =zs[j]? :=by
 have hlt:k*zs.length+j<n*zs.length:=by
  calc k*zs.length+j<k*zs.length+zs.length:=by omega
   _=(k+1)*zs.length:=by rw[Nat.succ_mul]
   _≤n*zs.length:=Nat.mul_le_mul_right _ hk
 have hm:(k*zs.length+j)% zs.length=j:=by
  rw[Nat.mul_comm,Nat.mul_add_mod]
  exact Nat.mod_eq_of_lt hj
 unfold Nr
 rw[List.getElem?_map,List.getElem?_range hlt]
 simp[hm,hj]
theorem XhV{zs:List Value}{n:Nat}(h1:∀z∈zs,z.oneCell'=true)(h0:0<zs.length):∀u∈Nr zs n,u.oneCell'=true:=by
 intro u hu
 unfold Nr at hu
 obtain⟨i,_,rfl⟩:=List.mem_map.1 hu
 have hm:=Nat.mod_lt i h0
 rw[List.getD_eq_getElem?_getD,List.getElem?_eq_getElem hm]
 exact h1 _ (List.getElem_mem hm)
theorem Xhu(hM:Mem c E){r b off len:Nat}{xs:List (List D)}{zs:List Value}(hp:E.pres r)(hr:E.rt r=some (.row zs.length false xs))(hb:E.β r=some b)(h0:0<zs.length)(h1:∀z∈zs,z.oneCell'=true)(hn:off+len≤xs.length):
  (storeCells ⟨b,off*zs.length,none⟩ (Nr zs len)).run P E.w= .ok () (E.w.setCells b (off*zs.length) (Nr zs len))∧(E.w.setCells b (off*zs.length) (Nr zs len)).heap.size=E.w.heap.size∧
   Mem c (E.upd r (.row zs.length false (Hp xs off len (zs.map D.sc))) (E.w.setCells b (off*zs.length) (Nr zs len)))∧Step E (E.upd r (.row zs.length false (Hp xs off len (zs.map D.sc))) (E.w.setCells b (off*zs.length) (Nr zs len))):=by
 rcases hM.roots r _ hp hr with⟨hb',_⟩|⟨b',cs,ty,fr,hb',hh,hlen,hcsz,hcs,hfz⟩
 ·rw[hb]at hb';cases hb'
 rw[hb]at hb'
 obtain rfl:=Option.some.inj hb'
 rcases hfz with⟨hf,_⟩|⟨_,hnS,hfr⟩
 ·cases hf
 have hle:off*zs.length+(Nr zs len).length≤cs.size:=by
  rw[Xbh,←Nat.add_mul]
  exact Nat.le_trans (Nat.mul_le_mul_right _ hn) hcsz
 have hst:=run_storeCells_cells (P:=P) b (off*zs.length) (Nr zs len) 0 E.w (by
   intro j hj
   have:off*zs.length+j<cs.size:=by omega
   simp[World.cell?,hh,this])
  (by
   intro j hj
   have hlt:off*zs.length+j<cs.size:=by omega
   rw[Nat.add_zero]
   exact Gy hh hfr.1 hlt) (XhV h1 h0)
 obtain⟨cs',hw,hget⟩:=Dd b ty fr (Nr zs len) (off*zs.length) E.w cs hh hle
 have st:Step E (E.upd r (.row zs.length false (Hp xs off len (zs.map D.sc))) (E.w.setCells b (off*zs.length) (Nr zs len))):=Step.upd hr (.inr rfl) (fun x hx=>hw.others x (fun e=>hnS (e▸hx))) (hw.shape hh)
 refine⟨by simpa using hst,hw.hsize,?_⟩
 refine hM.upd (R:=.row zs.length false xs) (cs':=cs') hp hr (by simp) rfl hb hnS hh hw ?_
 refine .inr ⟨b,cs',ty,fr,hb,hw.at_,?_,by rw[hw.size,Xf3 hn];exact hcsz,?_,.inr ⟨rfl,hnS,by rw[hw.size];exact hfr⟩⟩
 ·intro a x hx
  rw[S4 hn]at hx
  split at hx
  ·rw[←Option.some.inj hx,List.length_map]
  ·exact hlen a x hx
 ·intro a x k y hx hy
  have hxl:x.length=zs.length:=by
   rw[S4 hn]at hx
   split at hx
   ·rw[←Option.some.inj hx,List.length_map]
   ·exact hlen a x hx
  have hk:k<zs.length:=by rw[←hxl];exact(List.getElem?_eq_some_iff.1 hy).1
  rw[hget,Xbh,←Nat.add_mul]
  rw[S4 hn]at hx
  split at hx
  ·rename_i ha
   obtain rfl:=Option.some.inj hx
   rw[List.getElem?_map]at hy
   obtain⟨z,hz,rfl⟩:=Option.map_eq_some_iff.1 hy
   have e1:off*zs.length≤a*zs.length+k:=Nat.le_trans (Nat.mul_le_mul_right _ ha.1) (Nat.le_add_right _ _)
   have e2:a*zs.length+k<(off+len)*zs.length:=by
    calc a*zs.length+k<a*zs.length+zs.length:=by omega
     _=(a+1)*zs.length:=by rw[Nat.succ_mul]
     _≤(off+len)*zs.length:=Nat.mul_le_mul_right _ ha.2
   rw[if_pos ⟨e1,e2⟩]
   have e3:a*zs.length+k - off*zs.length=(a - off)*zs.length+k:=by
    rw[Nat.sub_mul]
    have:=Nat.mul_le_mul_right zs.length ha.1
    omega
   rw[e3,Xgs (by omega) hk]
   exact⟨z,hz,.sc _ (h1 z (List.mem_of_getElem? hz))⟩
  ·rename_i ha
   have e1:¬(off*zs.length≤a*zs.length+k∧a*zs.length+k<(off+len)*zs.length):=by
    rintro⟨k1,k2⟩
    apply ha
    constructor
    ·rcases Nat.lt_or_ge a off with h|h
     ·have:=Nat.mul_le_mul_right zs.length (show a+1≤off by omega)
      rw[Nat.succ_mul]at this
      omega
     ·exact h
    ·rcases Nat.lt_or_ge a (off+len)with h|h
     ·exact h
     ·have:=Nat.mul_le_mul_right zs.length h
      omega
   rw[if_neg e1]
   obtain⟨u,hu,hr⟩:=hcs a x k y hx hy
   exact⟨u,hu,hr.step st.S st.heap⟩
end
section
variable {P:Program} {ops:Array Oper} {i nb:Nat} {o:Oper} {sl:Nat→AV} {rt:Nat→Option Root}
theorem OpSem.clrR{cl:Call}{x:Operand}{t e r off len:Nat}{xs:List (List D)}{zz:List (Value×Nat)}{zs:List Value}(ho:ops[i]? =some o)(hg:Ey ops o sl=some true)(hop:o.op= .call cl)(hc:cl.callee= .builtin .clear)(ha:cl.args= #[x])(ht:cl.argTypes= #[t])
  (hx:Cm sl x= .ref r off len)(hu:P.underlying t=some (.slice e))(hz:Kd P e=some zz)(hzs:zz.map (·.1)=zs)(h0:0<zs.length)(hr:rt r=some (.row zs.length false xs))(hn:off+len≤xs.length):
  OpSem P ops i [r] sl rt nb ⟨.junk,[],[(r,.row zs.length false (Hp xs off len (zs.map D.sc)))]⟩:=by
 refine⟨o,ho,?_⟩
 intro c E a hM hl hT hnb hF K Q kk
 unfold wpOp
 rw[ho]
 simp only[C4 hl hg,if_true]
 obtain⟨hsl,hop0⟩:=Gt hl
 have hv:=Bw hsl x
 rw[←hop0 x (by rw[hop];simp[Op.operands,Call.operands,hc,ha]),hx]at hv
 have hr':E.rt r=some (.row zs.length false xs):=by
  rcases hT r (by simp)with h|h
  ·rw[h]at hr;cases hr
  ·rw[h];exact hr
 obtain⟨zv,hzr,hzc,ab,_⟩:=Fh (w:=E.w) hz
 have hone:∀z∈zs,z.oneCell'=true:=by
  intro z hz
  rw[←hzs]at hz
  obtain⟨p,hp,rfl⟩:=List.mem_map.1 hz
  exact ab p hp
 have hzl:zv.cells.toList=zs:=by rw[hzc,hzs]
 have hzsz:zv.cells.size=zs.length:=by rw[←hzl,Array.length_toList]
 have hrep:(Builtin.zeroCells zv.cells len).toList=Nr zs len:=by
  unfold Builtin.zeroCells Nr
  rw[Array.toList_map,Array.toList_range,hzsz]
  apply List.map_congr_left
  intro i _
  have hm:=Nat.mod_lt i h0
  have g:zs[i% zs.length]? =zv.cells[i% zs.length]? :=by rw[←Array.getElem?_toList,hzl]
  rw[List.getD_eq_getElem?_getD,g,Array.getElem?_eq_getElem (by rw[hzsz];exact hm),getElem!_pos zv.cells _ (by rw[hzsz];exact hm)]
  rfl
 have fin:∀(v:Value) (w':World),a.eval x=v→(Builtin.clear_ #[t] o.type #[v]).run P E.w= .ok (.tuple #[]) w'→w'.heap.size=E.w.heap.size→Mem c (E.upd r (.row zs.length false (Hp xs off len (zs.map D.sc))) w')→Step E (E.upd r (.row zs.length false (Hp xs off len (zs.map D.sc))) w')→
   Done P c E nb ⟨.junk,[],[(r,.row zs.length false (Hp xs off len (zs.map D.sc)))]⟩ (execOp a.eval o):=by
  intro v w' hval hrun hsz hM' st
  refine⟨.tuple #[],_,.inl ?_,hM',st,rfl,?_,?_,.junk _⟩
  ·simp[execOp,hop,resolve,hc,ha,ht,invoke,builtin,hval,hrun,Env.upd]
  ·intro y
   constructor
   ·exact fun h=>.inl h
   ·rintro(h|⟨h1,h2⟩)
    ·exact h
    ·simp at h2;omega
  ·show E.w.heap.size≤w'.heap.size
   omega
 have same:len=0→E.upd r (.row zs.length false (Hp xs off len (zs.map D.sc))) E.w=E:=by
  rintro rfl
  have e1:Hp xs off 0 (zs.map D.sc)=xs:=by unfold Hp;simp
  rw[e1]
  unfold Env.upd
  have e2:(fun y=>if y=r then some (Root.row zs.length false xs)else E.rt y)=E.rt:=by
   funext y
   split
   ·rename_i h;rw[h,hr']
   ·rfl
  rw[e2]
 refine .inl (Done.wp ?_ kk)
 generalize hval:a.eval x=v at hv
 cases hv with
 |ref _ _ _ R sz b cap tt n h1 hk h2 h3 h4 h5 h6=>
  rw[hr']at h1
  obtain rfl:=Option.some.inj h1
  have ac:sz=zs.length:=by simp[Root.kind]at hk;exact hk.symm
  subst ac
  by_cases aa:len=0
  ·have hs:=same aa
   refine fin _ E.w hval ?_ rfl (by rw[hs];exact hM) (by rw[hs];exact Step.refl E)
   subst aa
   simp[Builtin.clear_,run_underlying hu]
  ·obtain⟨g1,g2,g3,g4⟩:=Xhu (P:=P) hM h2 hr' h3 h0 hone hn
   refine fin _ _ hval ?_ g2 g3 g4
   obtain⟨k,rfl⟩:∃k,len=k+1:=⟨len - 1,by omega⟩
   simp[Builtin.clear_,run_underlying hu,hzr,hrep,g1]
 |refz _ _ R sz ad h1 hk h2=>
  have hs:=same rfl
  refine fin _ E.w hval ?_ rfl (by rw[hs];exact hM) (by rw[hs];exact Step.refl E)
  cases ad<;>simp[Builtin.clear_,run_underlying hu]
 |dref _ _ _ _ h1 ho'=>
  rw[hr']at h1
  cases h1
end
end
end Go.Proofs.YtjbmpmmffjgedaaGreatDoor.Ab
