/- A relation between the machine and an abstract state, evaluators for single operations and for code, proved sound (part 3). No conditions. -/
import Derived.Laws.IdiomCopy
import Derived.Test.YtjbmpmmffjgedaaGreatDoorCsZ1
set_option linter.unusedVariables false
set_option linter.unusedSimpArgs false
namespace Go.Proofs.YtjbmpmmffjgedaaGreatDoor.Ab
section
open Go
structure Wrote (w w':World) (b:Nat) (cs cs':Array Value) (t:TypeId) (fr:Nat×Nat):Prop where
 at_:w'.heap[b]? =some (.cells cs' t fr)
 size:cs'.size=cs.size
 others:∀x,x≠b→w'.heap[x]? =w.heap[x]?
 hsize:w'.heap.size=w.heap.size
 os:w'.os=w.os
 output:w'.output=w.output
 tape:w'.tape=w.tape
theorem Dd(b:Nat)(t:TypeId)(fr:Nat×Nat):∀(vs:List Value) (o:Nat) (w:World) (cs:Array Value),w.heap[b]? =some (.cells cs t fr)→o+vs.length≤cs.size→
  ∃cs',Wrote w (w.setCells b o vs) b cs cs' t fr∧∀i:Nat,cs'[i]? =if o≤i∧i<o+vs.length then vs[i - o]? else cs[i]?
 |[],o,w,cs,h,hle=>⟨cs,⟨h,rfl,fun _ _=>rfl,rfl,rfl,rfl,rfl⟩,fun i=>by rw[if_neg (by simp only[List.length_nil];omega)]⟩
 |v::vs,o,w,cs,h,hle=>by
  simp only[List.length_cons]at hle
  have h1:(w.setCell ⟨b,o,none⟩ v).heap[b]? =some (.cells (cs.setIfInBounds o v) t fr):=by
   simp[World.setCell,Array.getElem?_modify,h]
  obtain⟨cs',hw,hc⟩:=Dd b t fr vs (o+1) (w.setCell ⟨b,o,none⟩ v) (cs.setIfInBounds o v) h1 (by simp;omega)
  refine⟨cs',⟨hw.at_,by rw[hw.size];simp,?_,?_,hw.os,hw.output,hw.tape⟩,?_⟩
  ·intro x hx
   rw[show w.setCells b o (v::vs)=(w.setCell ⟨b,o,none⟩ v).setCells b (o+1) vs from rfl,hw.others x hx]
   simp only[World.setCell,Array.getElem?_modify]
   rw[if_neg (by simpa using fun e=>hx e.symm)]
  ·rw[show w.setCells b o (v::vs)=(w.setCell ⟨b,o,none⟩ v).setCells b (o+1) vs from rfl,hw.hsize]
   simp
  ·intro i
   rw[hc i]
   by_cases h2:o+1≤i∧i<o+1+vs.length
   ·rw[if_pos h2,if_pos (by simp;omega)]
    rw[show i - o=(i - (o+1))+1 by omega]
    simp
   ·rw[if_neg h2]
    by_cases h3:i=o
    ·subst h3
     rw[if_pos (by simp)]
     rw[Array.getElem?_setIfInBounds_self_of_lt (by omega)]
     simp
    ·rw[if_neg (by simp;omega)]
     rw[Array.getElem?_setIfInBounds_ne (by omega)]
def Env.upd(E:Env)(r:Nat)(R:Root)(w:World):Env:={E with rt:=fun x=>if x=r then some R else E.rt x,w:=w}
section
variable {P:Program} {c:Ctx} {E:Env}
theorem Step.upd{r:Nat}{R R':Root}{w:World}(hr:E.rt r=some R)(hk:R'= .dead∨R'.kind=R.kind)(hS:∀b,E.S b→w.heap[b]? =E.w.heap[b]?)(hsh:∀b s,E.w.shape? b=some s→w.shape? b=some s):Step E (E.upd r R' w) where
 rt:=by
  intro x R0 h
  by_cases e:x=r
  ·subst e
   refine⟨R',by simp[Env.upd],?_⟩
   rw[hr]at h
   rw[←Option.some.inj h]
   exact hk
  ·exact⟨R0,by simp[Env.upd,e,h],.inr rfl⟩
 pres:=fun _ h=>h
 β:=fun _ _=>rfl
 S:=fun _ h=>h
 heap:=hS
 shape:=hsh
theorem Wrote.shape{w w':World}{b:Nat}{cs cs':Array Value}{t:TypeId}{fr fr0:Nat×Nat}(hb:w.heap[b]? =some (.cells cs t fr0))(h:Wrote w w' b cs cs' t fr)(x:Nat)(s:TypeId×Nat)(hs:w.shape? x=some s):w'.shape? x=some s:=by
 by_cases e:x=b
 ·subst e
  unfold World.shape? at hs⊢
  rw[h.at_]
  rw[hb]at hs
  simp only at hs⊢
  rw[h.size]
  exact hs
 ·rw[Iz (h.others x e)]
  exact hs
theorem Mem.upd(hM:Mem c E){r b:Nat}{R R':Root}{w:World}{cs cs':Array Value}{t:TypeId}{fr fr0:Nat×Nat}(hp:E.pres r)(hr:E.rt r=some R)(hd:R≠.dead)(hk:R'.kind=R.kind)
  (hb:E.β r=some b)(hns:¬E.S b)(hblk:E.w.heap[b]? =some (.cells cs t fr0))(hw:Wrote E.w w b cs cs' t fr)(hroot:RootRel (E.upd r R' w) r R'):Mem c (E.upd r R' w)∧Step E (E.upd r R' w):=by
 have hd':R'≠.dead:=by
  rintro rfl
  cases R<;>simp[Root.kind]at hk
  exact hd rfl
 have st:Step E (E.upd r R' w):=Step.upd hr (.inr hk) (fun x hx=>hw.others x (fun e=>hns (e▸hx))) (hw.shape hblk)
 have live:∀x R0,(E.upd r R' w).rt x=some R0→R0≠.dead→∃R1,E.rt x=some R1∧R1≠.dead:=by
  intro x R0 hx hR0
  by_cases e:x=r
  ·subst e;exact⟨R,hr,hd⟩
  ·exact⟨R0,by simpa[Env.upd,e]using hx,hR0⟩
 refine⟨?_,st⟩
 exact{
  os:=hw.os.trans hM.os
  output:=hw.output.trans hM.output
  tape:=hw.tape.trans hM.tape
  size:=by show _≤w.heap.size;rw[hw.hsize];exact hM.size
  keep:=by
   intro x hx ho
   have hne:x≠b:=by
    rintro rfl
    rcases hM.bown r R x hp hr hd hb with h|h
    ·omega
    ·exact ho h
   exact(hw.others x hne).trans (hM.keep x hx ho)
  shape:=fun x s hs=>hw.shape hblk x s (hM.shape x s hs)
  s0:=hM.s0
  slt:=by intro x hx;show x<w.heap.size;rw[hw.hsize];exact hM.slt x hx
  glob:=Globs.step (fun _ h=>h) (fun x hx=>hw.others x (fun e=>hns (e▸hx))) hM.glob
  snew:=hM.snew
  blt:=by intro x y hx hy;show y<w.heap.size;rw[hw.hsize];exact hM.blt x y hx hy
  bown:=by
   intro x R0 y hx hR0 aa hy
   obtain⟨R1,h1,h2⟩:=live x R0 hR0 aa
   exact hM.bown x R1 y hx h1 h2 hy
  bkeep:=by
   intro x R0 hlt hx hR0 aa
   obtain⟨R1,h1,h2⟩:=live x R0 hR0 aa
   exact hM.bkeep x R1 hlt hx h1 h2
  inj:=by
   intro x y R0 R1 z hx hy hR0 aa hR1 ab hz hz'
   obtain⟨R2,h1,h2⟩:=live x R0 hR0 aa
   obtain⟨R3,h3,h4⟩:=live y R1 hR1 ab
   exact hM.inj x y R2 R3 z hx hy h1 h2 h3 h4 hz hz'
  roots:=by
   intro x R0 hx hR0
   by_cases e:x=r
   ·subst e
    have:R'=R0:=by simpa[Env.upd]using hR0
    subst this
    exact hroot
   ·have hR0':E.rt x=some R0:=by simpa[Env.upd,e]using hR0
    by_cases hdd:R0= .dead
    ·subst hdd;trivial
    ·refine(hM.roots x R0 hx hR0').step st hx ?_ (fun _ _ h=>h)
     intro y hy
     refine hw.others y ?_
     rintro rfl
     exact e (hM.inj x r R0 R y hx hp hR0' hdd hr hd hy hb)}
def Kt{α:Type}(l:List α)(j:Nat)(ys:List α):List α:=l.take j++(ys++l.drop (j+ys.length))
theorem Xbk{α:Type}{l ys:List α}{j:Nat}(h:j+ys.length≤l.length):(Kt l j ys).length=l.length:=by
 simp[Kt];omega
theorem XbA{α:Type}{l ys:List α}{j i:Nat}(h:j+ys.length≤l.length):(Kt l j ys)[i]? =if j≤i∧i<j+ys.length then ys[i - j]? else l[i]? :=by
 unfold Kt
 have e1:(l.take j).length=j:=by simp;omega
 by_cases h1:i<j
 ·rw[if_neg (by omega),List.getElem?_append_left (by omega),List.getElem?_take,if_pos h1]
 ·rw[List.getElem?_append_right (by omega),e1]
  by_cases h2:i<j+ys.length
  ·rw[if_pos ⟨by omega,h2⟩,List.getElem?_append_left (by omega)]
  ·rw[if_neg (by omega),List.getElem?_append_right (by omega),List.getElem?_drop]
   congr 1
   omega
def F2(rt:Nat→Option Root)(n:Nat)(p x:AV):Option (Nat×Root):=
 match p with
 | .ptr r i j=>
   match rt r with
   |some (.box ty l)=>x.leaves.bind fun ys=>if i=0∧ys.length=n∧j+ys.length≤l.length then some (r,.box ty (Kt l j ys))else none
   |some (.row sz false xs)=>x.leaves.bind fun ys=>(Xct rt ys).bind fun ds=>(xs[i]?).bind fun y=>if ds.length=n∧j+ds.length≤y.length then some (r,.row sz false (xs.set i (Kt y j ds)))else none
   |_=>none
 |_=>none
theorem V1{w:World}{t n b o:Nat}{v:Value}{cs:Array Value}{ty:TypeId}{fr:Nat×Nat}(hs:szT P t=some n)(hn:v.cells.size=n)(hb:w.heap[b]? =some (.cells cs ty fr))(hle:o+v.cells.size≤cs.size)
  (hf:I1 cs.size fr)(h1:∀u∈v.cells,u.oneCell'=true):(Instr.storeAt t (.pointer (some ⟨b,o,none⟩)) v).run P w= .ok () (w.setCells b o v.cells.toList):=by
 have hst:=run_storeCells_cells (P:=P) b o v.cells.toList 0 w (by
   intro j hj
   simp at hj
   have:o+j<cs.size:=by omega
   simp[World.cell?,hb,this])
  (by
   intro j hj
   simp at hj
   have hlt:o+j<cs.size:=by omega
   have:=hf (o+j) hlt
   simp only[World.frozen?,Nat.add_zero,hb]
   obtain⟨lo,hi⟩:=fr
   simp only at this⊢
   simp only[Bool.and_eq_false_iff,decide_eq_false_iff_not]
   by_cases h:lo≤o+j
   ·right;exact fun h'=>this ⟨h,h'⟩
   ·left;exact h) (by simpa using h1)
 simp[Instr.storeAt,Instr.sureAddr,storeVar,Cz hs,hn,hst]
theorem Zv(hM:Mem c E){t n:Nat}{p x:AV}{vp vx:Value}{r:Nat}{R':Root}(hs:szT P t=some n)(hp:RelAV E p vp)(hx:RelAV E x vx)(h:F2 E.rt n p x=some (r,R')):
  ∃w',(Instr.storeAt t vp vx).run P E.w= .ok () w'∧w'.heap.size=E.w.heap.size∧Mem c (E.upd r R' w')∧Step E (E.upd r R' w'):=by
 cases hp with
 |ptr r0 i j R b h1 h2 h3=>
  have hroot:=hM.roots r0 R h2 h1
  cases R with
  |dead=>simp[F2,h1]at h
  |buf=>simp[F2,h1]at h
  |map=>simp[F2,h1]at h
  |box ty l=>
   simp only[F2,h1]at h
   obtain⟨ys,hys,h'⟩:=Option.bind_eq_some_iff.1 h
   clear h
   by_cases hc:i=0∧ys.length=n∧j+ys.length≤l.length
   ·rw[if_pos hc]at h'
    obtain⟨ac,hn,hle⟩:=hc
    simp only[Option.some.injEq,Prod.mk.injEq]at h'
    obtain⟨rfl,rfl⟩:=h'
    subst ac
    obtain⟨hsz,hcell⟩:=Jv hx hys
    obtain⟨b',cs,fr,hb,hh,hcs,hl,hnS,hfr⟩:=hroot
    rw[h3]at hb
    obtain rfl:=Option.some.inj hb
    have hone:∀u∈vx.cells,u.oneCell'=true:=by
     intro u hu
     obtain⟨k,hk,rfl⟩:=Array.mem_iff_getElem.1 hu
     obtain⟨u',hu',ho,_⟩:=hcell k ys[k] (by simp[show k<ys.length by omega])
     rw[Array.getElem?_eq_getElem hk]at hu'
     rw[Option.some.inj hu'];exact ho
    have hrun:=V1 (P:=P) (w:=E.w) (t:=t) (b:=b) (o:=j) (v:=vx) hs (by omega) hh (by omega) hfr hone
    obtain⟨cs',hw,hget⟩:=Dd b ty fr vx.cells.toList j E.w cs hh (by simp;omega)
    refine⟨_,by simpa[Root.kind,Kind.sz]using hrun,hw.hsize,?_⟩
    refine hM.upd (R:=.box ty l) (R':=.box ty (Kt l j ys)) (cs':=cs') h2 h1 (by simp) rfl h3 hnS hh hw ?_
    have st:Step E (E.upd r0 (.box ty (Kt l j ys)) (E.w.setCells b j vx.cells.toList)):=Step.upd h1 (.inr rfl) (fun x hx=>hw.others x (fun e=>hnS (e▸hx))) (hw.shape hh)
    refine⟨b,cs',fr,h3,hw.at_,by rw[hw.size,hcs,Xbk hle],?_,hnS,by rw[hw.size];exact hfr⟩
    intro k y hy
    rw[XbA hle]at hy
    rw[hget k]
    simp only[Array.length_toList,hsz]
    split at hy
    ·rename_i hk
     rw[if_pos hk]
     obtain⟨u,hu,ho,hr⟩:=hcell _ y hy
     exact⟨u,by simpa using hu,ho,hr.step st⟩
    ·rename_i hk
     rw[if_neg hk]
     obtain⟨u,hu,ho,hr⟩:=hl _ y hy
     exact⟨u,hu,ho,hr.step st⟩
   ·rw[if_neg hc]at h';cases h'
  |row sz fz xs=>
   cases fz with
   |true=>simp[F2,h1]at h
   |false=>
    simp only[F2,h1]at h
    obtain⟨ys,hys,h⟩:=Option.bind_eq_some_iff.1 h
    obtain⟨ds,hds,h⟩:=Option.bind_eq_some_iff.1 h
    obtain⟨y0,ab,h⟩:=Option.bind_eq_some_iff.1 h
    split at h
    ·rename_i hc
     obtain⟨hn,hle⟩:=hc
     simp only[Option.some.injEq,Prod.mk.injEq]at h
     obtain⟨rfl,rfl⟩:=h
     have htell:Rw (RelD E.w E.S) ds vx.cells:=Sl hM (Jv hx hys) hds
     obtain⟨hsz,hcell⟩:=htell
     rcases hroot with⟨hb,_⟩|⟨b',cs,ty,fr,hb,hh,hlen,hcsz,hcs,hfz⟩
     ·rw[h3]at hb;cases hb
     ·rw[h3]at hb
      obtain rfl:=Option.some.inj hb
      rcases hfz with⟨hf,_⟩|⟨_,hnS,hfr⟩
      ·cases hf
      ·have hi:i<xs.length:=(List.getElem?_eq_some_iff.1 ab).1
       have aa:y0.length=sz:=hlen i y0 ab
       have hmul:i*sz+sz≤cs.size:=by
        calc i*sz+sz=(i+1)*sz:=by rw[Nat.succ_mul]
         _≤xs.length*sz:=Nat.mul_le_mul_right _ hi
         _≤cs.size:=hcsz
       have hone:∀u∈vx.cells,u.oneCell'=true:=by
        intro u hu
        obtain⟨k,hk,rfl⟩:=Array.mem_iff_getElem.1 hu
        obtain⟨u',hu',ho,_⟩:=hcell k ds[k] (by simp[show k<ds.length by omega])
        rw[Array.getElem?_eq_getElem hk]at hu'
        rw[Option.some.inj hu'];exact ho
       have hrun:=V1 (P:=P) (w:=E.w) (t:=t) (b:=b) (o:=i*sz+j) (v:=vx) hs (by omega) hh (by omega) hfr.1 hone
       obtain⟨cs',hw,hget⟩:=Dd b ty fr vx.cells.toList (i*sz+j) E.w cs hh (by simp;omega)
       refine⟨_,by simpa[Root.kind,Kind.sz]using hrun,hw.hsize,?_⟩
       refine hM.upd (R:=.row sz false xs) (R':=.row sz false (xs.set i (Kt y0 j ds))) (cs':=cs') h2 h1 (by simp) rfl h3 hnS hh hw ?_
       have st:Step E (E.upd r0 (.row sz false (xs.set i (Kt y0 j ds))) (E.w.setCells b (i*sz+j) vx.cells.toList)):=Step.upd h1 (.inr rfl) (fun x hx=>hw.others x (fun e=>hnS (e▸hx))) (hw.shape hh)
       refine .inr ⟨b,cs',ty,fr,h3,hw.at_,?_,by rw[hw.size];simpa using hcsz,?_,.inr ⟨rfl,hnS,by rw[hw.size];exact hfr⟩⟩
       ·intro a x hx
        rw[List.getElem?_set]at hx
        split at hx
        ·try rw[if_pos hi]at hx
         rw[←Option.some.inj hx,Xbk hle,aa]
        ·exact hlen a x hx
       ·intro a x k y hx hy
        rw[hget]
        simp only[Array.length_toList,hsz]
        rw[List.getElem?_set]at hx
        split at hx
        ·rename_i e
         subst e
         try rw[if_pos hi]at hx
         obtain rfl:=Option.some.inj hx
         rw[XbA hle]at hy
         split at hy
         ·rename_i hk
          rw[if_pos (by omega)]
          obtain⟨u,hu,ho,hr⟩:=hcell _ y hy
          refine⟨u,?_,hr.step st.S st.heap⟩
          rw[show i*sz+k - (i*sz+j)=k - j by omega]
          simpa using hu
         ·rename_i hk
          have hk':k<sz:=by rw[←aa];exact(List.getElem?_eq_some_iff.1 hy).1
          rw[if_neg (by omega)]
          obtain⟨u,hu,hr⟩:=hcs i y0 k y ab hy
          exact⟨u,hu,hr.step st.S st.heap⟩
        ·rename_i e
         have hk':k<sz:=by rw[←hlen a x hx];exact(List.getElem?_eq_some_iff.1 hy).1
         have hne:¬(i*sz+j≤a*sz+k∧a*sz+k<i*sz+j+ds.length):=by
          rintro⟨h2',h3'⟩
          rcases Nat.lt_or_gt_of_ne e with hlt|hlt
          ·have:i*sz+sz≤a*sz:=by
            calc i*sz+sz=(i+1)*sz:=by rw[Nat.succ_mul]
             _≤a*sz:=Nat.mul_le_mul_right _ hlt
           omega
          ·have:a*sz+sz≤i*sz:=by
            calc a*sz+sz=(a+1)*sz:=by rw[Nat.succ_mul]
             _≤i*sz:=Nat.mul_le_mul_right _ hlt
           omega
         rw[if_neg hne]
         obtain⟨u,hu,hr⟩:=hcs a x k y hx hy
         exact⟨u,hu,hr.step st.S st.heap⟩
    ·cases h
 |_=>first|(simp[F2]at h;done)|(rename_i h1 _;simp[F2,h1]at h)
end
open Go
def Env.kill(E:Env)(r:Nat):Env:={E with rt:=fun x=>if x=r then some .dead else E.rt x}
def Env.adopt(E:Env)(r b:Nat)(w:World):Env:={E with pres:=addP E.pres r,β:=XfL E.β r (some b),w:=w}
section
variable {P:Program} {c:Ctx} {E:Env}
theorem Ps{r x:Nat}{R:Root}(h:(E.kill r).rt x=some R)(hd:R≠.dead):x≠r∧E.rt x=some R:=by
 by_cases e:x=r
 ·subst e
  have:Root.dead=R:=by simpa[Env.kill]using h
  exact absurd this.symm hd
 ·exact⟨e,by simpa[Env.kill,e]using h⟩
theorem Step.kill{r:Nat}{R:Root}(hr:E.rt r=some R):Step E (E.kill r) where
 rt:=by
  intro x R0 h
  by_cases e:x=r
  ·subst e;exact⟨.dead,by simp[Env.kill],.inl rfl⟩
  ·exact⟨R0,by simp[Env.kill,e,h],.inr rfl⟩
 pres:=fun _ h=>h
 β:=fun _ _=>rfl
 S:=fun _ h=>h
 heap:=fun _ _=>rfl
 shape:=fun _ _ h=>h
theorem Mem.kill(hM:Mem c E){r:Nat}{R:Root}(hr:E.rt r=some R):Mem c (E.kill r) where
 os:=hM.os
 output:=hM.output
 tape:=hM.tape
 size:=hM.size
 keep:=hM.keep
 shape:=hM.shape
 s0:=hM.s0
 slt:=hM.slt
 glob:=hM.glob
 snew:=hM.snew
 blt:=hM.blt
 bown:=fun x R0 b hx hR hd hb=>hM.bown x R0 b hx (Ps hR hd).2 hd hb
 bkeep:=fun x R0 hlt hx hR hd=>hM.bkeep x R0 hlt hx (Ps hR hd).2 hd
 inj:=fun x y R0 R1 b hx hy hR hd hR' hd' hb hb'=>hM.inj x y R0 R1 b hx hy (Ps hR hd).2 hd (Ps hR' hd').2 hd' hb hb'
 roots:=by
  intro x R0 hx hR
  by_cases hd:R0= .dead
  ·subst hd;trivial
  ·exact(hM.roots x R0 hx (Ps hR hd).2).step (Step.kill hr) hx (fun _ _=>rfl) (fun _ _ h=>h)
theorem Step.adopt{r b:Nat}{w:World}{cs cs':Array Value}{t:TypeId}{fr:Nat×Nat}(hp:¬E.pres r)(hns:¬E.S b)(hblk:E.w.heap[b]? =some (.cells cs t fr))(hw:Wrote E.w w b cs cs' t fr):Step E (E.adopt r b w) where
 rt:=fun x R h=>⟨R,h,.inr rfl⟩
 pres:=fun x h=>.inl h
 β:=fun x h=>G2 (fun e=>hp (e▸h))
 S:=fun _ h=>h
 heap:=fun x hx=>hw.others x (fun e=>hns (e▸hx))
 shape:=hw.shape hblk
theorem Mem.adopt(hM:Mem c E){r b:Nat}{R0:Root}{w:World}{cs cs':Array Value}{t:TypeId}{fr:Nat×Nat}(hr:E.rt r=some R0)(hp:¬E.pres r)(hm:c.m≤r)(hns:¬E.S b)
  (hfree:∀x R,E.pres x→E.rt x=some R→R≠.dead→E.β x≠some b)(ho:c.w0.heap.size≤b∨c.own b)(hblk:E.w.heap[b]? =some (.cells cs t fr))(hw:Wrote E.w w b cs cs' t fr)
  (hroot:RootRel (E.adopt r b w) r R0):Mem c (E.adopt r b w):=by
 have st:Step E (E.adopt r b w):=Step.adopt hp hns hblk hw
 have hne:∀{x y},(E.adopt r b w).pres x→x≠r→(E.adopt r b w).β x=some y→E.pres x∧E.β x=some y:=by
  intro x y hx e hy
  exact⟨hx.resolve_right e,by rwa[show(E.adopt r b w).β x=E.β x from G2 e]at hy⟩
 have self:(E.adopt r b w).β r=some b:=Ea _ _ _
 have hblt:b<E.w.heap.size:=(Array.getElem?_eq_some_iff.1 hblk).1
 exact{
  os:=hw.os.trans hM.os
  output:=hw.output.trans hM.output
  tape:=hw.tape.trans hM.tape
  size:=by show _≤w.heap.size;rw[hw.hsize];exact hM.size
  keep:=by
   intro x hx hox
   have hne:x≠b:=by
    rintro rfl
    rcases ho with h|h
    ·omega
    ·exact hox h
   exact(hw.others x hne).trans (hM.keep x hx hox)
  shape:=fun x s hs=>hw.shape hblk x s (hM.shape x s hs)
  s0:=hM.s0
  slt:=by intro x hx;show x<w.heap.size;rw[hw.hsize];exact hM.slt x hx
  glob:=Globs.step st.S st.heap hM.glob
  snew:=hM.snew
  blt:=by
   intro x y hx hy
   show y<w.heap.size
   rw[hw.hsize]
   by_cases e:x=r
   ·subst e;rw[self]at hy;rw[←Option.some.inj hy];exact hblt
   ·exact hM.blt x y (hne hx e hy).1 (hne hx e hy).2
  bown:=by
   intro x R y hx hR hd hy
   by_cases e:x=r
   ·subst e;rw[self]at hy;rw[←Option.some.inj hy];exact ho
   ·exact hM.bown x R y (hne hx e hy).1 hR hd (hne hx e hy).2
  bkeep:=by
   intro x R hlt hx hR hd
   have e:x≠r:=by omega
   rw[show(E.adopt r b w).β x=E.β x from G2 e]
   exact hM.bkeep x R hlt (hx.resolve_right e) hR hd
  inj:=by
   intro x y R R' z hx hy hR hd hR' hd' hz hz'
   by_cases ex:x=r<;>by_cases ey:y=r
   ·rw[ex,ey]
   ·subst ex
    rw[self]at hz
    obtain rfl:=Option.some.inj hz
    exact absurd (hne hy ey hz').2 (hfree y R' (hne hy ey hz').1 hR' hd')
   ·subst ey
    rw[self]at hz'
    obtain rfl:=Option.some.inj hz'
    exact absurd (hne hx ex hz).2 (hfree x R (hne hx ex hz).1 hR hd)
   ·exact hM.inj x y R R' z (hne hx ex hz).1 (hne hy ey hz').1 hR hd hR' hd' (hne hx ex hz).2 (hne hy ey hz').2
  roots:=by
   intro x R hx hR
   by_cases e:x=r
   ·subst e
    have h2:E.rt x=some R:=hR
    rw[hr]at h2
    rw[←Option.some.inj h2]
    exact hroot
   ·have hx':=hx.resolve_right e
    by_cases hd:R= .dead
    ·subst hd;trivial
    ·refine(hM.roots x R hx' hR).step st hx' ?_ (fun _ _ h=>h)
     intro y hy
     refine hw.others y ?_
     rintro rfl
     exact hfree x R hx' hR hd hy}
def strRow(s:ByteArray):List (List D):=s.data.toList.map fun b=>[.sc (.int .u8 b.toNat)]
def AV.src(rt:Nat→Option Root):AV→Option (Nat×List (List D))
 | .d (.sc (.string s))=>some (1,strRow s)
 |x=>x.view rt
def Dz(rt:Nat→Option Root)(nb:Nat)(el:Option (Nat×Nat))(s x:AV):Option (AV×List Root×Nat):=
 match s with
 | .ref r off len=>
   match rt r with
   |some (.row sz false xs)=>
    (x.src rt).bind fun(sz',ys)=>el.bind fun(n,bytes)=>
     if off=0∧len=xs.length∧sz'=sz∧n=sz∧(2*(xs.length+ys.length)+1024)*bytes≤2^48∧xs.length+ys.length<2^62 then
      some (.ref nb 0 (xs.length+ys.length),[.row sz false (xs++ys)],r)
     else none
   |_=>none
 |_=>none
theorem XbE(n:Nat):∀(k c:Nat),c≤2*n+1024→Builtin.growBy n k c≤2*n+1024
 |0,c,h=>h
 |k+1,c,h=>by
  unfold Builtin.growBy
  split
  ·exact h
  ·exact XbE n k _ (by omega)
theorem Yk{n c:Nat}(h:c<n):Builtin.nextslicecap n c≤2*n+1024:=by
 unfold Builtin.nextslicecap
 split
 ·omega
 ·split
  ·omega
  ·exact XbE n 4 c (by omega)
theorem L4(hM:Mem c E){x:AV}{v:Value}{sz:Nat}{ys:List (List D)}(hx:RelAV E x v)(h:x.src E.rt=some (sz,ys)):
  ∃cs:List Value,(Builtin.lenOf v).run P E.w= .ok ys.length E.w∧(Builtin.firstCells sz ys.length v).run P E.w= .ok cs.toArray E.w∧cs.length=ys.length*sz∧(∀(i:Nat) y,ys[i]? =some y→y.length=sz)∧
   (∀u∈cs,u.oneCell'=true)∧∀(i:Nat) y (j:Nat) z,ys[i]? =some y→y[j]? =some z→∃u,cs[i*sz+j]? =some u∧RelD E.w E.S z u:=by
 have viaView:x.view E.rt=some (sz,ys)→∃cs:List Value,(Builtin.lenOf v).run P E.w= .ok ys.length E.w∧(Builtin.firstCells sz ys.length v).run P E.w= .ok cs.toArray E.w∧cs.length=ys.length*sz∧(∀(i:Nat) y,ys[i]? =some y→y.length=sz)∧
   (∀u∈cs,u.oneCell'=true)∧∀(i:Nat) y (j:Nat) z,ys[i]? =some y→y[j]? =some z→∃u,cs[i*sz+j]? =some u∧RelD E.w E.S z u:=by
  intro hv
  obtain⟨a,cap,rfl,hcap,hlen,hcell⟩:=X8 hM hx hv
  by_cases hne:ys=[]
  ·subst hne
   refine⟨[],by simp[Builtin.lenOf],?_,by simp,by simp,by simp,by simp⟩
   cases a<;>simp[Builtin.firstCells,loadCells,loadCellsFrom]
  ·obtain⟨b,o,rfl,hb,hc⟩:=hcell hne
   have hall:∀k,k<ys.length*sz→∃u,E.w.cell? ⟨b,o+k,none⟩=some u∧u.oneCell'=true:=by
    intro k hk
    have hsz:0<sz:=by
     rcases Nat.eq_zero_or_pos sz with h|h
     ·subst h;simp at hk
     ·exact h
    have hi:k/sz<ys.length:=(Nat.div_lt_iff_lt_mul hsz).2 hk
    have hj:k% sz<sz:=Nat.mod_lt _ hsz
    have hy:ys[k/sz]? =some ys[k/sz]:=by simp[hi]
    have hyl:=hlen _ _ hy
    obtain⟨u,hu,hr⟩:=hc (k/sz) ys[k/sz] (k% sz) (ys[k/sz])[k% sz] hy (by simp[hyl,hj])
    refine⟨u,?_,hr.one⟩
    have e:k/sz*sz+k% sz=k:=by rw[Nat.mul_comm];exact Nat.div_add_mod k sz
    rwa[Nat.add_assoc,e]at hu
   let f:Nat→Value:=fun k=>(E.w.cell? ⟨b,o+k,none⟩).getD undef
   have hf:∀k,k<ys.length*sz→E.w.cell? ⟨b,o+k,none⟩=some (f k):=by
    intro k hk
    obtain⟨u,hu,_⟩:=hall k hk
    simp[f,hu]
   refine⟨(List.range (ys.length*sz)).map f,by simp[Builtin.lenOf],?_,by simp,hlen,?_,?_⟩
   ·have:=run_loadCells (P:=P) E.w ⟨b,o,none⟩ (ys.length*sz) f (fun j hj=>by rw[He];exact hf j hj)
    simp[Builtin.firstCells,this]
   ·intro u hu
    simp only[List.mem_map,List.mem_range]at hu
    obtain⟨k,hk,rfl⟩:=hu
    obtain⟨u,hu,ho⟩:=hall k hk
    have:=hf k hk
    rw[hu]at this
    rw[←Option.some.inj this];exact ho
   ·intro i y j z hy hz
    obtain⟨u,hu,hr⟩:=hc i y j z hy hz
    have hi:i<ys.length:=(List.getElem?_eq_some_iff.1 hy).1
    have hj:j<sz:=by rw[←hlen i y hy];exact(List.getElem?_eq_some_iff.1 hz).1
    have hlt:i*sz+j<ys.length*sz:=by
     calc i*sz+j<i*sz+sz:=by omega
      _=(i+1)*sz:=by rw[Nat.succ_mul]
      _≤ys.length*sz:=Nat.mul_le_mul_right _ hi
    refine⟨u,?_,hr⟩
    have:=hf _ hlt
    rw[←Nat.add_assoc,hu]at this
    simp[hlt,←Option.some.inj this]
 unfold AV.src at h
 split at h
 ·rename_i s
  simp only[Option.some.injEq,Prod.mk.injEq]at h
  obtain⟨rfl,rfl⟩:=h
  cases hx with
  |d _ _ h'=>
   cases h' with
   |sc=>
    have hsl:(strRow s).length=s.size:=by simp[strRow]
    refine⟨s.data.toList.map fun b=>.int .u8 b.toNat,by simp[Builtin.lenOf,hsl],?_,by simp[strRow],?_,?_,?_⟩
    ·rw[hsl]
     simp only[Builtin.firstCells]
     have:s.extract 0 s.size=s:=by
      apply ByteArray.ext
      simp[ByteArray.data_extract]
     rw[this]
     simp only[Sem.run_pure]
     congr 1
     apply Array.ext'
     simp
    ·intro i y hy
     simp only[strRow,List.getElem?_map]at hy
     obtain⟨b,_,rfl⟩:=Option.map_eq_some_iff.1 hy
     rfl
    ·intro u hu
     simp only[List.mem_map]at hu
     obtain⟨b,_,rfl⟩:=hu
     rfl
    ·intro i y j z hy hz
     simp only[strRow,List.getElem?_map]at hy
     obtain⟨b,hb,rfl⟩:=Option.map_eq_some_iff.1 hy
     cases j with
     |succ j=>simp at hz
     |zero=>
      simp at hz
      subst hz
      exact⟨.int .u8 b.toNat,by simp[hb],.sc _ rfl⟩
 ·exact viaView h
end
open Go
section
variable {P:Program} {c:Ctx} {E:Env}
theorem M6{w:World}{t xT ty e n len cap k:Nat}{base:Option Addr}{vx:Value}{cs:List Value}(hu:P.underlying t=some (.slice e))(hn:szT P e=some n)
  (hx:(∃e',P.underlying xT=some (.slice e'))∨P.underlying xT=some .string)
  (hl:(Builtin.lenOf vx).run P w= .ok k w)(hf:(Builtin.firstCells n k vx).run P w= .ok cs.toArray w)(hle:len+k≤cap):
  (Builtin.append_ #[t,xT] ty #[.slice base len cap,vx]).run P w=
   (match base with
   |some a=>((storeCells (a.add (len*n)) cs).run P w).andThen fun _ w'=>.ok (.slice base (len+k) cap) w'
   |none=>.ok (.slice base (len+k) cap) w):=by
 rcases hx with⟨e',hx⟩|hx<;>cases base<;>simp[Builtin.append_,run_underlying hu,run_underlying hx,Cz hn,hl,hf,hle]
theorem Sm{w:World}{t xT ty e n len cap k:Nat}{base:Option Addr}{vx:Value}{cs os:List Value}{i:TypeInfo}{z:Value}(hu:P.underlying t=some (.slice e))(hi:P.info? e=some i)(hn:i.size=n)
  (hx:(∃e',P.underlying xT=some (.slice e'))∨P.underlying xT=some .string)
  (hz:i.zero=some z)(hl:(Builtin.lenOf vx).run P w= .ok k w)(hf:(Builtin.firstCells n k vx).run P w.drew= .ok cs.toArray w.drew)
  (ho:(Builtin.firstCells n len (.slice base len cap)).run P w.drew= .ok os.toArray w.drew)(hgt:cap<len+k)
  (h48:Builtin.nextslicecap (len+k) cap*i.bytes≤281474976710656)(h63:((len+k:Nat):Int)≤9223372036854775807):
  (Builtin.append_ #[t,xT] ty #[.slice base len cap,vx]).run P w=
   .ok (.slice (some ⟨w.heap.size,0,none⟩) (len+k) (grownCap w (len+k) cap e)) (w.drew.alloc (.cells (os.toArray++(cs.toArray++Builtin.zeroCells z.cells (grownCap w (len+k) cap e - (len+k)))) e)):=by
 subst hn
 have hs:szT P e=some i.size:=by simp[szT,hi]
 have h1:¬(len+k≤cap):=by omega
 have h63':¬(9223372036854775807<((len:Int)+(k:Int))):=by omega
 have h48':¬(281474976710656<Builtin.nextslicecap (len+k) cap*i.bytes):=by omega
 rcases hx with⟨e',hx⟩|hx<;>
  simp[Builtin.append_,run_underlying hu,run_underlying hx,sizeOf,typeInfo,zeroValue,hi,hz,hl,h1,h63',h48',Question.forced,hf,ho,newRow,grownCap]
def Env.drew(E:Env):Env:={E with w:=E.w.drew}
theorem Step.drew(E:Env):Step E E.drew:=⟨fun _ R h=>⟨R,h,.inr rfl⟩,fun _ h=>h,fun _ _=>rfl,fun _ h=>h,fun _ _=>rfl,fun _ _ h=>h⟩
theorem Mem.drew(hM:Mem c E):Mem c E.drew:=
 {os:=hM.os,output:=hM.output,tape:=hM.tape,size:=hM.size,keep:=hM.keep,shape:=hM.shape,s0:=hM.s0,slt:=hM.slt,snew:=hM.snew,glob:=Globs.step (w:=E.w) (S:=E.S) (fun _ h=>h) (fun b _=>(show E.w.drew.heap[b]? =E.w.heap[b]? from rfl)) hM.glob,blt:=hM.blt,bown:=hM.bown,bkeep:=hM.bkeep,inj:=hM.inj
  roots:=fun r R hp hr=>(hM.roots r R hp hr).step (Step.drew E) hp (fun _ _=>rfl) (fun _ _ h=>h)}
theorem XgD{y:D}{u:Value}(h:RelD E.drew.w E.drew.S y u):RelD E.w E.S y u:=
 RelD.step (w:=E.drew.w) (w':=E.w) (S:=E.drew.S) (S':=E.S) (fun _ h=>h) (fun b _=>(show E.w.heap[b]? =E.drew.w.heap[b]? from rfl)) h
structure Appended (c:Ctx) (E:Env) (nb r:Nat) (E':Env):Prop where
 mem:Mem c E'
 step:Step E E'
 rt:E'.rt=(E.kill r).rt
 pres:∀x,E'.pres x↔E.pres x∨x=nb
 S:E'.S=E.S
 size:E.w.heap.size≤E'.w.heap.size
theorem Gy{fr:Nat×Nat}{w:World}{b o:Nat}{cs:Array Value}{t:TypeId}(h:w.heap[b]? =some (.cells cs t fr))(hf:I1 cs.size fr)(ho:o<cs.size):w.frozen? ⟨b,o,none⟩=false:=by
 have:=hf o ho
 simp only[World.frozen?,h]
 obtain⟨lo,hi⟩:=fr
 simp only at this⊢
 simp only[Bool.and_eq_false_iff,decide_eq_false_iff_not]
 by_cases h':lo≤o
 ·right;exact fun h2=>this ⟨h',h2⟩
 ·left;exact h'
theorem Xjr{t:TypeId}(h:(ezT P t).isSome=true):∃e i z zs,P.underlying t=some (.slice e)∧P.info? e=some i∧i.zero=some z∧Kd P e=some zs∧i.size=zs.length∧z.cells.size=i.size:=by
 unfold ezT at h
 split at h
 ·rename_i e hu
  cases hzs:Kd P e with
  |none=>simp[hzs]at h
  |some zs=>
   cases hi:P.info? e with
   |none=>simp[hzs,hi]at h
   |some i=>
    simp only[hzs,hi,Option.bind_some]at h
    split at h
    ·rename_i hsz
     obtain⟨z,hrun,hcells,_,i',hi',hz⟩:=Fh (P:=P) (w:=default) hzs
     rw[hi]at hi'
     obtain rfl:=Option.some.inj hi'
     exact⟨e,i,z,zs,hu,hi,hz,hzs,hsz,by rw[←Array.length_toList,hcells,hsz];simp⟩
    ·simp at h
 ·simp at h
theorem G6(z:Array Value)(n:Nat):(Builtin.zeroCells z n).size=n*z.size:=by simp[Builtin.zeroCells]
theorem Td(hM:Mem c E){nb t xT ty r sz len cap e:Nat}{base:Option Addr}{xs ys:List (List D)}{vx:Value}{os cs:List Value}{i:TypeInfo}{z:Value}(hu:P.underlying t=some (.slice e))(hi:P.info? e=some i)
  (hsz:i.size=sz)(hx:(∃e',P.underlying xT=some (.slice e'))∨P.underlying xT=some .string)(hz:i.zero=some z)(hzs:z.cells.size=sz)(hl:(Builtin.lenOf vx).run P E.w= .ok ys.length E.w)
  (hf:(Builtin.firstCells sz ys.length vx).run P E.w.drew= .ok cs.toArray E.w.drew)(ho:(Builtin.firstCells sz len (.slice base len cap)).run P E.w.drew= .ok os.toArray E.w.drew)(hgt:cap<len+ys.length)
  (h48:(2*(len+ys.length)+1024)*i.bytes≤2^48)(h62:len+ys.length<2^62)(hlen:len=xs.length)(hr:E.rt r=some (.row sz false xs))(hp:E.pres r)
  (hos:os.length=xs.length*sz)(hcs:cs.length=ys.length*sz)(hxl:∀(k:Nat) x,xs[k]? =some x→x.length=sz)(hyl:∀(k:Nat) y,ys[k]? =some y→y.length=sz)
  (hxr:∀(k:Nat) x (j:Nat) y,xs[k]? =some x→x[j]? =some y→∃u,os[k*sz+j]? =some u∧RelD E.w E.S y u)(hyr:∀(k:Nat) x (j:Nat) y,ys[k]? =some x→x[j]? =some y→∃u,cs[k*sz+j]? =some u∧RelD E.w E.S y u)
  (hF:Fresh c E nb [.row sz false (xs++ys)]):
  ∃v E',(Builtin.append_ #[t,xT] ty #[.slice base len cap,vx]).run P E.w= .ok v E'.w∧Appended c E nb r E'∧RelAV E' (.ref nb 0 (xs.length+ys.length)) v∧(∀b',E'.β nb=some b'→E.β r=some b'∨∃n,E'.w.shape? b'=some (e,n)):=by
 have h48':Builtin.nextslicecap (len+ys.length) cap*i.bytes≤281474976710656:=by
  have:=Nat.mul_le_mul_right i.bytes (Yk hgt)
  omega
 have hrun:=Sm (P:=P) (w:=E.w) (t:=t) (xT:=xT) (ty:=ty) (base:=base) hu hi hsz hx hz hl hf ho hgt h48' (by omega)
 have hne:nb≠r:=by
  rintro rfl
  have:=hF.np 0 (by simp)
  simp at this
  exact this hp
 have hM1:Mem c (E.kill r).drew:=(hM.kill hr).drew
 have st1:Step E (E.kill r).drew:=(Step.kill hr).trans (Step.drew _)
 have hrt:(E.kill r).drew.rt nb=some (.row sz false (xs++ys)):=by
  have:=hF.rt 0 _ rfl
  simp only[Nat.add_zero]at this
  simpa[Env.drew,Env.kill,hne]using this
 have hnp:¬(E.kill r).drew.pres nb:=by
  show¬E.pres nb
  simpa using hF.np 0 (by simp)
 generalize hcap:grownCap E.w (len+ys.length) cap e=nc at*
 have hge:len+ys.length≤nc:=by rw[←hcap];simp[grownCap,Question.cut]
 have hsize:(os.toArray++(cs.toArray++Builtin.zeroCells z.cells (nc - (len+ys.length)))).size=nc*sz:=by
  simp only[Array.size_append,List.size_toArray,G6,hos,hcs,hzs]
  rw[←Nat.add_mul,←Nat.add_mul]
  congr 1
  omega
 obtain⟨q,hrel⟩:=Xgi hM1 (r:=nb) (sz:=sz) (xs:=xs++ys) (t:=e) (cs:=os.toArray++(cs.toArray++Builtin.zeroCells z.cells (nc - (len+ys.length)))) (fr:=(0,0)) hrt hnp hF.m (Grow.alloc _ _) ⟨Gx _,.inr rfl⟩
  (by
   intro k x hk
   by_cases hlt:k<xs.length
   ·rw[List.getElem?_append_left hlt]at hk;exact hxl k x hk
   ·rw[List.getElem?_append_right (by omega)]at hk;exact hyl _ x hk)
  (by rw[hsize,List.length_append];exact Nat.mul_le_mul_right _ (by omega))
  (by
   intro k x j y hk hy
   by_cases hlt:k<xs.length
   ·rw[List.getElem?_append_left hlt]at hk
    obtain⟨u,hu,hr⟩:=hxr k x j y hk hy
    refine⟨u,?_,hr.step st1.S st1.heap⟩
    rw[Array.getElem?_append_left (by simp;exact(List.getElem?_eq_some_iff.1 hu).1)]
    simpa using hu
   ·rw[List.getElem?_append_right (by omega)]at hk
    obtain⟨u,hu,hr⟩:=hyr _ x j y hk hy
    have hge2:os.length≤k*sz+j:=by
     rw[hos]
     have:=Nat.mul_le_mul_right sz (show xs.length≤k by omega)
     omega
    have he:k*sz+j - os.length=(k - xs.length)*sz+j:=by
     rw[hos,Nat.sub_mul]
     have:=Nat.mul_le_mul_right sz (show xs.length≤k by omega)
     omega
    refine⟨u,?_,hr.step st1.S st1.heap⟩
    rw[Array.getElem?_append_right (by simpa using hge2)]
    simp only[List.size_toArray,he]
    rw[Array.getElem?_append_left (by simp;exact(List.getElem?_eq_some_iff.1 hu).1)]
    simpa using hu)
 refine⟨_,_,hrun,⟨q.mem,st1.trans q.step,?_,?_,?_,?_⟩,?_,fun b' hb'=>.inr ⟨nc*sz,?_⟩⟩
 rotate_left 5
 ·have e0:=(Ea _ _ _).symm.trans hb'
  obtain rfl:=Option.some.inj e0
  have g:=(Grow.alloc E.w.drew (.cells (os.toArray++(cs.toArray++Builtin.zeroCells z.cells (nc - (len+ys.length)))) e)).new
  show World.shape? (E.w.drew.alloc _) E.w.drew.heap.size=_
  simp only[World.shape?,g,hsize]
 ·exact q.rt
 ·intro x
  rw[q.pres]
  constructor
  ·rintro(h|h)
   ·exact .inl h
   ·exact .inr (by omega)
  ·rintro(h|h)
   ·exact .inl h
   ·exact .inr (by omega)
 ·rfl
 ·exact q.size
 ·have:=hrel (len+ys.length) nc hge (by rw[hsize];exact Nat.le_refl _)
  rw[←hlen]
  exact this
theorem Pd(hM:Mem c E){nb t xT ty r:Nat}{s x av:AV}{vs vx:Value}{new:List Root}(hx:(∃e',P.underlying xT=some (.slice e'))∨P.underlying xT=some .string)(hz:(ezT P t).isSome=true)
  (hs:RelAV E s vs)(hxr:RelAV E x vx)(h:Dz E.rt nb (elT P t) s x=some (av,new,r))(hF:Fresh c E nb new):
  ∃v E',(Builtin.append_ #[t,xT] ty #[vs,vx]).run P E.w= .ok v E'.w∧Appended c E nb r E'∧RelAV E' av v∧(∀e',P.underlying t=some (.slice e')→∀b',E'.β nb=some b'→E.β r=some b'∨∃n,E'.w.shape? b'=some (e',n)):=by
 obtain⟨e,inf,z,zs,hu,hinf,hzero,_,_,hzc⟩:=Xjr hz
 cases hs with
 |dref r0 off len v h1 ho=>simp[Dz,h1]at h
 |refz r0 off R sz0 a h1 hk h2=>
  cases R with
  |buf=>simp[Dz,h1]at h
  |map=>simp[Dz,h1]at h
  |box=>simp[Root.kind]at hk
  |dead=>simp[Root.kind]at hk
  |row sz fz xs=>
   cases fz with
   |true=>simp[Dz,h1]at h
   |false=>
    simp only[Dz,h1]at h
    obtain⟨⟨sz',ys⟩,hsrc,h⟩:=Option.bind_eq_some_iff.1 h
    obtain⟨⟨n,bytes⟩,hel,h⟩:=Option.bind_eq_some_iff.1 h
    obtain⟨e',i',hu',hi',hsi,hby,hsze⟩:=La hel
    rw[hu]at hu'
    obtain rfl:e=e':=by simpa using hu'
    rw[hinf]at hi'
    obtain rfl:=Option.some.inj hi'
    simp only at h
    split at h
    ·rename_i hc
     obtain⟨_,hlen,aa,ab,h48,h62⟩:=hc
     subst aa ab hsi hby
     simp only[Option.some.injEq,Prod.mk.injEq]at h
     obtain⟨rfl,rfl,rfl⟩:=h
     have hnil:xs=[]:=List.eq_nil_of_length_eq_zero hlen.symm
     subst hnil
     obtain⟨cs,hl,hf,hcl,hyl,hone,hyr⟩:=L4 (P:=P) hM hxr hsrc
     by_cases ad:ys.length=0
     ·have ae:ys=[]:=List.eq_nil_of_length_eq_zero ad
      subst ae
      have hcs0:cs=[]:=List.eq_nil_of_length_eq_zero (by simpa using hcl)
      subst hcs0
      have hrun:=M6 (P:=P) (w:=E.w) (t:=t) (xT:=xT) (ty:=ty) (n:=inf.size) (len:=0) (cap:=0) (k:=0) (base:=a) (vx:=vx) (cs:=[]) hu hsze hx (by simpa using hl) (by simpa using hf) (by omega)
      have hne:nb≠r0:=by
       rintro rfl
       have:=hF.np 0 (by simp)
       simp at this
       exact this h2
      have hrt:(E.kill r0).rt nb=some (.row inf.size false []):=by
       have:=hF.rt 0 _ rfl
       simp only[Nat.add_zero]at this
       simpa[Env.kill,hne]using this
      have hnp:¬(E.kill r0).pres nb:=by
       show¬E.pres nb
       simpa using hF.np 0 (by simp)
      have q:=Quiet.nil (hM.kill h1) hrt hnp hF.m
      refine⟨.slice a 0 0,(E.kill r0).withNil nb,?_,⟨q.mem,(Step.kill h1).trans q.step,rfl,?_,rfl,Nat.le_refl _⟩,?_,fun e' _ b' hb'=>by cases(Ea _ _ _).symm.trans hb'⟩
      ·rw[hrun]
       cases a<;>simp[storeCells,Env.withNil,Env.kill]
      ·intro x
       exact Iff.rfl
      ·exact .refz nb 0 _ inf.size a hrt rfl (Or.inr rfl)
     ·obtain⟨cs,_,hfd,hcl,hyl,_,hyr'⟩:=L4 (P:=P) hM.drew (hxr.step (Step.drew E)) hsrc
      have hyr:∀(k:Nat) x (j:Nat) y,ys[k]? =some x→x[j]? =some y→∃u,cs[k*inf.size+j]? =some u∧RelD E.w E.S y u:=fun k x j y hk hy=>by
       obtain⟨u,hu,hr⟩:=hyr' k x j y hk hy
       exact⟨u,hu,XgD hr⟩
      have hod:(Builtin.firstCells inf.size 0 (.slice a 0 0)).run P E.w.drew= .ok ([]:List Value).toArray E.w.drew:=by
       cases a<;>simp[Builtin.firstCells,loadCells,loadCellsFrom]
      have:=Td (P:=P) hM (nb:=nb) (t:=t) (xT:=xT) (ty:=ty) (r:=r0) (sz:=inf.size) (len:=0) (cap:=0) (e:=e) (base:=a) (xs:=[]) (ys:=ys) (vx:=vx) (os:=[]) (cs:=cs) (i:=inf) (z:=z) hu hinf rfl hx hzero hzc hl hfd hod (by omega)
       (by simpa using h48) (by simpa using h62) rfl h1 h2 (by simp) hcl (by simp) hyl (by simp) hyr hF
      obtain⟨v,E',a1,a2,a3,a4⟩:=this
      exact⟨v,E',a1,a2,a3,fun e' he'=>by rw[hu]at he';obtain rfl:e=e':=by simpa using he'
                                         exact a4⟩
    ·cases h
 |ref r0 off len R sz0 b cap tt nn h1 hk h2 h3 h4 h5 h6=>
  cases R with
  |buf=>simp[Dz,h1]at h
  |map=>simp[Dz,h1]at h
  |box=>simp[Root.kind]at hk
  |dead=>simp[Root.kind]at hk
  |row sz fz xs=>
   simp only[Root.kind,Kind.row.injEq]at hk
   subst hk
   cases fz with
   |true=>simp[Dz,h1]at h
   |false=>
    simp only[Dz,h1]at h
    obtain⟨⟨sz',ys⟩,hsrc,hB⟩:=Option.bind_eq_some_iff.1 h
    clear h
    obtain⟨⟨n,bytes⟩,hel,hC⟩:=Option.bind_eq_some_iff.1 hB
    clear hB
    obtain⟨e',i',hu',hi',hsi,hby,hsze⟩:=La hel
    rw[hu]at hu'
    obtain rfl:e=e':=by simpa using hu'
    rw[hinf]at hi'
    obtain rfl:=Option.some.inj hi'
    obtain⟨hc,h⟩:=Option.ite_none_right_eq_some.1 hC
    clear hC
    ·obtain⟨hoff,hlen,aa,ab,h48,h62⟩:=hc
     dsimp only at aa ab h48 h62 h
     subst hoff aa ab hsi hby
     simp only[Option.some.injEq,Prod.mk.injEq]at h
     obtain⟨rfl,rfl,rfl⟩:=h
     rcases hM.roots r0 _ h2 h1 with⟨hb,_⟩|⟨b',cs0,ty0,fr,hb,hh,hxl,hxs,ac,hfz⟩
     ·rw[h3]at hb;cases hb
     rw[h3]at hb
     obtain rfl:=Option.some.inj hb
     rcases hfz with⟨hf,_⟩|⟨_,hnS,hfr⟩
     ·cases hf
     have hnn:cap*inf.size≤cs0.size:=by
      have:E.w.shape? b=some (ty0,cs0.size):=by simp[World.shape?,hh]
      rw[this]at h4
      have:=(Prod.mk.inj (Option.some.inj h4)).2
      simpa[this]using h6
     have hne:nb≠r0:=by
      rintro rfl
      have:=hF.np 0 (by simp)
      simp at this
      exact this h2
     by_cases hfit:len+ys.length≤cap
     ·obtain⟨cs,hl,hf,hcl,hyl,hone,hyr⟩:=L4 (P:=P) hM hxr hsrc
      have hrun:=M6 (P:=P) (w:=E.w) (t:=t) (xT:=xT) (ty:=ty) (n:=inf.size) (len:=len) (cap:=cap) (k:=ys.length) (base:=some ⟨b,0*inf.size,none⟩) (vx:=vx) (cs:=cs) hu hsze hx hl hf hfit
      have hle:len*inf.size+cs.length≤cs0.size:=by
       rw[hcl,←Nat.add_mul]
       exact Nat.le_trans (Nat.mul_le_mul_right _ hfit) hnn
      have hst:=run_storeCells_cells (P:=P) b (len*inf.size) cs 0 E.w (by
        intro j hj
        have:len*inf.size+j<cs0.size:=by omega
        simp[World.cell?,hh,this])
       (by
        intro j hj
        have hlt:len*inf.size+j<cs0.size:=by omega
        rw[Nat.add_zero]
        exact Gy hh hfr.1 hlt) hone
      obtain⟨cs',hw,hget⟩:=Dd b ty0 fr cs (len*inf.size) E.w cs0 hh hle
      have hM1:Mem c (E.kill r0):=hM.kill h1
      have hrt:(E.kill r0).rt nb=some (.row inf.size false (xs++ys)):=by
       have:=hF.rt 0 _ rfl
       simp only[Nat.add_zero]at this
       simpa[Env.kill,hne]using this
      have hnp:¬(E.kill r0).pres nb:=by
       show¬E.pres nb
       simpa using hF.np 0 (by simp)
      have st2:Step (E.kill r0) ((E.kill r0).adopt nb b (E.w.setCells b (len*inf.size) cs)):=Step.adopt hnp hnS hh hw
      have hroot:RootRel ((E.kill r0).adopt nb b (E.w.setCells b (len*inf.size) cs)) nb (.row inf.size false (xs++ys)):=by
       refine .inr ⟨b,cs',ty0,fr,Ea _ _ _,hw.at_,?_,?_,?_,.inr ⟨rfl,hnS,by rw[hw.size];exact hfr⟩⟩
       ·intro k x hk
        by_cases hlt:k<xs.length
        ·rw[List.getElem?_append_left hlt]at hk;exact hxl k x hk
        ·rw[List.getElem?_append_right (by omega)]at hk;exact hyl _ x hk
       ·rw[hw.size,List.length_append,←hlen]
        exact Nat.le_trans (Nat.mul_le_mul_right _ hfit) hnn
       ·intro k x j y hk hy
        rw[hget]
        by_cases hlt:k<xs.length
        ·rw[List.getElem?_append_left hlt]at hk
         have hj:j<inf.size:=by rw[←hxl k x hk];exact(List.getElem?_eq_some_iff.1 hy).1
         have hlt2:k*inf.size+j<len*inf.size:=by
          calc k*inf.size+j<k*inf.size+inf.size:=by omega
           _=(k+1)*inf.size:=by rw[Nat.succ_mul]
           _≤len*inf.size:=Nat.mul_le_mul_right _ (by omega)
         rw[if_neg (by omega)]
         obtain⟨u,hu,hr⟩:=ac k x j y hk hy
         exact⟨u,hu,(hr.step (Step.kill h1).S (Step.kill h1).heap).step st2.S st2.heap⟩
        ·rw[List.getElem?_append_right (by omega)]at hk
         obtain⟨u,hu,hr⟩:=hyr _ x j y hk hy
         have hul:(k - xs.length)*inf.size+j<cs.length:=(List.getElem?_eq_some_iff.1 hu).1
         have hge:len*inf.size≤k*inf.size:=Nat.mul_le_mul_right _ (by omega)
         have he:k*inf.size+j - len*inf.size=(k - xs.length)*inf.size+j:=by
          rw[Nat.sub_mul,←hlen];omega
         rw[if_pos (by omega),he]
         exact⟨u,hu,(hr.step (Step.kill h1).S (Step.kill h1).heap).step st2.S st2.heap⟩
      have hM2:Mem c ((E.kill r0).adopt nb b (E.w.setCells b (len*inf.size) cs)):=hM1.adopt hrt hnp hF.m hnS (by
        intro x R hxp hxR hd hxb
        obtain⟨hxne,hxR'⟩:=Ps hxR hd
        exact hxne (hM.inj x r0 R _ b hxp h2 hxR' hd h1 (by simp) hxb h3)) (hM.bown r0 _ b h2 h1 (by simp) h3) hh hw hroot
      refine⟨.slice (some ⟨b,0*inf.size,none⟩) (len+ys.length) cap,(E.kill r0).adopt nb b (E.w.setCells b (len*inf.size) cs),?_,⟨hM2,(Step.kill h1).trans st2,rfl,fun x=>Iff.rfl,rfl,?_⟩,?_,fun e' _ b' hb'=>.inl (h3.trans ((Ea _ _ _).symm.trans hb'))⟩
      ·rw[hrun]
       simp only[Nat.zero_mul,He,Nat.zero_add]at hst⊢
       rw[show(storeCells ⟨b,len*inf.size,none⟩ cs).run P E.w=(storeCells ⟨b,len*inf.size,none⟩ cs 0).run P E.w from rfl,hst]
       rfl
      ·show E.w.heap.size≤(E.w.setCells b (len*inf.size) cs).heap.size
       rw[hw.hsize];exact Nat.le_refl _
      ·have hsh:((E.kill r0).adopt nb b (E.w.setCells b (len*inf.size) cs)).w.shape? b=some (ty0,cs'.size):=by
        show(E.w.setCells b (len*inf.size) cs).shape? b=_
        unfold World.shape?;rw[hw.at_]
       rw[←hlen]
       exact .ref nb 0 (len+ys.length) _ inf.size b cap ty0 cs'.size hrt rfl (Or.inr rfl) (Ea _ _ _) hsh hfit (by rw[hw.size];simpa using hnn)
     ·obtain⟨_,hl,_⟩:=L4 (P:=P) hM hxr hsrc
      obtain⟨cs,_,hfd,hcl,hyl,_,hyr'⟩:=L4 (P:=P) hM.drew (hxr.step (Step.drew E)) hsrc
      have hyr:∀(k:Nat) x (j:Nat) y,ys[k]? =some x→x[j]? =some y→∃u,cs[k*inf.size+j]? =some u∧RelD E.w E.S y u:=fun k x j y hk hy=>by
       obtain⟨u,hu,hr⟩:=hyr' k x j y hk hy
       exact⟨u,hu,XgD hr⟩
      have hview:AV.src E.rt (.ref r0 0 len)=some (inf.size,xs):=by
       simp[AV.src,AV.view,h1,hlen]
      have hsd:RelAV E.drew (.ref r0 0 len) (.slice (some ⟨b,0*inf.size,none⟩) len cap):=RelAV.step (Step.drew E) (.ref r0 0 len _ inf.size b cap tt nn h1 rfl h2 h3 h4 h5 h6)
      obtain⟨os,_,hod,hol,_,_,hor'⟩:=L4 (P:=P) hM.drew hsd hview
      have hor:∀(k:Nat) x (j:Nat) y,xs[k]? =some x→x[j]? =some y→∃u,os[k*inf.size+j]? =some u∧RelD E.w E.S y u:=fun k x j y hk hy=>by
       obtain⟨u,hu,hr⟩:=hor' k x j y hk hy
       exact⟨u,hu,XgD hr⟩
      rw[←hlen]at hod
      have:=Td (P:=P) hM (nb:=nb) (t:=t) (xT:=xT) (ty:=ty) (r:=r0) (sz:=inf.size) (len:=len) (cap:=cap) (e:=e) (xs:=xs) (ys:=ys) (vx:=vx) (os:=os) (cs:=cs) (i:=inf) (z:=z) hu hinf rfl hx hzero hzc hl hfd hod (by omega)
       (by rw[hlen];exact h48) (by rw[hlen];exact h62) hlen h1 h2 hol hcl hxl hyl hor hyr hF
      obtain⟨v,E',a1,a2,a3,a4⟩:=this
      exact⟨v,E',a1,a2,a3,fun e' he'=>by rw[hu]at he';obtain rfl:e=e':=by simpa using he'
                                         exact a4⟩
 |_=>simp[Dz]at h
end
open Go
structure Out where
 av:AV
 new:List Root
 g:List (Nat×Root)
def Lz:List (Nat×Root)→(Nat→Option Root)→Nat→Option Root
 |[],rt=>rt
 |(r,R)::rest,rt=>fun x=>if x=r then some R else Lz rest rt x
def Cm(sl:Nat→AV):Operand→AV
 | .tmp t=>sl t
 | .const v=>if v.oneCell' then .d (.sc v)else .junk
 | .func f=>.clo f []
 | .global _=>.junk
def opd(nb hint:Nat)(sl:Nat→AV):Operand→AV×List Root
 | .const (.slice none 0 0)=>(.ref nb 0 0,[.row hint false []])
 |x=>(Cm sl x,[])
def Ry(P:Program)(t:TypeId):Nat:=((elT P t).map (·.1)).getD 0
inductive EK where
 |int|str|bool
def XlJ:Option TypeDesc→Option EK
 |some (.int _)=>some .int
 |some .string=>some .str
 |some .bool=>some .bool
 |_=>none
def XgA(P:Program):Nat→List Field→Option (List EK)
 |_,[]=>some []
 |i,f::fs=>if f.name≠ "_"∧f.offset=i then(XlJ (P.underlying f.type)).bind fun k=>(XgA P (i+1) fs).map (k::·)else none
def eqT(P:Program)(t:TypeId):Option (List EK):=
 match P.underlying t with
 |some (.struct fs)=>if P.stoodInHeld t=true∨P.eqGuardType P.depth t=true then none else XgA P 0 fs.toList
 |_=>none
def Xkz:EK→Value→Value→Option Bool
 | .int,.int k a,.int k' b=>if k=k' then some (a==b)else none
 | .str,.string a,.string b=>some (a.toList==b.toList)
 | .bool,.bool a,.bool b=>some (a==b)
 |_,_,_=>none
def O7:List EK→List AV→List AV→Option Bool
 |[],[],[]=>some true
 |k::ks,.d (.sc x)::xs,.d (.sc y)::ys=>(Xkz k x y).bind fun b=>(O7 ks xs ys).map fun r=>b&&r
 |_,_,_=>none
def Hh(P:Program)(t:TypeId):Bool:=match P.underlying t with|some .bool=>true|_=>false
def Ho(P:Program)(t:TypeId):Bool:=match P.underlying t with|some .string=>true|_=>false
def Fx(P:Program)(t:TypeId):Bool:=match P.underlying t with|some (.slice _)=>true|_=>false
def Ra(P:Program)(op:BinOp)(t:TypeId)(x y:AV):Option AV:=
 match x,y with
 | .d (.sc a),.d (.sc b)=>(Kg op (Hh P t) a b).map fun v=>.d (.sc v)
 | .agg xs,.agg ys=>
   match op with
   | .eql=>(eqT P t).bind fun ks=>(O7 ks xs ys).map fun b=>.d (.sc (.bool b))
   | .neq=>(eqT P t).bind fun ks=>(O7 ks xs ys).map fun b=>.d (.sc (.bool !b))
   |_=>none
 |_,_=>none
def unSc(op:UnOp)(x:Value):Option Value:=
 match op,x with
 | .not,.bool b=>some (.bool !b)
 | .neg,.int k n=>some (.int k (k.wrap (0 - n)))
 |_,_=>none
def XlP(op:UnOp):AV→Option AV
 | .d (.sc x)=>(unSc op x).map fun v=>.d (.sc v)
 |_=>none
section
variable {P:Program} {c:Ctx} {E:Env}
structure OutRel (c:Ctx) (E:Env) (nb:Nat) (o:Out) (v:Value) (E':Env):Prop where
 mem:Mem c E'
 step:Step E E'
 rt:E'.rt=Lz o.g E.rt
 pres:∀r,E'.pres r↔E.pres r∨(nb≤r∧r<nb+o.new.length)
 size:E.w.heap.size≤E'.w.heap.size
 rel:RelAV E' o.av v
def Done(P:Program)(c:Ctx)(E:Env)(nb:Nat)(o:Out)(s:Sem Next):Prop:=
 ∃v E',(s.run P E.w= .ok (.value v) E'.w∨(s.run P E.w= .ok .skip E'.w∧v=undef))∧OutRel c E nb o v E'
theorem Done.of{nb:Nat}{r:XeX}{s:Sem Value}{s':Sem Next}(h:Yields1 c P E nb r s)(hs:s'=do pure (.value (←s))):Done P c E nb ⟨r.1,r.2,[]⟩ s':=by
 obtain⟨v,E',hr,q,hrel⟩:=h
 subst hs
 exact⟨v,E',.inl (by simp[hr]),q.mem,q.step,q.rt,q.pres,q.size,hrel⟩
theorem Done.same(hM:Mem c E){nb:Nat}{av:AV}{s:Sem Value}{s':Sem Next}(h:∃v,s.run P E.w= .ok v E.w∧RelAV E av v)(hs:s'=do pure (.value (←s))):Done P c E nb ⟨av,[],[]⟩ s':=
 Done.of (Yields1.same hM h) hs
def XfU(E:Env)(sl:Nat→AV)(ρ:Operand→Value):Prop:=
 (∀t,RelAV E (sl t) (ρ (.tmp t)))∧(∀v,ρ (.const v)=v)∧(∀f,ρ (.func f)= .func (.func f) #[] #[])
theorem Bw{sl:Nat→AV}{ρ:Operand→Value}(h:XfU E sl ρ)(x:Operand):RelAV E (Cm sl x) (ρ x):=by
 cases x with
 |tmp t=>exact h.1 t
 |const v=>
  rw[h.2.1]
  show RelAV E (if v.oneCell' then .d (.sc v)else .junk) v
  split
  ·rename_i h1;exact .d _ _ (.sc _ h1)
  ·exact .junk _
 |func f=>rw[h.2.2];exact .clo f [] #[] rfl (fun j y hy=>by simp at hy)
 |global g=>exact .junk _
theorem XcR(hM:Mem c E){nb hint:Nat}{sl:Nat→AV}{ρ:Operand→Value}(h:XfU E sl ρ)(x:Operand)(hF:Fresh c E nb (opd nb hint sl x).2):
  ∃E',Quiet c nb (opd nb hint sl x).2.length E E'∧E'.w=E.w∧RelAV E' (opd nb hint sl x).1 (ρ x):=by
 have plain:(opd nb hint sl x)=(Cm sl x,[])→∃E',Quiet c nb (opd nb hint sl x).2.length E E'∧E'.w=E.w∧RelAV E' (opd nb hint sl x).1 (ρ x):=by
  intro he
  rw[he]
  exact⟨E,Quiet.refl hM nb,rfl,Bw h x⟩
 by_cases hx:x= .const (.slice none 0 0)
 ·subst hx
  have e:opd nb hint sl (.const (.slice none 0 0))=(.ref nb 0 0,[.row hint false []]):=rfl
  rw[e]at hF⊢
  have hr:E.rt nb=some (.row hint false []):=by simpa using hF.rt 0 _ rfl
  have hp:¬E.pres nb:=by simpa using hF.np 0 (by simp)
  refine⟨E.withNil nb,Quiet.nil hM hr hp hF.m,rfl,?_⟩
  rw[h.2.1]
  exact .refz nb 0 _ hint none hr rfl (Or.inr rfl)
 ·apply plain
  unfold opd
  split
  ·exact absurd rfl hx
  ·rfl
theorem Nq{w:World}{d:Nat}{xs ys:Array Value}:∀(fs:List Field) (k:Nat) (ks:List EK) (l l':List AV) (r:Bool),XgA P k fs=some ks→
  (∀(j:Nat) y,l[j]? =some y→RelAV E y (xs.getD (k+j) undef))→(∀(j:Nat) y,l'[j]? =some y→RelAV E y (ys.getD (k+j) undef))→xs.size=k+l.length→ys.size=k+l'.length→O7 ks l l'=some r→
  (Op.eqFields (d+1) xs ys fs).run P w= .ok r w
 |[],k,ks,l,l',r,hk,_,_,_,_,he=>by
  simp only[XgA,Option.some.injEq]at hk
  subst hk
  cases l<;>cases l'<;>simp[O7]at he
  subst he
  simp[Op.eqFields]
 |f::fs,k,ks,l,l',r,hk,hx,hy,hxs,hys,he=>by
  simp only[XgA]at hk
  obtain⟨⟨hname,hoff⟩,hk⟩:=Option.ite_none_right_eq_some.1 hk
  obtain⟨q,hq,hk⟩:=Option.bind_eq_some_iff.1 hk
  obtain⟨ks',hks,rfl⟩:=Option.map_eq_some_iff.1 hk
  have shape:∃x xs' y ys',l= .d (.sc x)::xs'∧l'= .d (.sc y)::ys':=by
   unfold O7 at he
   split at he
   ·rename_i h;cases h
   ·exact⟨_,_,_,_,rfl,rfl⟩
   ·cases he
  obtain⟨x,l,y,l',rfl,rfl⟩:=shape
  simp only[O7]at he
  obtain⟨b,hb,he⟩:=Option.bind_eq_some_iff.1 he
  obtain⟨r',hr',rfl⟩:=Option.map_eq_some_iff.1 he
  have hxv:xs.getD k undef=x:=by
   have:=hx 0 _ rfl
   simp only[Nat.add_zero]at this
   generalize xs.getD k undef=u at*
   cases this with
   |d _ _ h=>cases h;rfl
  have hyv:ys.getD k undef=y:=by
   have:=hy 0 _ rfl
   simp only[Nat.add_zero]at this
   generalize ys.getD k undef=u at*
   cases this with
   |d _ _ h=>cases h;rfl
  have hkx:k<xs.size:=by simp at hxs;omega
  have hky:k<ys.size:=by simp at hys;omega
  have hxk:xs[k]? =some x:=by simpa[Array.getD,hkx]using hxv
  have hyk:ys[k]? =some y:=by simpa[Array.getD,hky]using hyv
  have hagg:Xq P f.type=some false:=by
   unfold Xq
   unfold XlJ at hq
   split at hq<;>first|(rename_i hu;simp[hu,XeP];done)|cases hq
  have hpx:(part f.type xs f.offset).run P w= .ok x w:=by simp[part,L5 hagg,hoff,hxk]
  have hpy:(part f.type ys f.offset).run P w= .ok y w:=by simp[part,L5 hagg,hoff,hyk]
  have heq:(Op.equalIn (d+1) f.type x y).run P w= .ok b w:=by
   unfold Xkz at hb
   split at hb
   ·obtain⟨rfl,hb'⟩:=Option.ite_none_right_eq_some.1 hb
    unfold XlJ at hq
    split at hq<;>cases hq
    rename_i hu
    rw[←Option.some.inj hb']
    exact run_equalIn_int w d f.type _ _ _ _ hu
   ·unfold XlJ at hq
    split at hq<;>cases hq
    rename_i hu
    rw[←Option.some.inj hb]
    exact run_equalIn_string w d f.type _ _ hu
   ·unfold XlJ at hq
    split at hq<;>cases hq
    rename_i hu
    rw[←Option.some.inj hb]
    exact run_equalIn_bool' w d f.type _ _ hu
   ·cases hb
  have ih:=Nq (d:=d) (xs:=xs) (ys:=ys) (w:=w) fs (k+1) ks' l l' r' hks (fun j y hj=>by
    have:=hx (j+1) y (by simpa using hj)
    rwa[show k+(j+1)=k+1+j by omega]at this) (fun j y hj=>by
    have:=hy (j+1) y (by simpa using hj)
    rwa[show k+(j+1)=k+1+j by omega]at this) (by simp at hxs;omega) (by simp at hys;omega) hr'
  simp only[Op.eqFields,hname,ne_eq,not_false_eq_true,if_true,Sem.run_bind,hpx,hpy,heq,Result.andThen_ok]
  cases b<;>simp[ih]
theorem Xbi{w:World}{t:TypeId}{ks:List EK}{l l':List AV}{xs ys:Array Value}{b:Bool}(hk:eqT P t=some ks)(hx:RelAV E (.agg l) (.agg xs))(hy:RelAV E (.agg l') (.agg ys))(he:O7 ks l l'=some b):
  (Op.equal t (.agg xs) (.agg ys)).run P w= .ok b w:=by
 unfold eqT at hk
 split at hk
 ·rename_i fs hu
  split at hk
  ·cases hk
  ·rename_i hst
   have hfo:P.fieldsOf t=fs:=by simp[Program.fieldsOf,hu]
   cases hx with
   |agg _ _ hs hr _=>
    cases hy with
    |agg _ _ hs' hr' _=>
     show(Op.equalIn 10000 t (.agg xs) (.agg ys)).run P w=_
     rw[run_equalIn_struct w 9999 t xs ys (by rw[hu,hfo]) (by simpa using fun h=>hst (.inl h)),hfo]
     exact Nq (E:=E) (d:=9998) fs.toList 0 ks l l' b hk (fun j y hj=>by rw[Nat.zero_add];exact hr j y hj) (fun j y hj=>by rw[Nat.zero_add];exact hr' j y hj) (by omega) (by omega) he
 ·cases hk
theorem Wj{w:World}{op:BinOp}{t:TypeId}{ks:List EK}{X Y:Operand}{xs ys:Array Value}(hk:eqT P t=some ks):(eqGuard op t X Y (.agg xs) (.agg ys)).run P w= .ok () w:=by
 unfold eqT at hk
 split at hk
 ·split at hk
  ·cases hk
  ·rename_i hst
   have hg:P.eqGuardType P.depth t=false:=by simpa using fun h=>hst (.inr h)
   cases op<;>simp[eqGuard,hg]
 ·cases hk
end
open Go
def Qm(P:Program)(rt:Nat→Option Root)(t:TypeId):AV→Option AV
 | .d (.sc (.string s))=>if Ho P t then some (.d (.sc (.int .i64 s.size)))else none
 | .d (.row _ xs)=>if Fx P t then some (.d (.sc (.int .i64 xs.length)))else none
 | .ref r _ len=>if Fx P t&&Lh rt r then some (.d (.sc (.int .i64 len)))else none
 |_=>none
def K4(mx:Bool):AV→AV→Option AV
 | .d (.sc (.int k a)),.d (.sc (.int _ b))=>some (.d (.sc (.int k (if mx then(if b>a then b else a)else(if b<a then b else a)))))
 |_,_=>none
def XdK(rt:Nat→Option Root):AV→Option AV
 | .ptr r i j=>if Lh rt r then some (.ptr r i j)else none
 | .rptr cs=>some (.rptr cs)
 |_=>none
def Rg(i:Nat):AV→Option AV
 | .tup l=>l[i]?
 |_=>none
def Tb:AV→Option Int
 | .d (.sc (.int _ n))=>some n
 |_=>none
def Gw(sl:Nat→AV):List (Nat×Operand)→Option (List (Nat×List AV))
 |[]=>some []
 |(i,x)::rest=>(Cm sl x).leaves.bind fun l=>(Gw sl rest).map fun r=>(i,l)::r
def I6(rt:Nat→Option Root)(sl:Nat→AV):List (Nat×Operand)→Option (List (Nat×List D))
 |[]=>some []
 |(i,x)::rest=>(Cm sl x).leaves.bind fun l=>(Xct rt l).bind fun ds=>(I6 rt sl rest).map fun r=>(i,ds)::r
def G4(sl:Nat→AV):Option Operand→Option (Option Int)
 |none=>some none
 |some x=>(Tb (Cm sl x)).map some
def Do(P:Program)(t:TypeId):Bool:=match P.underlying t with|some (.slice e)=>(match P.underlying e with|some (.int .u8)=>true|_=>false)|_=>false
def Nz(P:Program)(nb:Nat)(sl:Nat→AV)(rt:Nat→Option Root)(c:Call):Option Out:=
 match c.callee,c.args.toList,c.argTypes.toList with
 | .builtin .len,[x],[t]=>(Qm P rt t (Cm sl x)).map fun v=>⟨v,[],[]⟩
 | .builtin .append,[s,x],[t,xt]=>
   if(ezT P t).isSome&&(Fx P xt||Ho P xt)then(Dz rt nb (elT P t) (Cm sl s) (Cm sl x)).map fun(av,new,r)=>⟨av,new,[(r,.dead)]⟩else none
 | .builtin .max,[x,y],_=>(K4 true (Cm sl x) (Cm sl y)).map fun v=>⟨v,[],[]⟩
 | .builtin .min,[x,y],_=>(K4 false (Cm sl x) (Cm sl y)).map fun v=>⟨v,[],[]⟩
 |_,_,_=>none
def Pc:Operand→Bool
 | .const (.slice none 0 0)=>true
 |_=>false
def Ls(rt:Nat→Option Root):AV→Option Bool
 | .d (.row _ xs)=>some xs.isEmpty
 | .ref r _ len=>if Lh rt r then some (len==0)else none
 |_=>none
def M4(P:Program)(rt:Nat→Option Root)(op:BinOp)(t:TypeId)(x y:AV)(yo:Operand):Option AV:=
 match Pc yo with
 |true=>(match op with| .eql=>if Fx P t then(Ls rt x).map .anyb else none|_=>none)
 |false=>Ra P op t x y
def ev(P:Program)(nb:Nat)(sl:Nat→AV)(rt:Nat→Option Root)(o:Oper):Option Out:=
 match o.op with
 | .move x=>some ⟨(opd nb (Ry P o.type) sl x).1,(opd nb (Ry P o.type) sl x).2,[]⟩
 | .assign x=>some ⟨(opd nb (Ry P o.type) sl x).1,(opd nb (Ry P o.type) sl x).2,[]⟩
 | .pick c a b=>(match Cm sl c with| .d (.sc (.bool t))=>some ⟨if t then Cm sl a else Cm sl b,[],[]⟩|_=>none)
 | .alloc t=>(Kd P t).map fun zs=>⟨(Pv nb t zs).1,(Pv nb t zs).2,[]⟩
 | .box t x=>(Xjl nb t (Cm sl x)).map fun r=>⟨r.1,r.2,[]⟩
 | .build t ps=>(Kd P t).bind fun zs=>(Vw P t).bind fun pl=>(Gw sl ps.toList).bind fun l=>(Zq nb zs pl l).map fun r=>⟨r.1,r.2,[]⟩
 | .buildSlice t n ps=>(ezT P t).bind fun z=>(I6 rt sl ps.toList).bind fun l=>(Ht nb z n l).map fun r=>⟨r.1,r.2,[]⟩
 | .load t x=>(Xq P t).bind fun g=>(szT P t).bind fun n=>(E8 rt n g (Cm sl x)).map fun v=>⟨v,[],[]⟩
 | .store t p x=>(szT P t).bind fun n=>(F2 rt n (Cm sl p) (opd nb (Ry P t) sl x).1).bind fun(r,R)=>if r<nb then some ⟨.junk,(opd nb (Ry P t) sl x).2,[(r,R)]⟩else none
 | .nilCheck x=>(XdK rt (Cm sl x)).map fun v=>⟨v,[],[]⟩
 | .binOp op t x y _=>(M4 P rt op t (Cm sl x) (Cm sl y) y).map fun v=>⟨v,[],[]⟩
 | .unOp op _ x=>(XlP op (Cm sl x)).map fun v=>⟨v,[],[]⟩
 | .convert s d x=>(P.underlying s).bind fun src=>(P.underlying d).bind fun dst=>(M1 rt nb src dst (Do P s) (Cm sl x)).map fun r=>⟨r.1,r.2,[]⟩
 | .fieldAddr t x f=>(C5 rt (Xjm P t f) (Cm sl x)).map fun v=>⟨v,[],[]⟩
 | .field t x f=>(Wk (Xjm P t f) (Cm sl x)).map fun v=>⟨v,[],[]⟩
 | .indexAddr t x i=>(Tb (Cm sl i)).bind fun n=>(Ct rt (elT P t) (Cm sl x) n).map fun v=>⟨v,[],[]⟩
 | .index t x i=>(Tb (Cm sl i)).bind fun n=>(Jk (Ho P t) (Cm sl x) n).map fun v=>⟨v,[],[]⟩
 | .slice t x lo hi none=>(G4 sl lo).bind fun l=>(G4 sl hi).bind fun h=>(Ev rt (elT P t) (Ho P t) (Cm sl x) l h).map fun v=>⟨v,[],[]⟩
 | .makeSlice t n m=>(ezT P t).bind fun z=>(Tb (Cm sl n)).bind fun n=>(Tb (Cm sl m)).bind fun m=>(Xbj nb z n m).map fun r=>⟨r.1,r.2,[]⟩
 | .extract x i=>(Rg i (Cm sl x)).map fun v=>⟨v,[],[]⟩
 | .makeFunc (.func f) first caps=>if first.size=0 then some ⟨.clo f (caps.toList.map (Cm sl)),[],[]⟩else none
 | .call c=>Nz P nb sl rt c
 |_=>none
section
variable {P:Program} {c:Ctx} {E:Env}
theorem Nd{x:AV}{v:Value}{n:Int}(h:RelAV E x v)(hn:Tb x=some n):∃k,v= .int k n:=by
 unfold Tb at hn
 split at hn
 ·obtain rfl:=Option.some.inj hn
  cases h with
  |d _ _ h=>cases h;exact⟨_,rfl⟩
 ·cases hn
theorem XcI{t:TypeId}{x av:AV}{v:Value}{ty:TypeId}(hx:RelAV E x v)(h:Qm P E.rt t x=some av):∃u,(Builtin.len_ #[t] ty #[v]).run P E.w= .ok u E.w∧RelAV E av u:=by
 unfold Qm at h
 split at h
 ·rename_i s
  obtain⟨ht,h⟩:=Option.ite_none_right_eq_some.1 h
  obtain rfl:=Option.some.inj h
  cases hx with
  |d _ _ h'=>
   cases h'
   unfold Ho at ht
   split at ht
   ·rename_i hu
    exact⟨_,by simp[Builtin.len_,run_underlying hu,goInt],.d _ _ (.sc _ rfl)⟩
   ·cases ht
 ·rename_i sz xs
  obtain⟨ht,h⟩:=Option.ite_none_right_eq_some.1 h
  obtain rfl:=Option.some.inj h
  unfold Fx at ht
  split at ht
  ·rename_i hu
   cases hx with
   |d _ _ h'=>
    cases h' with
    |nil=>exact⟨_,by simp[Builtin.len_,run_underlying hu,goInt],.d _ _ (.sc _ rfl)⟩
    |row=>exact⟨_,by simp[Builtin.len_,run_underlying hu,goInt],.d _ _ (.sc _ rfl)⟩
  ·cases ht
 ·rename_i r off len
  obtain⟨ht,h⟩:=Option.ite_none_right_eq_some.1 h
  obtain rfl:=Option.some.inj h
  simp only[Bool.and_eq_true]at ht
  obtain⟨ht,ha⟩:=ht
  unfold Fx at ht
  split at ht
  ·rename_i hu
   cases hx with
   |ref=>exact⟨_,by simp[Builtin.len_,run_underlying hu,goInt],.d _ _ (.sc _ rfl)⟩
   |refz=>exact⟨_,by simp[Builtin.len_,run_underlying hu,goInt],.d _ _ (.sc _ rfl)⟩
   |dref _ _ _ _ h1=>rw[Ow h1]at ha;cases ha
  ·cases ht
 ·cases h
theorem O9{mx:Bool}{ts:Array TypeId}{x y av:AV}{v u:Value}{ty:TypeId}(hx:RelAV E x v)(hy:RelAV E y u)(h:K4 mx x y=some av):
  ∃r,(if mx then Builtin.max_ ts ty #[v,u]else Builtin.min_ ts ty #[v,u]).run P E.w= .ok r E.w∧RelAV E av r:=by
 unfold K4 at h
 split at h
 ·obtain rfl:=Option.some.inj h
  cases hx with
  |d _ _ h1=>
   cases hy with
   |d _ _ h2=>
    cases h1
    cases h2
    cases mx
    ·exact⟨_,by simp[Builtin.min_,Builtin.min2],.d _ _ (.sc _ rfl)⟩
    ·exact⟨_,by simp[Builtin.max_,Builtin.max2],.d _ _ (.sc _ rfl)⟩
 ·cases h
theorem XcW{op:BinOp}{t:TypeId}{x y av:AV}{v u:Value}(X Y:Operand)(hx:RelAV E x v)(hy:RelAV E y u)(h:Ra P op t x y=some av):
  ∃r,(do eqGuard op t X Y v u;binOp op t v u).run P E.w= .ok r E.w∧RelAV E av r:=by
 unfold Ra at h
 split at h
 ·obtain⟨r,hr,rfl⟩:=Option.map_eq_some_iff.1 h
  cases hx with
  |d _ _ h1=>
   cases hy with
   |d _ _ h2=>
    cases h1
    cases h2
    obtain⟨hrun,ho⟩:=XcK (P:=P) (w:=E.w) (t:=t) (isB:=Hh P t) (fun hb=>by
     unfold Hh at hb
     split at hb
     ·rename_i hu;exact hu
     ·cases hb) X Y hr
    exact⟨r,hrun,.d _ _ (.sc _ ho)⟩
 ·rename_i xs ys
  cases hx with
  |agg _ us hs hr ho=>
   cases hy with
   |agg _ us' hs' hr' ho'=>
    split at h
    ·obtain⟨ks,hk,h⟩:=Option.bind_eq_some_iff.1 h
     obtain⟨b,hb,rfl⟩:=Option.map_eq_some_iff.1 h
     have he:=Xbi (P:=P) (w:=E.w) hk (.agg xs us hs hr ho) (.agg ys us' hs' hr' ho') hb
     exact⟨.bool b,by simp[Wj hk,binOp,he],.d _ _ (.sc _ rfl)⟩
    ·obtain⟨ks,hk,h⟩:=Option.bind_eq_some_iff.1 h
     obtain⟨b,hb,rfl⟩:=Option.map_eq_some_iff.1 h
     have he:=Xbi (P:=P) (w:=E.w) hk (.agg xs us hs hr ho) (.agg ys us' hs' hr' ho') hb
     exact⟨.bool (!b),by simp[Wj hk,binOp,he],.d _ _ (.sc _ rfl)⟩
    ·cases h
 ·cases h
theorem Xgh{op:UnOp}{x av:AV}{v:Value}(hx:RelAV E x v)(h:XlP op x=some av):∃r,(Op.unary op v).run P E.w= .ok r E.w∧RelAV E av r:=by
 unfold XlP at h
 split at h
 ·obtain⟨r,hr,rfl⟩:=Option.map_eq_some_iff.1 h
  cases hx with
  |d _ _ h1=>
   cases h1
   unfold unSc at hr
   split at hr
   ·obtain rfl:=Option.some.inj hr
    exact⟨_,by simp[Op.unary],.d _ _ (.sc _ rfl)⟩
   ·obtain rfl:=Option.some.inj hr
    exact⟨_,by simp[Op.unary,Op.intArith],.d _ _ (.sc _ rfl)⟩
   ·cases hr
 ·cases h
theorem Um{i:Nat}{x av:AV}{v:Value}(hx:RelAV E x v)(h:Rg i x=some av):∃r,(Instr.extract v i).run P E.w= .ok r E.w∧RelAV E av r:=by
 unfold Rg at h
 split at h
 ·rename_i l
  cases hx with
  |tup _ us hs hr=>
   have hlt:i<us.size:=by rw[hs];exact(List.getElem?_eq_some_iff.1 h).1
   have:=hr i av h
   refine⟨us[i],by simp[Instr.extract,hlt],?_⟩
   simpa[Array.getD,hlt]using this
 ·cases h
theorem Pl{sl:Nat→AV}{ρ:Operand→Value}(h:XfU E sl ρ):∀{ps:List (Nat×Operand)} {l:List (Nat×List AV)},Gw sl ps=some l→
  l.length=ps.length∧∀(k:Nat) p,ps[k]? =some p→∃ls,(Cm sl p.2).leaves=some ls∧l[k]? =some (p.1,ls)
 |[],l,hl=>by simp[Gw]at hl;subst hl;simp
 |(i,x)::ps,l,hl=>by
  simp only[Gw]at hl
  obtain⟨ls,h1,hl⟩:=Option.bind_eq_some_iff.1 hl
  obtain⟨r,h2,rfl⟩:=Option.map_eq_some_iff.1 hl
  obtain⟨hlen,hg⟩:=Pl h h2
  refine⟨by simp[hlen],?_⟩
  intro k p hp
  cases k with
  |zero=>simp at hp;subst hp;exact⟨ls,h1,rfl⟩
  |succ k=>simp at hp;simpa using hg k p hp
theorem Sw{rt:Nat→Option Root}{sl:Nat→AV}:∀{ps:List (Nat×Operand)} {l:List (Nat×List D)},I6 rt sl ps=some l→
  l.length=ps.length∧∀(k:Nat) q,l[k]? =some q→∃p ls,ps[k]? =some p∧p.1=q.1∧(Cm sl p.2).leaves=some ls∧Xct rt ls=some q.2
 |[],l,hl=>by simp[I6]at hl;subst hl;simp
 |(i,x)::ps,l,hl=>by
  simp only[I6]at hl
  obtain⟨ls,h1,hl⟩:=Option.bind_eq_some_iff.1 hl
  obtain⟨ds,h3,hl⟩:=Option.bind_eq_some_iff.1 hl
  obtain⟨r,h2,rfl⟩:=Option.map_eq_some_iff.1 hl
  obtain⟨hlen,hg⟩:=Sw h2
  refine⟨by simp[hlen],?_⟩
  intro k q hq
  cases k with
  |zero=>simp at hq;subst hq;exact⟨(i,x),ls,rfl,rfl,h1,h3⟩
  |succ k=>simp at hq;simpa using hg k q hq
theorem Qz{sl:Nat→AV}{ρ:Operand→Value}(h:XfU E sl ρ){x:Option Operand}{n:Option Int}(hn:G4 sl x=some n):∃k,x.map ρ=n.map (Value.int k):=by
 cases x with
 |none=>simp[G4]at hn;subst hn;exact⟨.i64,rfl⟩
 |some x=>
  simp only[G4]at hn
  obtain⟨m,hm,rfl⟩:=Option.map_eq_some_iff.1 hn
  obtain⟨k,hk⟩:=Nd (Bw h x) hm
  exact⟨k,by simp[hk]⟩
theorem Vk{y:Operand}(h:Pc y=true):y= .const (.slice none 0 0):=by
 unfold Pc at h
 split at h
 ·rfl
 ·cases h
theorem M8(w:World)(d:Nat)(t e:TypeId)(a:Option Addr)(n c:Nat)(h:P.underlying t=some (.slice e)):
  (Op.equalIn (d+1) t (.slice a n c) (.slice none 0 0)).run P w= .ok a.isNone w:=by
 cases a<;>simp[Op.equalIn,run_underlying h]
theorem XcG{t e:TypeId}{a:Option Addr}{n k:Nat}(hu:P.underlying t=some (.slice e))(w:World):(binOp .eql t (.slice a n k) (.slice none 0 0)).run P w= .ok (.bool a.isNone) w:=by
 simp only[binOp]
 simp[Op.equal,Op.maxDepth,M8 w 9999 t e a n k hu]
theorem Xfh{t:TypeId}{x:AV}{v:Value}{p:Bool}(X:Operand)(hx:RelAV E x v)(ht:Fx P t=true)(h:Ls E.rt x=some p):
  ∃r,(do eqGuard .eql t X (.const (.slice none 0 0)) v (.slice none 0 0);binOp .eql t v (.slice none 0 0)).run P E.w= .ok r E.w∧RelAV E (.anyb p) r:=by
 have hu:∃e,P.underlying t=some (.slice e):=by
  unfold Fx at ht
  split at ht
  ·rename_i hu;exact⟨_,hu⟩
  ·cases ht
 obtain⟨e,hu⟩:=hu
 have run:∀a n k,(do eqGuard .eql t X (.const (.slice none 0 0)) (.slice a n k) (.slice none 0 0);binOp .eql t (.slice a n k) (.slice none 0 0):Sem Value).run P E.w= .ok (.bool a.isNone) E.w:=by
  intro a n k
  simp[eqGuard,XcG hu]
 cases hx with
 |d x v h'=>
  cases h' with
  |sc v hv=>simp[Ls]at h
  |nil sz a cap=>
   simp[Ls]at h
   subst h
   exact⟨_,run _ _ _,.anyb _ _ (fun _=>rfl)⟩
  |row sz xs b off cap us hS hc hl hu hr=>exact⟨_,run _ _ _,.anyb _ _ (fun h=>by simp at h)⟩
 |ref r off len R sz b cap t n h1 hk h2 h3 h4 h5 h6=>exact⟨_,run _ _ _,.anyb _ _ (fun h=>by simp at h)⟩
 |refz r off R sz a h1 hk h2=>
  simp only[Ls]at h
  obtain⟨_,h⟩:=Option.ite_none_right_eq_some.1 h
  obtain rfl:=Option.some.inj h
  exact⟨_,run _ _ _,.anyb _ _ (fun _=>rfl)⟩
 |dref r off len v h1 ho=>
  simp only[Ls]at h
  obtain⟨ha,_⟩:=Option.ite_none_right_eq_some.1 h
  rw[Ow h1]at ha
  cases ha
 |_=>simp[Ls]at h
theorem XbS{op:BinOp}{t:TypeId}{x y av:AV}{v u:Value}(X Y:Operand)(hx:RelAV E x v)(hy:RelAV E y u)(hu:Pc Y=true→u= .slice none 0 0)(h:M4 P E.rt op t x y Y=some av):
  ∃r,(do eqGuard op t X Y v u;binOp op t v u).run P E.w= .ok r E.w∧RelAV E av r:=by
 unfold M4 at h
 split at h
 ·rename_i hn
  have hY:=Vk hn
  have hu':=hu hn
  subst hY hu'
  split at h
  ·obtain⟨ht,h⟩:=Option.ite_none_right_eq_some.1 h
   obtain⟨p,hp,rfl⟩:=Option.map_eq_some_iff.1 h
   exact Xfh X hx ht hp
  ·cases h
 ·exact XcW X Y hx hy h
end
open Go
section
variable {P:Program} {c:Ctx} {E:Env}
theorem Xd7{a v:Value}(h:RelAV E (.d (.sc a)) v):v=a:=by
 cases h with
 |d _ _ h=>cases h;rfl
theorem Xc8{o:Oper}{x:AV}{X:Operand}{av:AV}{ρ:Operand→Value}(ho:o.op= .nilCheck X)(hx:RelAV E x (ρ X))(h:XdK E.rt x=some av):(execOp ρ o).run P E.w= .ok (.value (ρ X)) E.w∧RelAV E av (ρ X):=by
 unfold XdK at h
 split at h
 ·obtain⟨ha,h⟩:=Option.ite_none_right_eq_some.1 h
  obtain rfl:=Option.some.inj h
  refine⟨?_,hx⟩
  generalize hv:ρ X=v at*
  cases hx with
  |ptr _ _ _ R b h1 h2 h3=>simp[execOp,ho,hv,Si h1 ha,-Kind.ptrV]
  |dptr _ _ _ _ h1=>rw[Ow h1]at ha;cases ha
 ·obtain rfl:=Option.some.inj h
  refine⟨?_,hx⟩
  generalize hv:ρ X=v at*
  cases hx with
  |rptr=>simp[execOp,ho,hv]
 ·cases h
theorem XaE{rt:Nat→Option Root}{nb r:Nat}{el:Option (Nat×Nat)}{s x av:AV}{new:List Root}(h:Dz rt nb el s x=some (av,new,r)):new.length=1:=by
 unfold Dz at h
 split at h
 ·split at h
  ·obtain⟨p,_,h⟩:=Option.bind_eq_some_iff.1 h
   obtain⟨q,_,h⟩:=Option.bind_eq_some_iff.1 h
   obtain⟨_,h⟩:=Option.ite_none_right_eq_some.1 h
   have:=Option.some.inj h
   simp only[Prod.mk.injEq]at this
   rw[←this.2.1];rfl
  ·cases h
 ·cases h
theorem Xjc(hM:Mem c E){nb:Nat}{sl:Nat→AV}{ρ:Operand→Value}{o:Oper}{r:Out}(hs:XfU E sl ρ)(h:ev P nb sl E.rt o=some r)(hF:Fresh c E nb r.new):
  Done P c E nb r (execOp ρ o):=by
 unfold ev at h
 split at h
 ·
  rename_i x ho
  obtain rfl:=Option.some.inj h
  obtain⟨E',q,hw,hr⟩:=XcR hM hs x hF
  exact⟨_,E',.inl (by simp[execOp,ho,hw]),q.mem,q.step,q.rt,q.pres,q.size,hr⟩
 ·
  rename_i x ho
  obtain rfl:=Option.some.inj h
  obtain⟨E',q,hw,hr⟩:=XcR hM hs x hF
  exact⟨_,E',.inl (by simp[execOp,ho,hw]),q.mem,q.step,q.rt,q.pres,q.size,hr⟩
 ·
  rename_i X A B ho
  split at h
  ·rename_i t hc
   obtain rfl:=Option.some.inj h
   have hx:=Bw hs X
   rw[hc]at hx
   have hv:ρ X= .bool t:=Xd7 hx
   refine Done.same hM (s:=pure (if t then ρ A else ρ B)) ⟨_,rfl,?_⟩ (by cases t<;>simp[execOp,ho,hv,asBool])
   cases t
   ·exact Bw hs B
   ·exact Bw hs A
  ·cases h
 ·
  rename_i t ho
  obtain⟨zs,hz,rfl⟩:=Option.map_eq_some_iff.1 h
  exact Done.of (Xaq hM hz hF) (by simp[execOp,ho])
 ·
  rename_i t X ho
  obtain⟨m,hm,rfl⟩:=Option.map_eq_some_iff.1 h
  exact Done.of (XdA (t:=t) hM (Bw hs X) hm hF) (by simp[execOp,ho])
 ·
  rename_i t ps ho
  obtain⟨zs,hz,h⟩:=Option.bind_eq_some_iff.1 h
  obtain⟨pl,hpl,h⟩:=Option.bind_eq_some_iff.1 h
  obtain⟨l,hl,h⟩:=Option.bind_eq_some_iff.1 h
  obtain⟨m,hm,rfl⟩:=Option.map_eq_some_iff.1 h
  obtain⟨hlen,hg⟩:=Pl hs hl
  refine Done.of (Zs (parts:=ps.toList.map fun p=>(p.1,Cm sl p.2)) (vs:=ps.map fun p=>(p.1,ρ p.2)) hM hz hpl (by simp) (by simpa using hlen) ?_ hm hF) (by simp[execOp,ho])
  intro k p hp
  rw[List.getElem?_map]at hp
  obtain⟨q,hq,rfl⟩:=Option.map_eq_some_iff.1 hp
  obtain⟨ls,h1,h2⟩:=hg k q hq
  refine⟨ρ q.2,ls,?_,Bw hs q.2,h1,h2⟩
  rw[Array.getElem?_map]
  rw[Array.getElem?_toList]at hq
  simp[hq]
 ·
  rename_i t n ps ho
  obtain⟨z,hz,h⟩:=Option.bind_eq_some_iff.1 h
  obtain⟨l,hl,h⟩:=Option.bind_eq_some_iff.1 h
  obtain⟨m,hm,rfl⟩:=Option.map_eq_some_iff.1 h
  obtain⟨hlen,hg⟩:=Sw hl
  refine Done.of (K7 (vs:=ps.map fun p=>(p.1,ρ p.2)) hM hz (by simpa using hlen) ?_ hm hF) (by simp[execOp,ho])
  intro k q hq
  obtain⟨p,ls,hp,hpq,h1,h2⟩:=hg k q hq
  refine⟨ρ p.2,?_,Sl hM (Jv (Bw hs p.2) h1) h2⟩
  rw[Array.getElem?_map]
  rw[Array.getElem?_toList]at hp
  simp[hp,hpq]
 ·
  rename_i t X ho
  obtain⟨g,hg,h⟩:=Option.bind_eq_some_iff.1 h
  obtain⟨n,hn,h⟩:=Option.bind_eq_some_iff.1 h
  obtain⟨v,hv,rfl⟩:=Option.map_eq_some_iff.1 h
  exact Done.same hM (Tn hM hg hn (Bw hs X) hv) (by simp[execOp,ho])
 ·
  rename_i t p X ho
  obtain⟨n,hn,h⟩:=Option.bind_eq_some_iff.1 h
  obtain⟨⟨r0,R⟩,hst,h⟩:=Option.bind_eq_some_iff.1 h
  obtain⟨hlt,h⟩:=Option.ite_none_right_eq_some.1 h
  obtain rfl:=Option.some.inj h
  obtain⟨E1,q,hw,hr⟩:=XcR hM hs X hF
  obtain⟨w',hrun,hsz',hM',st⟩:=Zv q.mem (P:=P) hn ((Bw hs p).step q.step) hr (by rw[q.rt];exact hst)
  refine⟨undef,E1.upd r0 R w',.inr ⟨?_,rfl⟩,hM',q.step.trans st,?_,q.pres,?_,.junk _⟩
  ·rw[hw]at hrun
   simp[execOp,ho,hrun,Env.upd]
  ·rw[show E1.upd r0 R w'={E1 with rt:=fun x=>if x=r0 then some R else E1.rt x,w:=w'}from rfl]
   simp only[Lz,q.rt]
  ·show _≤w'.heap.size
   rw[hsz',hw];exact Nat.le_refl _
 ·
  rename_i X ho
  obtain⟨v,hv,rfl⟩:=Option.map_eq_some_iff.1 h
  obtain⟨hrun,hr⟩:=Xc8 (P:=P) ho (Bw hs X) hv
  have q:=Quiet.refl hM nb
  exact⟨_,E,.inl hrun,q.mem,q.step,q.rt,q.pres,q.size,hr⟩
 ·
  rename_i op t X Y yt ho
  obtain⟨v,hv,rfl⟩:=Option.map_eq_some_iff.1 h
  exact Done.same hM (XbS X Y (Bw hs X) (Bw hs Y) (fun hn=>by rw[Vk hn];exact hs.2.1 _) hv) (by simp[execOp,ho])
 ·
  rename_i op t X ho
  obtain⟨v,hv,rfl⟩:=Option.map_eq_some_iff.1 h
  exact Done.same hM (Xgh (Bw hs X) hv) (by simp[execOp,ho])
 ·
  rename_i s d X ho
  obtain⟨src,hsrc,h⟩:=Option.bind_eq_some_iff.1 h
  obtain⟨dst,hdst,h⟩:=Option.bind_eq_some_iff.1 h
  obtain⟨m,hm,rfl⟩:=Option.map_eq_some_iff.1 h
  refine Done.of (Xb0 hM hsrc hdst ?_ (Bw hs X) hm) (by simp[execOp,ho])
  intro hb
  unfold Do at hb
  split at hb
  ·rename_i e hu
   rw[hsrc]at hu
   split at hb
   ·rename_i he;exact⟨e,Option.some.inj hu,he⟩
   ·cases hb
  ·cases hb
 ·
  rename_i t X f ho
  obtain⟨v,hv,rfl⟩:=Option.map_eq_some_iff.1 h
  exact Done.same hM (Sa (Bw hs X) hv) (by simp[execOp,ho])
 ·
  rename_i t X f ho
  obtain⟨v,hv,rfl⟩:=Option.map_eq_some_iff.1 h
  exact Done.same hM (Zr (Bw hs X) hv) (by simp[execOp,ho])
 ·
  rename_i t X I ho
  obtain⟨n,hn,h⟩:=Option.bind_eq_some_iff.1 h
  obtain⟨v,hv,rfl⟩:=Option.map_eq_some_iff.1 h
  obtain⟨k,hk⟩:=Nd (Bw hs I) hn
  refine Done.same hM (Sv (k:=k) hM (Bw hs X) hv) (by simp[execOp,ho,hk])
 ·
  rename_i t X I ho
  obtain⟨n,hn,h⟩:=Option.bind_eq_some_iff.1 h
  obtain⟨v,hv,rfl⟩:=Option.map_eq_some_iff.1 h
  obtain⟨k,hk⟩:=Nd (Bw hs I) hn
  refine Done.same hM (Wt (t:=t) (k:=k) ?_ (Bw hs X) hv) (by simp[execOp,ho,hk])
  intro hb
  unfold Ho at hb
  split at hb
  ·rename_i hu;exact hu
  ·cases hb
 ·
  rename_i t X lo hi ho
  obtain⟨l,hl,h⟩:=Option.bind_eq_some_iff.1 h
  obtain⟨m,hm,h⟩:=Option.bind_eq_some_iff.1 h
  obtain⟨v,hv,rfl⟩:=Option.map_eq_some_iff.1 h
  obtain⟨kl,hkl⟩:=Qz hs hl
  obtain⟨kh,hkh⟩:=Qz hs hm
  refine Done.same hM (Xau (kl:=kl) (kh:=kh) ?_ (Bw hs X) hv) (by simp[execOp,ho,hkl,hkh])
  intro hb
  unfold Ho at hb
  split at hb
  ·rename_i hu;exact hu
  ·cases hb
 ·
  rename_i t N M ho
  obtain⟨z,hz,h⟩:=Option.bind_eq_some_iff.1 h
  obtain⟨n,hn,h⟩:=Option.bind_eq_some_iff.1 h
  obtain⟨m,hm,h⟩:=Option.bind_eq_some_iff.1 h
  obtain⟨r,hr,rfl⟩:=Option.map_eq_some_iff.1 h
  obtain⟨kn,hkn⟩:=Nd (Bw hs N) hn
  obtain⟨km,hkm⟩:=Nd (Bw hs M) hm
  exact Done.of (Xb8 (kn:=kn) (km:=km) hM hz hr hF) (by simp[execOp,ho,hkn,hkm])
 ·
  rename_i X i ho
  obtain⟨v,hv,rfl⟩:=Option.map_eq_some_iff.1 h
  exact Done.same hM (Um (Bw hs X) hv) (by simp[execOp,ho])
 ·
  rename_i f first caps ho
  obtain⟨h0,h⟩:=Option.ite_none_right_eq_some.1 h
  obtain rfl:=Option.some.inj h
  have aa:first= #[]:=Array.eq_empty_of_size_eq_zero h0
  refine Done.same hM (s:=Instr.makeFunc (.func f) (first.map ρ) (caps.map ρ)) ⟨_,rfl,?_⟩ (by simp[execOp,ho])
  subst aa
  rw[show Array.map ρ #[]=(#[]:Array Value)by simp]
  refine .clo f (caps.toList.map (Cm sl)) (caps.map ρ) (by simp) ?_
  intro j y hy
  rw[List.getElem?_map]at hy
  obtain⟨x,hx,rfl⟩:=Option.map_eq_some_iff.1 hy
  have hlt:j<caps.size:=by have:=(List.getElem?_eq_some_iff.1 hx).1;rwa[Array.length_toList]at this
  have hx':caps[j]=x:=by
   rw[Array.getElem?_toList,Array.getElem?_eq_getElem hlt]at hx
   exact Option.some.inj hx
  have:(caps.map ρ).getD j undef=ρ x:=by simp[Array.getD,hlt,hx']
  rw[this]
  exact Bw hs x
 ·
  rename_i cl ho
  unfold Nz at h
  split at h
  ·rename_i x t hc ha ht
   obtain⟨v,hv,rfl⟩:=Option.map_eq_some_iff.1 h
   obtain⟨u,hrun,hr⟩:=XcI (ty:=o.type) (Bw hs x) hv
   refine Done.same hM (s:=Builtin.len_ #[t] o.type #[ρ x]) ⟨u,hrun,hr⟩ ?_
   have ea:cl.args= #[x]:=by rw[←ha]
   have et:cl.argTypes= #[t]:=by rw[←ht]
   simp[execOp,ho,resolve,hc,ea,et,invoke,builtin]
  ·rename_i s x t xt hc ha ht
   split at h
   ·rename_i hcond
    obtain⟨⟨av,new,rr⟩,hv,rfl⟩:=Option.map_eq_some_iff.1 h
    simp only[Bool.and_eq_true,Bool.or_eq_true]at hcond
    obtain⟨hz,hxt⟩:=hcond
    have hxt':(∃e',P.underlying xt=some (.slice e'))∨P.underlying xt=some .string:=by
     rcases hxt with hxt|hxt
     ·unfold Fx at hxt
      split at hxt
      ·rename_i hu;exact .inl ⟨_,hu⟩
      ·cases hxt
     ·unfold Ho at hxt
      split at hxt
      ·rename_i hu;exact .inr hu
      ·cases hxt
    obtain⟨v,E',hrun,ha',hr,_⟩:=Pd (ty:=o.type) hM hxt' hz (Bw hs s) (Bw hs x) hv hF
    have hnew:new.length=1:=XaE hv
    refine⟨v,E',.inl ?_,ha'.mem,ha'.step,?_,?_,ha'.size,hr⟩
    ·have ea:cl.args= #[s,x]:=by rw[←ha]
     have et:cl.argTypes= #[t,xt]:=by rw[←ht]
     simp[execOp,ho,resolve,hc,ea,et,invoke,builtin,hrun]
    ·rw[ha'.rt];rfl
    ·intro r
     rw[ha'.pres]
     simp only[hnew]
     constructor
     ·rintro(h|rfl)
      ·exact .inl h
      ·exact .inr ⟨Nat.le_refl _,by omega⟩
     ·rintro(h|⟨h1,h2⟩)
      ·exact .inl h
      ·exact .inr (by omega)
   ·cases h
  ·rename_i x y hc ha
   obtain⟨v,hv,rfl⟩:=Option.map_eq_some_iff.1 h
   obtain⟨u,hrun,hr⟩:=O9 (P:=P) (ts:=cl.argTypes) (ty:=o.type) (Bw hs x) (Bw hs y) hv
   refine Done.same hM (s:=Builtin.max_ cl.argTypes o.type #[ρ x,ρ y]) ⟨u,by simpa using hrun,hr⟩ ?_
   have ea:cl.args= #[x,y]:=by rw[←ha]
   simp[execOp,ho,resolve,hc,ea,invoke,builtin]
  ·rename_i x y hc ha
   obtain⟨v,hv,rfl⟩:=Option.map_eq_some_iff.1 h
   obtain⟨u,hrun,hr⟩:=O9 (P:=P) (ts:=cl.argTypes) (ty:=o.type) (Bw hs x) (Bw hs y) hv
   refine Done.same hM (s:=Builtin.min_ cl.argTypes o.type #[ρ x,ρ y]) ⟨u,by simpa using hrun,hr⟩ ?_
   have ea:cl.args= #[x,y]:=by rw[←ha]
   simp[execOp,ho,resolve,hc,ea,invoke,builtin]
  ·cases h
 ·cases h
end
open Go
mutual
def AV.ren(f:Nat→Option Nat):AV→Option AV
 | .d x=>some (.d x)
 | .ref r o l=>(f r).map fun r'=>.ref r' o l
 | .ptr r i j=>(f r).map fun r'=>.ptr r' i j
 | .rptr cs=>some (.rptr cs)
 | .agg l=>(AV.rens f l).map .agg
 | .tup l=>(AV.rens f l).map .tup
 | .clo g l=>(AV.rens f l).map (.clo g)
 | .anyb p=>some (.anyb p)
 | .junk=>some .junk
def AV.rens(f:Nat→Option Nat):List AV→Option (List AV)
 |[]=>some []
 |x::l=>(x.ren f).bind fun y=>(AV.rens f l).map (y::·)
end
def Root.ren(f:Nat→Option Nat):Root→Option Root
 | .row sz fz xs=>some (.row sz fz xs)
 | .box t l=>(AV.rens f l).map (.box t)
 | .buf e fz bs=>some (.buf e fz bs)
 | .map ks=>some (.map ks)
 | .dead=>some .dead
theorem Ku{f:Nat→Option Nat}:∀{l l':List AV},AV.rens f l=some l'→l'.length=l.length∧∀(j:Nat) y',l'[j]? =some y'→∃y,l[j]? =some y∧y.ren f=some y'
 |[],l',h=>by simp[AV.rens]at h;subst h;simp
 |x::l,l',h=>by
  simp only[AV.rens]at h
  obtain⟨y,hy,h⟩:=Option.bind_eq_some_iff.1 h
  obtain⟨zs,hz,rfl⟩:=Option.map_eq_some_iff.1 h
  obtain⟨hl,hg⟩:=Ku hz
  refine⟨by simp[hl],?_⟩
  intro j w hw
  cases j with
  |zero=>simp at hw;subst hw;exact⟨x,rfl,hy⟩
  |succ j=>simp at hw;obtain⟨x',h1,h2⟩:=hg j w hw;exact⟨x',by simpa using h1,h2⟩
theorem Xgr{f:Nat→Option Nat}{l l':List AV}(h:AV.rens f l=some l')(j:Nat)(y:AV)(hy:l[j]? =some y):∃y',l'[j]? =some y'∧y.ren f=some y':=by
 obtain⟨hl,hg⟩:=Ku h
 have hj:j<l'.length:=by rw[hl];exact(List.getElem?_eq_some_iff.1 hy).1
 obtain⟨y0,h1,h2⟩:=hg j l'[j] (List.getElem?_eq_getElem hj)
 rw[hy]at h1
 obtain rfl:=Option.some.inj h1
 exact⟨_,List.getElem?_eq_getElem hj,h2⟩
theorem Ix{f:Nat→Option Nat}{R R':Root}(h:R.ren f=some R'):R'.kind=R.kind:=by
 cases R with
 |row=>simp[Root.ren]at h;subst h;rfl
 |buf=>simp[Root.ren]at h;subst h;rfl
 |map=>simp[Root.ren]at h;subst h;rfl
 |box l=>simp only[Root.ren]at h;obtain⟨l',_,rfl⟩:=Option.map_eq_some_iff.1 h;rfl
 |dead=>simp[Root.ren]at h;subst h;rfl
theorem kind_dead{R:Root}:R.kind= .dead↔R= .dead:=by cases R<;>simp[Root.kind]
theorem Hg{f:Nat→Option Nat}{R R':Root}(h:R.ren f=some R'):R'= .dead↔R= .dead:=by
 rw[←kind_dead,Ix h,kind_dead]
structure Conn (f:Nat→Option Nat) (E E':Env):Prop where
 w:E'.w=E.w
 S:∀b,E.S b→E'.S b
 kind:∀r r',f r=some r'→(E'.rt r').map Root.kind=(E.rt r).map Root.kind
 pres:∀r r',f r=some r'→(E'.pres r'↔E.pres r)
 β:∀r r',f r=some r'→E.pres r→E'.β r'=E.β r
theorem Conn.get{f:Nat→Option Nat}{E E':Env}(h:Conn f E E'){r r':Nat}(hf:f r=some r'){R:Root}(hr:E.rt r=some R):∃R',E'.rt r'=some R'∧R'.kind=R.kind:=by
 have:=h.kind r r' hf
 rw[hr]at this
 exact Option.map_eq_some_iff.1 this
theorem Conn.dead{f:Nat→Option Nat}{E E':Env}(h:Conn f E E'){r r':Nat}(hf:f r=some r')(hr:E.rt r=some .dead):E'.rt r'=some .dead:=by
 obtain⟨R',h1,h2⟩:=h.get hf hr
 rw[h1,kind_dead.1 (h2.trans rfl)]
theorem RelAV.conn{f:Nat→Option Nat}{E E':Env}(k:Conn f E E'){x:AV}{v:Value}(h:RelAV E x v):∀{x':AV},x.ren f=some x'→RelAV E' x' v:=by
 have hk:∀b,E.S b→E'.w.heap[b]? =E.w.heap[b]? :=fun b _=>by rw[k.w]
 induction h with
 |d x v h=>intro x' hx;simp[AV.ren]at hx;subst hx;exact .d x v (h.step k.S hk)
 |ref r off len R sz b cap t n h1 hkd h2 h3 h4 h5 h6=>
  intro x' hx
  obtain⟨r',hr,rfl⟩:=Option.map_eq_some_iff.1 hx
  obtain⟨R',hR',hk'⟩:=k.get hr h1
  exact .ref r' off len R' sz b cap t n hR' (hk'.trans hkd) ((k.pres r r' hr).2 h2) ((k.β r r' hr h2).trans h3) (by rw[k.w];exact h4) h5 h6
 |refz r off R sz a h1 hkd h2=>
  intro x' hx
  obtain⟨r',hr,rfl⟩:=Option.map_eq_some_iff.1 hx
  obtain⟨R',hR',hk'⟩:=k.get hr h1
  exact .refz r' off R' sz a hR' (hk'.trans hkd) ((k.pres r r' hr).2 h2)
 |ptr r i j R b h1 h2 h3=>
  intro x' hx
  obtain⟨r',hr,rfl⟩:=Option.map_eq_some_iff.1 hx
  obtain⟨R',hR',hk'⟩:=k.get hr h1
  rw[←hk']
  exact .ptr r' i j R' b hR' ((k.pres r r' hr).2 h2) ((k.β r r' hr h2).trans h3)
 |dref r off len v h1 ho=>
  intro x' hx
  obtain⟨r',hr,rfl⟩:=Option.map_eq_some_iff.1 hx
  exact .dref _ _ _ _ (k.dead hr h1) ho
 |dptr r i j v h1 ho=>
  intro x' hx
  obtain⟨r',hr,rfl⟩:=Option.map_eq_some_iff.1 hx
  exact .dptr _ _ _ _ (k.dead hr h1) ho
 |rptr cs b o us hS hu hr=>
  intro x' hx
  simp[AV.ren]at hx
  subst hx
  exact .rptr cs b o us (k.S b hS) (fun j y hy=>by rw[k.w];exact hu j y hy) (fun j y hy=>(hr j y hy).step k.S hk)
 |agg l us hs _ ho ih=>
  intro x' hx
  simp only[AV.ren]at hx
  obtain⟨l',hl,rfl⟩:=Option.map_eq_some_iff.1 hx
  obtain⟨hlen,hg⟩:=Ku hl
  refine .agg l' us (hs.trans hlen.symm) ?_ ho
  intro j y' hy
  obtain⟨y,h1,h2⟩:=hg j y' hy
  exact ih j y h1 h2
 |tup l us hs _ ih=>
  intro x' hx
  simp only[AV.ren]at hx
  obtain⟨l',hl,rfl⟩:=Option.map_eq_some_iff.1 hx
  obtain⟨hlen,hg⟩:=Ku hl
  refine .tup l' us (hs.trans hlen.symm) ?_
  intro j y' hy
  obtain⟨y,h1,h2⟩:=hg j y' hy
  exact ih j y h1 h2
 |clo g caps us hs _ ih=>
  intro x' hx
  simp only[AV.ren]at hx
  obtain⟨l',hl,rfl⟩:=Option.map_eq_some_iff.1 hx
  obtain⟨hlen,hg⟩:=Ku hl
  refine .clo g l' us (hs.trans hlen.symm) ?_
  intro j y' hy
  obtain⟨y,h1,h2⟩:=hg j y' hy
  exact ih j y h1 h2
 |anyb p b hb=>intro x' hx;simp[AV.ren]at hx;subst hx;exact .anyb p b hb
 |junk v=>intro x' hx;simp[AV.ren]at hx;subst hx;exact .junk v
mutual
theorem Xg9{f g:Nat→Option Nat}(h:∀r r',f r=some r'→g r'=some r):∀{x x':AV},x.ren f=some x'→x'.ren g=some x
 | .d x,x',hx=>by simp[AV.ren]at hx;subst hx;rfl
 | .ref r o l,x',hx=>by
   simp only[AV.ren]at hx
   obtain⟨r',hr,rfl⟩:=Option.map_eq_some_iff.1 hx
   simp[AV.ren,h r r' hr]
 | .ptr r i j,x',hx=>by
   simp only[AV.ren]at hx
   obtain⟨r',hr,rfl⟩:=Option.map_eq_some_iff.1 hx
   simp[AV.ren,h r r' hr]
 | .rptr cs,x',hx=>by simp[AV.ren]at hx;subst hx;rfl
 | .agg l,x',hx=>by
   simp only[AV.ren]at hx
   obtain⟨l',hl,rfl⟩:=Option.map_eq_some_iff.1 hx
   simp[AV.ren,Qr h hl]
 | .tup l,x',hx=>by
   simp only[AV.ren]at hx
   obtain⟨l',hl,rfl⟩:=Option.map_eq_some_iff.1 hx
   simp[AV.ren,Qr h hl]
 | .clo g l,x',hx=>by
   simp only[AV.ren]at hx
   obtain⟨l',hl,rfl⟩:=Option.map_eq_some_iff.1 hx
   simp[AV.ren,Qr h hl]
 | .anyb p,x',hx=>by simp[AV.ren]at hx;subst hx;rfl
 | .junk,x',hx=>by simp[AV.ren]at hx;subst hx;rfl
theorem Qr{f g:Nat→Option Nat}(h:∀r r',f r=some r'→g r'=some r):∀{x x':List AV},AV.rens f x=some x'→AV.rens g x'=some x
 |[],x',hx=>by simp[AV.rens]at hx;subst hx;rfl
 |x::l,x',hx=>by
  simp only[AV.rens]at hx
  obtain⟨y,hy,hx⟩:=Option.bind_eq_some_iff.1 hx
  obtain⟨zs,hz,rfl⟩:=Option.map_eq_some_iff.1 hx
  simp[AV.rens,Xg9 h hy,Qr h hz]
end
theorem Xb1{f g:Nat→Option Nat}(h:∀r r',f r=some r'→g r'=some r){R R':Root}(hx:R.ren f=some R'):R'.ren g=some R:=by
 cases R with
 |row=>simp[Root.ren]at hx;subst hx;rfl
 |buf=>simp[Root.ren]at hx;subst hx;rfl
 |map=>simp[Root.ren]at hx;subst hx;rfl
 |box t l=>
  simp only[Root.ren]at hx
  obtain⟨l',hl,rfl⟩:=Option.map_eq_some_iff.1 hx
  simp[Root.ren,Qr h hl]
 |dead=>simp[Root.ren]at hx;subst hx;rfl
theorem Conn.back{f g:Nat→Option Nat}{E E':Env}(k:Conn f E E')(hS:∀b,E'.S b→E.S b)(h:∀r' r,g r'=some r→f r=some r'):Conn g E' E where
 w:=k.w.symm
 S:=hS
 kind:=fun r' r hr=>(k.kind r r' (h r' r hr)).symm
 pres:=fun r' r hr=>(k.pres r r' (h r' r hr)).symm
 β:=fun r' r hr hp=>(k.β r r' (h r' r hr) ((k.pres r r' (h r' r hr)).1 hp)).symm
theorem RootRel.conn{f:Nat→Option Nat}{E E':Env}(k:Conn f E E')(hS':∀b,E'.S b→E.S b){r r':Nat}(hf:f r=some r')(hp:E.pres r){R R':Root}(hR:R.ren f=some R')(h:RootRel E r R):RootRel E' r' R':=by
 have hk:∀b,E.S b→E'.w.heap[b]? =E.w.heap[b]? :=fun b _=>by rw[k.w]
 cases R with
 |dead=>simp[Root.ren]at hR;subst hR;trivial
 |map ks=>
  simp[Root.ren]at hR
  subst hR
  obtain⟨b,es,cl,h1,h2,h3,h4⟩:=h
  exact⟨b,es,cl,(k.β r r' hf hp).trans h1,by rw[k.w];exact h2,h3,fun h=>h4 (hS' b h)⟩
 |buf e fz bs=>
  simp[Root.ren]at hR
  subst hR
  rcases h with⟨h1,h2⟩|⟨b,cs,fr,h1,h2,h3,h4,h5,h6⟩
  ·exact .inl ⟨(k.β r r' hf hp).trans h1,h2⟩
  ·exact .inr ⟨b,cs,fr,(k.β r r' hf hp).trans h1,by rw[k.w];exact h2,h3,h4,fun h=>h5 (hS' b h),h6⟩
 |row sz fz xs=>
  simp[Root.ren]at hR
  subst hR
  rcases h with⟨h1,h2⟩|⟨b,cs,t,fr,h1,h2,h3,h4,h5,h6⟩
  ·exact .inl ⟨(k.β r r' hf hp).trans h1,h2⟩
  ·refine .inr ⟨b,cs,t,fr,(k.β r r' hf hp).trans h1,by rw[k.w];exact h2,h3,h4,?_,?_⟩
   ·intro i x j y hx hy
    obtain⟨u,hu,hr⟩:=h5 i x j y hx hy
    exact⟨u,hu,hr.step k.S hk⟩
   ·rcases h6 with⟨h6,h7⟩|⟨h6,h7,h8⟩
    ·exact .inl ⟨h6,k.S b h7⟩
    ·exact .inr ⟨h6,fun h=>h7 (hS' b h),h8⟩
 |box t l=>
  simp only[Root.ren]at hR
  obtain⟨l',hl,rfl⟩:=Option.map_eq_some_iff.1 hR
  obtain⟨hlen,hg⟩:=Ku hl
  obtain⟨b,cs,fr,h1,h2,h3,h4,h5,h6⟩:=h
  refine⟨b,cs,fr,(k.β r r' hf hp).trans h1,by rw[k.w];exact h2,h3.trans hlen.symm,?_,fun h=>h5 (hS' b h),h6⟩
  intro j y' hy
  obtain⟨y,h1,h2⟩:=hg j y' hy
  obtain⟨u,hu,ho,hr⟩:=h4 j y h1
  exact⟨u,hu,ho,hr.conn k h2⟩
def XcC(E:Env)(as0:List AV)(vs:Array Value):Prop:=vs.size=as0.length∧∀(j:Nat) y,as0[j]? =some y→RelAV E y (vs.getD j undef)
def F3(w:World)(S:Nat→Prop)(β:Nat→Option Nat)(r0:List Root):Ctx:=⟨w,fun b=>∃(r:Nat) (R:Root),r0[r]? =some R∧R≠.dead∧β r=some b,S,r0.length,β⟩
def B1(w:World)(S:Nat→Prop)(β:Nat→Option Nat)(r0 new:List Root):Env:=⟨fun r=>(r0++new)[r]?,fun r=>r<r0.length,β,S,w⟩
def CallOk(P:Program)(f:FuncId)(as0:List AV)(r0:List Root)(o:Out):Prop:=
 ∀w S β vs,Mem (F3 w S β r0) (B1 w S β r0 o.new)→XcC (B1 w S β r0 o.new) as0 vs→
  Calls P f vs w fun e w'=>∃v E',e= .returned v∧E'.w=w'∧OutRel (F3 w S β r0) (B1 w S β r0 o.new) r0.length o v E'
open Go
def Bo(π:List Nat)(nb n:Nat):Nat→Option Nat:=fun i=>if i<π.length then π[i]? else if i<π.length+n then some (nb+(i - π.length))else none
def Fl(f:Nat→Option Nat):List Root→Option (List Root)
 |[]=>some []
 |R::l=>(R.ren f).bind fun R'=>(Fl f l).map (R'::·)
def Xiy(f:Nat→Option Nat):List (Nat×Root)→Option (List (Nat×Root))
 |[]=>some []
 |(i,R)::l=>(f i).bind fun i'=>(R.ren f).bind fun R'=>(Xiy f l).map ((i',R')::·)
def Out.ren(f:Nat→Option Nat)(o:Out):Option Out:=(o.av.ren f).bind fun av=>(Fl f o.new).bind fun new=>(Xiy f o.g).map fun g=>⟨av,new,g⟩
theorem Gp{f:Nat→Option Nat}:∀{l l':List Root},Fl f l=some l'→l'.length=l.length∧∀(j:Nat) y,l[j]? =some y→∃y',l'[j]? =some y'∧y.ren f=some y'
 |[],l',h=>by simp[Fl]at h;subst h;simp
 |x::l,l',h=>by
  simp only[Fl]at h
  obtain⟨y,hy,h⟩:=Option.bind_eq_some_iff.1 h
  obtain⟨zs,hz,rfl⟩:=Option.map_eq_some_iff.1 h
  obtain⟨hl,hg⟩:=Gp hz
  refine⟨by simp[hl],?_⟩
  intro j w hw
  cases j with
  |zero=>simp at hw;subst hw;exact⟨y,rfl,hy⟩
  |succ j=>simp at hw;obtain⟨x',h1,h2⟩:=hg j w hw;exact⟨x',by simpa using h1,h2⟩
theorem Xe2{f:Nat→Option Nat}(hinj:∀i j r,f i=some r→f j=some r→i=j){rt rt':Nat→Option Root}:∀{g g':List (Nat×Root)},Xiy f g=some g'→∀{i r:Nat},f i=some r→
  (∀R,rt i=some R→∃R',rt' r=some R'∧R.ren f=some R')→∀R,Lz g rt i=some R→∃R',Lz g' rt' r=some R'∧R.ren f=some R'
 |[],g',h,i,r,hf,hb,R,hR=>by simp[Xiy]at h;subst h;exact hb R hR
 |(j,Rj)::g,g',h,i,r,hf,hb,R,hR=>by
  simp only[Xiy]at h
  obtain⟨j',hj,h⟩:=Option.bind_eq_some_iff.1 h
  obtain⟨Rj',hRj,h⟩:=Option.bind_eq_some_iff.1 h
  obtain⟨g1,hg,rfl⟩:=Option.map_eq_some_iff.1 h
  simp only[Lz]at hR⊢
  by_cases e:i=j
  ·subst e
   rw[if_pos rfl]at hR
   obtain rfl:=Option.some.inj hR
   rw[hf]at hj
   obtain rfl:=Option.some.inj hj
   exact⟨Rj',by rw[if_pos rfl],hRj⟩
  ·rw[if_neg e]at hR
   have e':¬r=j':=fun e'=>e (hinj i j r hf (by rw[e'];exact hj))
   rw[if_neg e']
   exact Xe2 hinj hg hf hb R hR
theorem T0{f:Nat→Option Nat}{rt:Nat→Option Root}:∀{g g':List (Nat×Root)},Xiy f g=some g'→∀{r:Nat},(∀i,f i≠some r)→Lz g' rt r=rt r
 |[],g',h,r,hr=>by simp[Xiy]at h;subst h;rfl
 |(j,Rj)::g,g',h,r,hr=>by
  simp only[Xiy]at h
  obtain⟨j',hj,h⟩:=Option.bind_eq_some_iff.1 h
  obtain⟨Rj',hRj,h⟩:=Option.bind_eq_some_iff.1 h
  obtain⟨g1,hg,rfl⟩:=Option.map_eq_some_iff.1 h
  simp only[Lz]
  have e':¬r=j':=fun e=>hr j (by rw[e];exact hj)
  rw[if_neg e']
  exact T0 hg hr
structure Handed (E:Env) (π:List Nat) (nb:Nat) (r0 new new':List Root):Prop where
 len:π.length=r0.length
 nodup:π.Nodup
 lt:∀r∈π,r<nb
 pres:∀r∈π,E.pres r
 rts:∀(i:Nat) r R,π[i]? =some r→r0[i]? =some R→∃R',E.rt r=some R'∧R.ren (Bo π nb new.length)=some R'
 new:Fl (Bo π nb new.length) new=some new'
section
variable {P:Program} {c:Ctx} {E:Env} {π:List Nat} {nb:Nat} {r0 new new':List Root}
theorem Eg{n i r:Nat}(h:Bo π nb n i=some r):(i<π.length∧π[i]? =some r)∨(π.length≤i∧i<π.length+n∧r=nb+(i - π.length)):=by
 unfold Bo at h
 split at h
 ·exact .inl ⟨by assumption,h⟩
 ·split at h
  ·exact .inr ⟨by omega,by assumption,(Option.some.inj h).symm⟩
  ·cases h
theorem Mv(H:Handed E π nb r0 new new'){i j r:Nat}(hi:Bo π nb new.length i=some r)(hj:Bo π nb new.length j=some r):i=j:=by
 rcases Eg hi with⟨h1,h2⟩|⟨h1,h2,h3⟩<;>rcases Eg hj with⟨k1,k2⟩|⟨k1,k2,k3⟩
 ·exact(List.getElem?_inj h1 H.nodup).1 (h2.trans k2.symm)
 ·have:=H.lt r (List.mem_of_getElem? h2);omega
 ·have:=H.lt r (List.mem_of_getElem? k2);omega
 ·omega
def Jg(E:Env)(π:List Nat):Nat→Option Nat:=fun i=>(π[i]?).bind E.β
theorem Ju{i r:Nat}(h:π[i]? =some r):Jg E π i=E.β r:=by simp[Jg,h]
theorem Wh(hF:Fresh c E nb new')(H:Handed E π nb r0 new new'):Conn (Bo π nb new.length) (B1 E.w E.S (Jg E π) r0 new) E where
 w:=rfl
 S:=fun _ h=>h
 kind:=by
  intro i r hi
  obtain⟨hl,hg⟩:=Gp H.new
  rcases Eg hi with⟨h1,h2⟩|⟨h1,h2,h3⟩
  ·have hlt:i<r0.length:=by rw[←H.len];exact h1
   obtain⟨R',hR',hren⟩:=H.rts i r r0[i] h2 (List.getElem?_eq_getElem hlt)
   rw[hR']
   show _=((r0++new)[i]?).map Root.kind
   rw[List.getElem?_append_left hlt,List.getElem?_eq_getElem hlt]
   simp[Ix hren]
  ·have hk:i - r0.length<new.length:=by rw[←H.len];omega
   obtain⟨y',hy',hren⟩:=hg (i - r0.length) new[i - r0.length] (List.getElem?_eq_getElem hk)
   rw[h3,H.len,hF.rt _ _ hy']
   show _=((r0++new)[i]?).map Root.kind
   rw[List.getElem?_append_right (by rw[←H.len];exact h1),List.getElem?_eq_getElem hk]
   simp[Ix hren]
 pres:=by
  intro i r hi
  show _↔i<r0.length
  obtain⟨hl,hg⟩:=Gp H.new
  rcases Eg hi with⟨h1,h2⟩|⟨h1,h2,h3⟩
  ·exact⟨fun _=>by rw[←H.len];exact h1,fun _=>H.pres r (List.mem_of_getElem? h2)⟩
  ·refine⟨fun h=>?_,fun h=>by rw[←H.len]at h;omega⟩
   rw[h3]at h
   exact absurd h (hF.np _ (by rw[hl];omega))
 β:=by
  intro i r hi hp
  have hp':i<r0.length:=hp
  rcases Eg hi with⟨h1,h2⟩|⟨h1,h2,h3⟩
  ·show E.β r=(π[i]?).bind E.β
   rw[h2];rfl
  ·rw[←H.len]at hp';omega
theorem XiK(hM:Mem c E)(hF:Fresh c E nb new')(H:Handed E π nb r0 new new'):Mem (F3 E.w E.S (Jg E π) r0) (B1 E.w E.S (Jg E π) r0 new):=by
 have aa:∀{i:Nat},i<r0.length→∃r,π[i]? =some r∧r∈π:=fun{i} hi=>by
  have hi':i<π.length:=by rw[H.len];exact hi
  exact⟨π[i],List.getElem?_eq_getElem hi',List.getElem_mem _⟩
 have hrt:∀{i:Nat} {R:Root},i<r0.length→(r0++new)[i]? =some R→r0[i]? =some R:=fun{i R} hi h=>by rwa[List.getElem?_append_left hi]at h
 exact{
  os:=rfl
  output:=rfl
  tape:=rfl
  size:=Nat.le_refl _
  keep:=fun _ _ _=>rfl
  shape:=fun _ _ h=>h
  s0:=fun _ h=>h
  slt:=hM.slt
  glob:=hM.glob
  snew:=fun _ h=>.inl h
  blt:=by
   intro i b hi hb
   obtain⟨r,h1,h2⟩:=aa hi
   rw[show(B1 E.w E.S (Jg E π) r0 new).β i=E.β r from Ju h1]at hb
   exact hM.blt r b (H.pres r h2) hb
  bown:=fun i R b hi hR hd hb=>.inr ⟨i,R,hrt hi hR,hd,hb⟩
  bkeep:=fun _ _ _ _ _ _=>rfl
  inj:=by
   intro i j R R' b hi hj hR hd hR' hd' hb hb'
   obtain⟨r,h1,h2⟩:=aa hi
   obtain⟨r',h1',h2'⟩:=aa hj
   obtain⟨Q,hQ,hren⟩:=H.rts i r R h1 (hrt hi hR)
   obtain⟨Q',hQ',hren'⟩:=H.rts j r' R' h1' (hrt hj hR')
   rw[show(B1 E.w E.S (Jg E π) r0 new).β i=E.β r from Ju h1]at hb
   rw[show(B1 E.w E.S (Jg E π) r0 new).β j=E.β r' from Ju h1']at hb'
   have:=hM.inj r r' Q Q' b (H.pres r h2) (H.pres r' h2') hQ (fun e=>hd ((Hg hren).1 e)) hQ' (fun e=>hd' ((Hg hren').1 e)) hb hb'
   subst this
   exact(List.getElem?_inj (by rw[H.len];exact hi) H.nodup).1 (h1.trans h1'.symm)
  roots:=by
   intro i R hi hR
   obtain⟨r,h1,h2⟩:=aa hi
   obtain⟨Q,hQ,hren⟩:=H.rts i r R h1 (hrt hi hR)
   have hf:Bo π nb new.length i=some r:=by unfold Bo;rw[if_pos (by rw[H.len];exact hi)];exact h1
   let g:Nat→Option Nat:=fun r'=>if r'=r then some i else
    open Classical in if h:∃j,Bo π nb new.length j=some r' then some h.choose else none
   have hg:∀j r',Bo π nb new.length j=some r'→g r'=some j:=by
    intro j r' hj
    show(if r'=r then some i else _)=_
    split
    ·rename_i e;subst e;rw[Mv H hf hj]
    ·rw[dif_pos ⟨j,hj⟩]
     exact congrArg some (Mv H (Exists.choose_spec (⟨j,hj⟩:∃j,Bo π nb new.length j=some r')) hj)
   have hg':∀r' j,g r'=some j→Bo π nb new.length j=some r':=by
    intro r' j hj
    have hj':(if r'=r then some i else
     open Classical in if h:∃j,Bo π nb new.length j=some r' then some h.choose else none)=some j:=hj
    split at hj'
    ·rename_i e;subst e;rw[←Option.some.inj hj'];exact hf
    ·split at hj'
     ·rename_i h;rw[←Option.some.inj hj'];exact h.choose_spec
     ·cases hj'
   exact RootRel.conn ((Wh hF H).back (fun _ h=>h) hg') (fun _ h=>h) (hg i r hf) (H.pres r h2) (Xb1 hg hren) (hM.roots r Q (H.pres r h2) hQ)}
end
open Go
section
variable {P:Program} {c:Ctx} {E E1:Env} {π:List Nat} {nb:Nat} {r0 new new':List Root} {o o':Out} {v:Value}
def Env.after(E E1:Env)(nb n m:Nat)(g:List (Nat×Root)):Env where
 rt:=Lz g E.rt
 pres:=fun r=>E.pres r∨(nb≤r∧r<nb+n)
 β:=fun r=>if nb≤r∧r<nb+n then E1.β (m+(r - nb))else E.β r
 S:=E1.S
 w:=E1.w
theorem Xgv(hM:Mem c E)(hF:Fresh c E nb new')(H:Handed E π nb r0 o.new new')(hg:Xiy (Bo π nb o.new.length) o.g=some o'.g)(hav:o.av.ren (Bo π nb o.new.length)=some o'.av)(hn:o'.new=new')
  (h:OutRel (F3 E.w E.S (Jg E π) r0) (B1 E.w E.S (Jg E π) r0 o.new) r0.length o v E1):
  OutRel c E nb o' v (E.after E1 nb o.new.length π.length o'.g):=by
 have hinj:∀i j r,Bo π nb o.new.length i=some r→Bo π nb o.new.length j=some r→i=j:=fun i j r hi hj=>Mv H hi hj
 obtain⟨hlen,hget⟩:=Gp H.new
 have hfresh:∀{r},E.pres r→¬(nb≤r∧r<nb+o.new.length):=by
  intro r hp hr
  have:=hF.np (r - nb) (by rw[hlen];omega)
  rw[show nb+(r - nb)=r by omega]at this
  exact this hp
 have hold:∀{i r:Nat},π[i]? =some r→Bo π nb o.new.length i=some r:=by
  intro i r h
  unfold Bo
  rw[if_pos (List.getElem?_eq_some_iff.1 h).1]
  exact h
 have hnew:∀{r:Nat},nb≤r→r<nb+o.new.length→Bo π nb o.new.length (π.length+(r - nb))=some r:=by
  intro r h1 h2
  unfold Bo
  rw[if_neg (by omega),if_pos (by omega)]
  congr 1
  omega
 have hrt:∀{i r:Nat},Bo π nb o.new.length i=some r→∀R,E1.rt i=some R→∃R',Lz o'.g E.rt r=some R'∧R.ren (Bo π nb o.new.length)=some R':=by
  intro i r hi R hR
  rw[h.rt]at hR
  refine Xe2 hinj hg hi ?_ R hR
  intro R0 hR0
  have hR0':(r0++o.new)[i]? =some R0:=hR0
  rcases Eg hi with⟨h1,h2⟩|⟨h1,h2,h3⟩
  ·exact H.rts i r R0 h2 (by rwa[List.getElem?_append_left (by rw[←H.len];exact h1)]at hR0')
  ·rw[List.getElem?_append_right (by rw[←H.len];exact h1)]at hR0'
   obtain⟨y',hy',hren⟩:=hget _ _ hR0'
   exact⟨y',by rw[h3,H.len,hF.rt _ _ hy'],hren⟩
 have hpre1:∀{i:Nat},E1.pres i↔i<r0.length+o.new.length:=by
  intro i
  rw[h.pres]
  show i<r0.length∨_↔_
  omega
 have hE0rt:∀{i:Nat},i<r0.length+o.new.length→∃R,E1.rt i=some R:=by
  intro i hi
  have:∃R,(B1 E.w E.S (Jg E π) r0 o.new).rt i=some R:=⟨(r0++o.new)[i]'(by simp;omega),List.getElem?_eq_getElem (by simp;omega)⟩
  obtain⟨R,hR⟩:=this
  obtain⟨R',hR',_⟩:=h.step.rt i R hR
  exact⟨R',hR'⟩
 have hdom:∀{i r:Nat},Bo π nb o.new.length i=some r→i<r0.length+o.new.length:=by
  intro i r hi
  rcases Eg hi with⟨h1,h2⟩|⟨h1,h2,h3⟩<;>rw[←H.len]<;>omega
 have hβ:∀{i r:Nat},Bo π nb o.new.length i=some r→(E.after E1 nb o.new.length π.length o'.g).β r=E1.β i:=by
  intro i r hi
  show(if nb≤r∧r<nb+o.new.length then E1.β (π.length+(r - nb))else E.β r)=_
  rcases Eg hi with⟨h1,h2⟩|⟨h1,h2,h3⟩
  ·rw[if_neg (hfresh (H.pres r (List.mem_of_getElem? h2)))]
   rw[h.step.β i (show i<r0.length by rw[←H.len];exact h1)]
   exact(Ju h2).symm
  ·rw[if_pos (by omega)]
   congr 1
   omega
 have hC:Conn (Bo π nb o.new.length) E1 (E.after E1 nb o.new.length π.length o'.g):=by
  refine⟨rfl,fun _ h=>h,?_,?_,fun i r hi _=>hβ hi⟩
  ·intro i r hi
   obtain⟨R,hR⟩:=hE0rt (hdom hi)
   obtain⟨R',hR',hren⟩:=hrt hi R hR
   rw[show(E.after E1 nb o.new.length π.length o'.g).rt r=some R' from hR',hR]
   simp[Ix hren]
  ·intro i r hi
   rw[hpre1]
   refine⟨fun _=>hdom hi,fun _=>?_⟩
   rcases Eg hi with⟨h1,h2⟩|⟨h1,h2,h3⟩
   ·exact .inl (H.pres r (List.mem_of_getElem? h2))
   ·exact .inr (by omega)
 have hSt:Step E (E.after E1 nb o.new.length π.length o'.g):=by
  refine⟨?_,fun r hr=>.inl hr,?_,h.mem.s0,?_,?_⟩
  ·intro r R hR
   by_cases hm:∃i,Bo π nb o.new.length i=some r
   ·obtain⟨i,hi⟩:=hm
    obtain⟨R1,hR1⟩:=hE0rt (hdom hi)
    obtain⟨R',hR',hren⟩:=hrt hi R1 hR1
    refine⟨R',hR',?_⟩
    have hk:=(Wh hF H).kind i r hi
    rw[hR]at hk
    obtain⟨Q,hQ,hkQ⟩:=Option.map_eq_some_iff.1 hk.symm
    obtain⟨Q1,hQ1,hd⟩:=h.step.rt i Q hQ
    rw[hR1]at hQ1
    obtain rfl:=Option.some.inj hQ1
    rcases hd with hd|hd
    ·exact .inl ((Hg hren).2 hd)
    ·exact .inr ((Ix hren).trans (hd.trans hkQ))
   ·exact⟨R,by rw[show(E.after E1 nb o.new.length π.length o'.g).rt r=Lz o'.g E.rt r from rfl,T0 hg (fun i hi=>hm ⟨i,hi⟩)];exact hR,.inr rfl⟩
  ·intro r hr
   exact if_neg (hfresh hr)
  ·exact fun b hb=>h.step.heap b hb
  ·exact fun b s hs=>h.mem.shape b s hs
 have hnd:∀{r R},E.pres r→(E.after E1 nb o.new.length π.length o'.g).rt r=some R→R≠.dead→∃R0,E.rt r=some R0∧R0≠.dead:=by
  intro r R hp hR hd
  have hex:∃R0,E.rt r=some R0:=by
   by_cases hm:∃i,Bo π nb o.new.length i=some r
   ·obtain⟨i,hi⟩:=hm
    rcases Eg hi with⟨h1,h2⟩|⟨h1,h2,h3⟩
    ·have hlt:i<r0.length:=by rw[←H.len];exact h1
     obtain⟨R',hR',_⟩:=H.rts i r r0[i] h2 (List.getElem?_eq_getElem hlt)
     exact⟨R',hR'⟩
    ·exact absurd (show nb≤r∧r<nb+o.new.length by omega) (hfresh hp)
   ·have:(E.after E1 nb o.new.length π.length o'.g).rt r=E.rt r:=T0 hg (fun i hi=>hm ⟨i,hi⟩)
    exact⟨R,by rw[←this];exact hR⟩
  obtain⟨R0,hR0⟩:=hex
  refine⟨R0,hR0,?_⟩
  rintro rfl
  obtain⟨R',hR',hk⟩:=hSt.rt r _ hR0
  rw[hR]at hR'
  obtain rfl:=Option.some.inj hR'
  rcases hk with hk|hk
  ·exact hd hk
  ·exact hd (kind_dead.1 (hk.trans rfl))
 have hown:∀{b},(F3 E.w E.S (Jg E π) r0).own b→∃r,r∈π∧(∃R,E.rt r=some R∧R≠.dead)∧E.β r=some b:=by
  rintro b ⟨i,R,hR,hd,hb⟩
  have hi:i<π.length:=by rw[H.len];exact(List.getElem?_eq_some_iff.1 hR).1
  have hπ:π[i]? =some π[i]:=List.getElem?_eq_getElem hi
  obtain⟨R',hR',hren⟩:=H.rts i _ R hπ hR
  exact⟨π[i],List.getElem_mem hi,⟨R',hR',fun e=>hd ((Hg hren).1 e)⟩,by rw[←Ju (E:=E) hπ];exact hb⟩
 have hown':∀{b},(F3 E.w E.S (Jg E π) r0).own b→c.w0.heap.size≤b∨c.own b:=by
  intro b hb
  obtain⟨r,hr,⟨R,hR,hd⟩,hb'⟩:=hown hb
  exact hM.bown r R b (H.pres r hr) hR hd hb'
 have oldβ:∀{r},E.pres r→(E.after E1 nb o.new.length π.length o'.g).β r=E.β r:=fun hp=>if_neg (hfresh hp)
 have newi:∀{r R},(nb≤r∧r<nb+o.new.length)→(E.after E1 nb o.new.length π.length o'.g).rt r=some R→R≠.dead→
   ∃R1,E1.rt (π.length+(r - nb))=some R1∧R1≠.dead∧E1.pres (π.length+(r - nb)):=by
  intro r R hr hR hd
  have hi:=hnew hr.1 hr.2
  obtain⟨R1,hR1⟩:=hE0rt (hdom hi)
  obtain⟨R',hR',hren⟩:=hrt hi R1 hR1
  rw[show(E.after E1 nb o.new.length π.length o'.g).rt r=some R' from hR']at hR
  obtain rfl:=Option.some.inj hR
  exact⟨R1,hR1,fun e=>hd ((Hg hren).2 e),hpre1.2 (hdom hi)⟩
 have crossed:∀{r r' R R' b},E.pres r→(E.after E1 nb o.new.length π.length o'.g).rt r=some R→R≠.dead→(nb≤r'∧r'<nb+o.new.length)→(E.after E1 nb o.new.length π.length o'.g).rt r'=some R'→R'≠.dead→
   (E.after E1 nb o.new.length π.length o'.g).β r=some b→(E.after E1 nb o.new.length π.length o'.g).β r'=some b→False:=by
  intro r r' R R' b hp hR hd hr' hR' hd' hb hb'
  obtain⟨R0,hR0,aa⟩:=hnd hp hR hd
  obtain⟨R1,hR1,ab,ac⟩:=newi hr' hR' hd'
  rw[oldβ hp]at hb
  rw[hβ (hnew hr'.1 hr'.2)]at hb'
  rcases h.mem.bown _ _ _ ac hR1 ab hb' with hlt|ho
  ·have:=hM.blt r b hp hb
   have hlt':E.w.heap.size≤b:=hlt
   omega
  ·obtain⟨s,hs,⟨Rs,hRs,hds⟩,hbs⟩:=hown ho
   have:=hM.inj r s R0 Rs b hp (H.pres s hs) hR0 aa hRs hds hb hbs
   subst this
   obtain⟨i,hi,hgi⟩:=List.getElem_of_mem hs
   have hfi:=hold (List.getElem?_eq_some_iff.2 ⟨hi,hgi⟩)
   obtain⟨R2,hR2⟩:=hE0rt (hdom hfi)
   obtain⟨R3,hR3,hren⟩:=hrt hfi R2 hR2
   rw[show(E.after E1 nb o.new.length π.length o'.g).rt r=some R3 from hR3]at hR
   obtain rfl:=Option.some.inj hR
   have ad:R2≠.dead:=fun e=>hd ((Hg hren).2 e)
   have hb2:E1.β i=some b:=by rw[←hβ hfi,oldβ hp];exact hb
   have:=h.mem.inj i _ R2 R1 b (hpre1.2 (hdom hfi)) ac hR2 ad hR1 ab hb2 hb'
   omega
 refine⟨?_,hSt,rfl,?_,h.size,h.rel.conn hC hav⟩
 ·exact{
   os:=h.mem.os.trans hM.os
   output:=h.mem.output.trans hM.output
   tape:=h.mem.tape.trans hM.tape
   size:=Nat.le_trans hM.size h.size
   keep:=by
    intro b hb ho
    rw[show(E.after E1 nb o.new.length π.length o'.g).w.heap[b]? =E.w.heap[b]? from h.mem.keep b (Nat.lt_of_lt_of_le hb hM.size) (fun hc=>(hown' hc).elim (fun hc=>by omega) ho)]
    exact hM.keep b hb ho
   shape:=fun b s hs=>h.mem.shape b s (hM.shape b s hs)
   s0:=fun b hb=>h.mem.s0 b (hM.s0 b hb)
   slt:=h.mem.slt
   glob:=h.mem.glob
   snew:=by
    intro b hb
    rcases h.mem.snew b hb with h1|h1|h1
    ·exact hM.snew b h1
    ·have h1':E.w.heap.size≤b:=h1
     exact .inr (.inl (Nat.le_trans hM.size h1'))
    ·exact .inr (hown' h1)
   blt:=by
    intro r b hp hb
    rcases hp with hp|hp
    ·rw[oldβ hp]at hb
     exact Nat.lt_of_lt_of_le (hM.blt r b hp hb) h.size
    ·rw[hβ (hnew hp.1 hp.2)]at hb
     exact h.mem.blt _ b (hpre1.2 (hdom (hnew hp.1 hp.2))) hb
   bown:=by
    intro r R b hp hR hd hb
    rcases hp with hp|hp
    ·obtain⟨R0,hR0,aa⟩:=hnd hp hR hd
     rw[oldβ hp]at hb
     exact hM.bown r R0 b hp hR0 aa hb
    ·obtain⟨R1,hR1,ab,ac⟩:=newi hp hR hd
     rw[hβ (hnew hp.1 hp.2)]at hb
     rcases h.mem.bown _ _ _ ac hR1 ab hb with hlt|ho
     ·have hlt':E.w.heap.size≤b:=hlt
      exact .inl (Nat.le_trans hM.size hlt')
     ·exact hown' ho
   bkeep:=by
    intro r R hlt hp hR hd
    have hp':E.pres r:=hp.resolve_right (fun h=>by have:=hF.m;omega)
    obtain⟨R0,hR0,aa⟩:=hnd hp' hR hd
    rw[oldβ hp']
    exact hM.bkeep r R0 hlt hp' hR0 aa
   inj:=by
    intro r r' R R' b hp hp' hR hd hR' hd' hb hb'
    rcases hp with hp|hp<;>rcases hp' with hp'|hp'
    ·obtain⟨R0,hR0,aa⟩:=hnd hp hR hd
     obtain⟨R1,hR1,ab⟩:=hnd hp' hR' hd'
     rw[oldβ hp]at hb
     rw[oldβ hp']at hb'
     exact hM.inj r r' R0 R1 b hp hp' hR0 aa hR1 ab hb hb'
    ·exact(crossed hp hR hd hp' hR' hd' hb hb').elim
    ·exact(crossed hp' hR' hd' hp hR hd hb' hb).elim
    ·obtain⟨R0,hR0,aa,ae⟩:=newi hp hR hd
     obtain⟨R1,hR1,ab,ac⟩:=newi hp' hR' hd'
     rw[hβ (hnew hp.1 hp.2)]at hb
     rw[hβ (hnew hp'.1 hp'.2)]at hb'
     have:=h.mem.inj _ _ R0 R1 b ae ac hR0 aa hR1 ab hb hb'
     omega
   roots:=by
    intro r R hp hR
    by_cases hm:∃i,Bo π nb o.new.length i=some r
    ·obtain⟨i,hi⟩:=hm
     obtain⟨R1,hR1⟩:=hE0rt (hdom hi)
     obtain⟨R',hR',hren⟩:=hrt hi R1 hR1
     rw[show(E.after E1 nb o.new.length π.length o'.g).rt r=some R' from hR']at hR
     obtain rfl:=Option.some.inj hR
     exact RootRel.conn hC (fun _ h=>h) hi (hpre1.2 (hdom hi)) hren (h.mem.roots i R1 (hpre1.2 (hdom hi)) hR1)
    ·have hp':E.pres r:=hp.resolve_right (fun h=>hm ⟨_,hnew h.1 h.2⟩)
     have hsame:(E.after E1 nb o.new.length π.length o'.g).rt r=E.rt r:=T0 hg (fun i hi=>hm ⟨i,hi⟩)
     by_cases hd:R= .dead
     ·subst hd;trivial
     rw[hsame]at hR
     have notown:∀b,E.β r=some b→¬(F3 E.w E.S (Jg E π) r0).own b:=by
      intro b hb ho
      obtain⟨s,hs,⟨Rs,hRs,hds⟩,hbs⟩:=hown ho
      have:=hM.inj r s R Rs b hp' (H.pres s hs) hR hd hRs hds hb hbs
      subst this
      obtain⟨i,hi,hgi⟩:=List.getElem_of_mem hs
      exact hm ⟨i,hold (List.getElem?_eq_some_iff.2 ⟨hi,hgi⟩)⟩
     refine RootRel.step hSt hp' ?_ ?_ (hM.roots r R hp' hR)
     ·intro b hb
      exact h.mem.keep b (hM.blt r b hp' hb) (notown b hb)
     ·intro b hb hS
      rcases h.mem.snew b hS with h1|h1|h1
      ·exact h1
      ·have h1':E.w.heap.size≤b:=h1
       have:=hM.blt r b hp' hb
       omega
      ·exact(notown b hb h1).elim}
 ·intro r
  rw[hn,hlen]
  exact Iff.rfl
theorem CallOk.at(hM:Mem c E){f:FuncId}{as0 as0':List AV}{vs:Array Value}(hc:CallOk P f as0 r0 o)(hF:Fresh c E nb o'.new)(H:Handed E π nb r0 o.new o'.new)(ho:o.ren (Bo π nb o.new.length)=some o')
  (ha:AV.rens (Bo π nb o.new.length) as0=some as0')(hv:XcC E as0' vs):
  Calls P f vs E.w fun e w'=>∃v E',e= .returned v∧E'.w=w'∧OutRel c E nb o' v E'∧∀b,b<E.w.heap.size→(∀r∈π,E.β r≠some b)→E'.w.heap[b]? =E.w.heap[b]? :=by
 unfold Out.ren at ho
 obtain⟨av,hav,ho⟩:=Option.bind_eq_some_iff.1 ho
 obtain⟨new,hnew,ho⟩:=Option.bind_eq_some_iff.1 ho
 obtain⟨g,hg,rfl⟩:=Option.map_eq_some_iff.1 ho
 have hinv:∀r r',Bo π nb o.new.length r=some r'→(fun r'=>(open Classical in if h:∃j,Bo π nb o.new.length j=some r' then some h.choose else none:Option Nat)) r'=some r:=by
  intro r r' hr
  show(open Classical in if h:∃j,Bo π nb o.new.length j=some r' then some h.choose else none:Option Nat)=some r
  rw[dif_pos ⟨r,hr⟩]
  exact congrArg some (Mv H (Exists.choose_spec (⟨r,hr⟩:∃j,Bo π nb o.new.length j=some r')) hr)
 have hinv':∀r' r,(fun r'=>(open Classical in if h:∃j,Bo π nb o.new.length j=some r' then some h.choose else none:Option Nat)) r'=some r→Bo π nb o.new.length r=some r':=by
  intro r' r hr
  have hr':(open Classical in if h:∃j,Bo π nb o.new.length j=some r' then some h.choose else none:Option Nat)=some r:=hr
  split at hr'
  ·rename_i h;rw[←Option.some.inj hr'];exact h.choose_spec
  ·cases hr'
 have hargs:XcC (B1 E.w E.S (Jg E π) r0 o.new) as0 vs:=by
  obtain⟨hl,hget⟩:=Ku ha
  refine⟨hv.1.trans hl,?_⟩
  intro j y hy
  obtain⟨y',hy',hren⟩:=Xgr ha j y hy
  exact(hv.2 j y' hy').conn ((Wh hF H).back (fun _ h=>h) hinv') (Xg9 hinv hren)
 refine Calls.mono (hc E.w E.S (Jg E π) vs (XiK hM hF H) hargs) ?_
 rintro e w' ⟨v,E1,rfl,rfl,h⟩
 refine⟨v,E.after E1 nb o.new.length π.length g,rfl,rfl,Xgv (o':=⟨av,new,g⟩) hM hF H hg hav rfl h,?_⟩
 intro b hb hn
 refine h.mem.keep b hb ?_
 rintro⟨i,R,hR,hd,hβ⟩
 have hi:i<π.length:=by rw[H.len];exact(List.getElem?_eq_some_iff.1 hR).1
 exact hn π[i] (List.getElem_mem hi) (by rw[←Ju (E:=E) (List.getElem?_eq_getElem hi)];exact hβ)
end
open Go
def X3:Root→Root
 | .row sz _ xs=>.row sz true xs
 |R=>R
theorem Ut(R:Root):(X3 R).kind=R.kind:=by cases R<;>rfl
def Env.lent(E:Env)(L:List Nat):Env:={E with rt:=fun r=>if r∈L then(E.rt r).map X3 else E.rt r,S:=fun b=>E.S b∨∃r∈L,E.β r=some b}
def Ga(E:Env)(r:Nat):Prop:=E.pres r∧∃sz fz xs,E.rt r=some (.row sz fz xs)
section
variable {P:Program} {c:Ctx} {E:Env} {L:List Nat}
theorem Xhy{r:Nat}{R:Root}(h:(E.lent L).rt r=some R):∃R0,E.rt r=some R0∧R0.kind=R.kind∧(R=R0∨(r∈L∧R=X3 R0)):=by
 have h':(if r∈L then(E.rt r).map X3 else E.rt r)=some R:=h
 split at h'
 ·obtain⟨R0,h0,rfl⟩:=Option.map_eq_some_iff.1 h'
  exact⟨R0,h0,(Ut R0).symm,.inr ⟨by assumption,rfl⟩⟩
 ·exact⟨R,h',rfl,.inl rfl⟩
theorem lent_step:Step E (E.lent L) where
 rt:=by
  intro r R h
  show∃R',(if r∈L then(E.rt r).map X3 else E.rt r)=some R'∧_
  split
  ·exact⟨X3 R,by rw[h];rfl,.inr (Ut R)⟩
  ·exact⟨R,h,.inr rfl⟩
 pres:=fun _ h=>h
 β:=fun _ _=>rfl
 S:=fun _ h=>.inl h
 heap:=fun _ _=>rfl
 shape:=fun _ _ h=>h
theorem Mi(hM:Mem c E)(hL:∀r∈L,Ga E r):Mem c (E.lent L):=by
 have nd:∀{r R},(E.lent L).rt r=some R→R≠.dead→∃R0,E.rt r=some R0∧R0≠.dead:=by
  intro r R h hd
  obtain⟨R0,h0,hk,_⟩:=Xhy h
  exact⟨R0,h0,fun e=>hd (kind_dead.1 (hk.symm.trans (kind_dead.2 e)))⟩
 exact{
  os:=hM.os
  output:=hM.output
  tape:=hM.tape
  size:=hM.size
  keep:=hM.keep
  shape:=hM.shape
  s0:=fun b hb=>.inl (hM.s0 b hb)
  slt:=by
   rintro b (hb|⟨r,hr,hb⟩)
   ·exact hM.slt b hb
   ·exact hM.blt r b (hL r hr).1 hb
  glob:=Globs.step (fun _ h=>.inl h) (fun _ _=>rfl) hM.glob
  snew:=by
   rintro b (hb|⟨r,hr,hb⟩)
   ·exact hM.snew b hb
   ·obtain⟨hp,sz,fz,xs,hrt⟩:=hL r hr
    exact .inr (hM.bown r _ b hp hrt (by simp) hb)
  blt:=hM.blt
  bown:=by
   intro r R b hp hR hd hb
   obtain⟨R0,h0,aa⟩:=nd hR hd
   exact hM.bown r R0 b hp h0 aa hb
  bkeep:=by
   intro r R hlt hp hR hd
   obtain⟨R0,h0,aa⟩:=nd hR hd
   exact hM.bkeep r R0 hlt hp h0 aa
  inj:=by
   intro r r' R R' b hp hp' hR hd hR' hd' hb hb'
   obtain⟨R0,h0,aa⟩:=nd hR hd
   obtain⟨R1,h1,ab⟩:=nd hR' hd'
   exact hM.inj r r' R0 R1 b hp hp' h0 aa h1 ab hb hb'
  roots:=by
   intro r R hp hR
   obtain⟨R0,h0,hk,hor⟩:=Xhy hR
   by_cases hd:R= .dead
   ·subst hd;trivial
   have aa:R0≠.dead:=fun e=>hd (kind_dead.1 (hk.symm.trans (kind_dead.2 e)))
   by_cases hr:r∈L
   ·obtain⟨_,sz,fz,xs,hrt⟩:=hL r hr
    rw[h0]at hrt
    obtain rfl:=Option.some.inj hrt
    have hRe:R= .row sz true xs:=by
     have hR':(if r∈L then(E.rt r).map X3 else E.rt r)=some R:=hR
     rw[if_pos hr,h0]at hR'
     exact(Option.some.inj hR').symm
    subst hRe
    rcases hM.roots r _ hp h0 with⟨h1,h2⟩|⟨b,cs,t,fr,h1,h2,h3,h4,h5,_⟩
    ·exact .inl ⟨h1,h2⟩
    ·refine .inr ⟨b,cs,t,fr,h1,h2,h3,h4,?_,.inl ⟨rfl,.inr ⟨r,hr,h1⟩⟩⟩
     intro i x j y hx hy
     obtain⟨u,hu,hrel⟩:=h5 i x j y hx hy
     exact⟨u,hu,hrel.step (fun _ h=>.inl h) (fun _ _=>rfl)⟩
   ·have hRe:R=R0:=hor.resolve_right (fun h=>hr h.1)
    subst hRe
    refine RootRel.step lent_step hp (fun _ _=>rfl) ?_ (hM.roots r _ hp h0)
    rintro b hb (hS|⟨r',hr',hb'⟩)
    ·exact hS
    ·obtain⟨hp',sz,fz,xs,hrt⟩:=hL r' hr'
     have:=hM.inj r r' _ _ b hp hp' h0 aa hrt (by simp) hb hb'
     subst this
     exact absurd hr' hr}
end
def D.flat:D→Bool
 | .sc _=>true
 | .row _ _=>false
mutual
def AV.flat:AV→Bool
 | .d x=>x.flat
 | .ref _ _ _=>true
 | .ptr _ _ _=>true
 | .rptr _=>false
 | .agg l=>AV.flats l
 | .tup l=>AV.flats l
 | .clo _ l=>AV.flats l
 | .anyb _=>true
 | .junk=>true
def AV.flats:List AV→Bool
 |[]=>true
 |x::l=>x.flat&&AV.flats l
end
def Root.flat:Root→Bool
 | .row _ fz xs=>!fz&&xs.all fun x=>x.all D.flat
 | .box _ l=>AV.flats l
 | .buf _ _ _=>true
 | .map _=>true
 | .dead=>true
theorem Nk:∀{l:List AV},AV.flats l=true→∀(j:Nat) y,l[j]? =some y→y.flat=true
 |[],_,j,y,h=>by simp at h
 |x::l,hf,j,y,h=>by
  simp only[AV.flats,Bool.and_eq_true]at hf
  cases j with
  |zero=>simp at h;subst h;exact hf.1
  |succ j=>simp at h;exact Nk hf.2 j y h
theorem RelD.flat{w w':World}{S S':Nat→Prop}{x:D}{v:Value}(hf:x.flat=true)(h:RelD w S x v):RelD w' S' x v:=by
 cases h with
 |sc v h=>exact .sc v h
 |nil sz a cap=>simp[D.flat]at hf
 |row sz xs b off cap us hS hc hl hu hr=>simp[D.flat]at hf
theorem RelAV.flat{E E':Env}(hw:E'.w=E.w)(hk:∀r,(E'.rt r).map Root.kind=(E.rt r).map Root.kind)(hp:∀r,E'.pres r↔E.pres r)(hβ:∀r,E.pres r→E'.β r=E.β r){x:AV}{v:Value}(h:RelAV E x v):x.flat=true→RelAV E' x v:=by
 have get:∀{r R},E.rt r=some R→∃R',E'.rt r=some R'∧R'.kind=R.kind:=by
  intro r R hr
  have:=hk r
  rw[hr]at this
  exact Option.map_eq_some_iff.1 this
 have dead:∀{r},E.rt r=some .dead→E'.rt r=some .dead:=by
  intro r hr
  obtain⟨R',h1,h2⟩:=get hr
  rw[h1,kind_dead.1 (h2.trans rfl)]
 induction h with
 |d x v h=>intro hf;exact .d x v (h.flat hf)
 |ref r off len R sz b cap t n h1 hkd h2 h3 h4 h5 h6=>
  intro _
  obtain⟨R',hR',hk'⟩:=get h1
  exact .ref r off len R' sz b cap t n hR' (hk'.trans hkd) ((hp r).2 h2) ((hβ r h2).trans h3) (by rw[hw];exact h4) h5 h6
 |refz r off R sz a h1 hkd h2=>
  intro _
  obtain⟨R',hR',hk'⟩:=get h1
  exact .refz r off R' sz a hR' (hk'.trans hkd) ((hp r).2 h2)
 |ptr r i j R b h1 h2 h3=>
  intro _
  obtain⟨R',hR',hk'⟩:=get h1
  rw[←hk']
  exact .ptr r i j R' b hR' ((hp r).2 h2) ((hβ r h2).trans h3)
 |dref r off len v h1 ho=>intro _;exact .dref _ _ _ _ (dead h1) ho
 |dptr r i j v h1 ho=>intro _;exact .dptr _ _ _ _ (dead h1) ho
 |rptr cs b o us hS hu hr=>intro hf;simp[AV.flat]at hf
 |agg l us hs _ ho ih=>intro hf;exact .agg l us hs (fun j y hy=>ih j y hy (Nk (by simpa[AV.flat]using hf) j y hy)) ho
 |tup l us hs _ ih=>intro hf;exact .tup l us hs (fun j y hy=>ih j y hy (Nk (by simpa[AV.flat]using hf) j y hy))
 |clo g l us hs _ ih=>intro hf;exact .clo g l us hs (fun j y hy=>ih j y hy (Nk (by simpa[AV.flat]using hf) j y hy))
 |anyb p b hb=>intro _;exact .anyb p b hb
 |junk v=>intro _;exact .junk v
theorem RootRel.flat{E E':Env}(hw:E'.w=E.w)(hS:∀b,E'.S b→E.S b)(hk:∀r,(E'.rt r).map Root.kind=(E.rt r).map Root.kind)(hp:∀r,E'.pres r↔E.pres r)(hβ:∀r,E.pres r→E'.β r=E.β r)
  {r:Nat}{R:Root}(hr:E.pres r)(hf:R.flat=true)(h:RootRel E r R):RootRel E' r R:=by
 cases R with
 |dead=>trivial
 |map ks=>
  obtain⟨b,es,cl,h1,h2,h3,h4⟩:=h
  exact⟨b,es,cl,(hβ r hr).trans h1,by rw[hw];exact h2,h3,fun h=>h4 (hS b h)⟩
 |buf e fz bs=>
  rcases h with⟨h1,h2⟩|⟨b,cs,fr,h1,h2,h3,h4,h5,h6⟩
  ·exact .inl ⟨(hβ r hr).trans h1,h2⟩
  ·exact .inr ⟨b,cs,fr,(hβ r hr).trans h1,by rw[hw];exact h2,h3,h4,fun h=>h5 (hS b h),h6⟩
 |row sz fz xs=>
  simp only[Root.flat,Bool.and_eq_true,Bool.not_eq_true',List.all_eq_true]at hf
  obtain⟨hfz,hf⟩:=hf
  rcases h with⟨h1,h2⟩|⟨b,cs,t,fr,h1,h2,h3,h4,h5,h6⟩
  ·exact .inl ⟨(hβ r hr).trans h1,h2⟩
  ·refine .inr ⟨b,cs,t,fr,(hβ r hr).trans h1,by rw[hw];exact h2,h3,h4,?_,?_⟩
   ·intro i x j y hx hy
    obtain⟨u,hu,hrel⟩:=h5 i x j y hx hy
    exact⟨u,hu,hrel.flat (hf x (List.mem_of_getElem? hx) y (List.mem_of_getElem? hy))⟩
   ·rcases h6 with⟨h6,_⟩|⟨h6,h7,h8⟩
    ·rw[hfz]at h6;cases h6
    ·exact .inr ⟨h6,fun h=>h7 (hS b h),h8⟩
 |box t l=>
  obtain⟨b,cs,fr,h1,h2,h3,h4,h5,h6⟩:=h
  refine⟨b,cs,fr,(hβ r hr).trans h1,by rw[hw];exact h2,h3,?_,fun h=>h5 (hS b h),h6⟩
  intro j y hy
  obtain⟨u,hu,ho,hrel⟩:=h4 j y hy
  exact⟨u,hu,ho,hrel.flat hw hk hp hβ (Nk hf j y hy)⟩
section
variable {P:Program} {c:Ctx} {E E1:Env} {L:List Nat} {nb:Nat} {o:Out} {v:Value}
def Env.unlent(E E1:Env):Env:={E1 with rt:=E.rt,S:=fun b=>E1.S b∧(E.S b∨E.w.heap.size≤b)}
theorem unlent(hM:Mem c E)(hL:∀r∈L,Ga E r)(hF:Fresh c E nb o.new)(hg:o.g=[])(hfa:o.av.flat=true)(hfn:o.new.all Root.flat=true)
  (hkeep:∀b,b<E.w.heap.size→E1.w.heap[b]? =E.w.heap[b]?)(h:OutRel c (E.lent L) nb o v E1):OutRel c E nb o v (E.unlent E1):=by
 have hrt1:E1.rt=(E.lent L).rt:=by rw[h.rt,hg];rfl
 have hk:∀r,(E.rt r).map Root.kind=(E1.rt r).map Root.kind:=by
  intro r
  rw[hrt1]
  show _=Option.map Root.kind (if r∈L then(E.rt r).map X3 else E.rt r)
  split
  ·cases E.rt r with
   |none=>rfl
   |some R=>simp[Ut]
  ·rfl
 have nd:∀{r R},E.rt r=some R→R≠.dead→∃R0,E1.rt r=some R0∧R0≠.dead:=by
  intro r R hr hd
  have:=hk r
  rw[hr]at this
  obtain⟨R0,h0,ac⟩:=Option.map_eq_some_iff.1 this.symm
  exact⟨R0,h0,fun e=>hd (kind_dead.1 (ac.symm.trans (kind_dead.2 e)))⟩
 have hst:Step E (E.unlent E1):=by
  refine⟨fun r R hr=>⟨R,hr,.inr rfl⟩,fun r hr=>h.step.pres r hr,fun r hr=>h.step.β r hr,fun b hb=>⟨h.step.S b (.inl hb),.inl hb⟩,fun b hb=>hkeep b (hM.slt b hb),fun b s hs=>h.step.shape b s hs⟩
 have hpres:∀r,(E.unlent E1).pres r↔E.pres r∨(nb≤r∧r<nb+o.new.length):=h.pres
 refine⟨?_,hst,by rw[hg];rfl,hpres,h.size,RelAV.flat (E:=E1) (E':=E.unlent E1) rfl hk (fun _=>Iff.rfl) (fun _ _=>rfl) h.rel hfa⟩
 exact{
  os:=h.mem.os
  output:=h.mem.output
  tape:=h.mem.tape
  size:=h.mem.size
  keep:=h.mem.keep
  shape:=h.mem.shape
  s0:=fun b hb=>⟨h.mem.s0 b hb,.inl (hM.s0 b hb)⟩
  slt:=fun b hb=>h.mem.slt b hb.1
  glob:=Globs.step hst.S hst.heap hM.glob
  snew:=fun b hb=>h.mem.snew b hb.1
  blt:=h.mem.blt
  bown:=by
   intro r R b hp hR hd hb
   obtain⟨R0,h0,aa⟩:=nd hR hd
   exact h.mem.bown r R0 b hp h0 aa hb
  bkeep:=by
   intro r R hlt hp hR hd
   obtain⟨R0,h0,aa⟩:=nd hR hd
   exact h.mem.bkeep r R0 hlt hp h0 aa
  inj:=by
   intro r r' R R' b hp hp' hR hd hR' hd' hb hb'
   obtain⟨R0,h0,aa⟩:=nd hR hd
   obtain⟨R1,h1,ad⟩:=nd hR' hd'
   exact h.mem.inj r r' R0 R1 b hp hp' h0 aa h1 ad hb hb'
  roots:=by
   intro r R hp hR
   rcases(hpres r).1 hp with ab|hnew
   ·refine RootRel.step hst ab ?_ ?_ (hM.roots r R ab hR)
    ·intro b hb;exact hkeep b (hM.blt r b ab hb)
    ·intro b hb hS
     rcases hS.2 with h1|h1
     ·exact h1
     ·have:=hM.blt r b ab hb;omega
   ·have hlt:r - nb<o.new.length:=by omega
    have hR0:=hF.rt (r - nb) _ (List.getElem?_eq_getElem hlt)
    rw[show nb+(r - nb)=r by omega]at hR0
    have hR':E.rt r=some R:=hR
    rw[hR0]at hR'
    have hflat:R.flat=true:=by rw[←Option.some.inj hR'];exact List.all_eq_true.1 hfn _ (List.getElem_mem hlt)
    have hnL:r∉L:=by
     intro hr
     have hp':=(hL r hr).1
     have:=hF.np (r - nb) hlt
     rw[show nb+(r - nb)=r by omega]at this
     exact this hp'
    have hR1:E1.rt r=some R:=by
     rw[hrt1]
     show(if r∈L then(E.rt r).map X3 else E.rt r)=some R
     rw[if_neg hnL]
     exact hR
    exact RootRel.flat (E:=E1) (E':=E.unlent E1) rfl (fun b hb=>hb.1) hk (fun _=>Iff.rfl) (fun _ _=>rfl) hp hflat (h.mem.roots r R hp hR1)}
end
open Go
mutual
def AV.ids:AV→List Nat
 | .ref r _ _=>[r]
 | .ptr r _ _=>[r]
 | .agg l=>AV.idss l
 | .tup l=>AV.idss l
 | .clo _ l=>AV.idss l
 |_=>[]
def AV.idss:List AV→List Nat
 |[]=>[]
 |x::l=>x.ids++AV.idss l
end
def Agr(rt rt':Nat→Option Root)(l:List Nat):Prop:=∀r∈l,rt r=none∨rt' r=rt r
theorem Agr.sub{rt rt':Nat→Option Root}{l l':List Nat}(h:Agr rt rt' l)(hs:∀r∈l',r∈l):Agr rt rt' l':=fun r hr=>h r (hs r hr)
theorem XeV:∀{l:List AV} {x:AV},x∈l→∀r∈x.ids,r∈AV.idss l
 |y::l,x,hx,r,hr=>by
  simp only[AV.idss,List.mem_append]
  rcases List.mem_cons.1 hx with rfl|hx
  ·exact .inl hr
  ·exact .inr (XeV hx r hr)
def Op.touched(sl:Nat→AV)(o:Op):List Nat:=match o with
 | .move _=>[]
 | .assign _=>[]
 |_=>AV.idss (o.operands.toList.map (Cm sl))
section
variable {rt rt':Nat→Option Root} {x y av:AV}
theorem Xv{l:List AV}(h:x.leaves=some l):∀r∈AV.idss l,r∈x.ids:=by
 cases x<;>simp only[AV.leaves]at h<;>first|(cases h;done)|skip
 all_goals
  simp only[Option.some.injEq]at h
  subst h
  intro r hr
  first|(simp[AV.idss,AV.ids]at hr;done)|(simpa[AV.idss,AV.ids]using hr)
theorem Xk4(h:Agr rt rt' x.ids){d:D}(hx:x.toD rt=some d):x.toD rt'=some d:=by
 cases x with
 |ref r off len=>
  simp only[AV.toD]at hx⊢
  rcases h r (by simp[AV.ids])with h|h
  ·rw[h]at hx;cases hx
  ·rw[h];exact hx
 |d z=>exact hx
 |_=>cases hx
theorem Zb:∀{l:List AV} (_:Agr rt rt' (AV.idss l)) {ds:List D},Xct rt l=some ds→Xct rt' l=some ds
 |[],_,ds,hx=>hx
 |x::l,h,ds,hx=>by
  simp only[Xct]at hx⊢
  obtain⟨d,hd,hx⟩:=Option.bind_eq_some_iff.1 hx
  obtain⟨es,he,rfl⟩:=Option.map_eq_some_iff.1 hx
  rw[Xk4 (h.sub fun r hr=>by simp[AV.idss,hr]) hd,Zb (h.sub fun r hr=>by simp[AV.idss,hr]) he]
  rfl
theorem XdP(h:Agr rt rt' x.ids){d:Nat×List (List D)}(hx:x.view rt=some d):x.view rt'=some d:=by
 cases x with
 |ref r off len=>
  simp only[AV.view]at hx⊢
  rcases h r (by simp[AV.ids])with h|h
  ·rw[h]at hx;cases hx
  ·rw[h];exact hx
 |d z=>cases z<;>exact hx
 |_=>cases hx
theorem XkP(h:Agr rt rt' x.ids){d:Nat×List (List D)}(hx:x.src rt=some d):x.src rt'=some d:=by
 cases x with
 |d z=>
  cases z with
  |sc v=>cases v<;>exact hx
  |row=>exact hx
 |_=>exact XdP h hx
theorem Xgd{n:Nat}{g:Bool}(h:Agr rt rt' x.ids)(hx:E8 rt n g x=some av):E8 rt' n g x=some av:=by
 cases x with
 |ptr r i j=>
  simp only[E8]at hx⊢
  rcases h r (by simp[AV.ids])with h|h
  ·rw[h]at hx;cases hx
  ·rw[h];exact hx
 |rptr=>exact hx
 |_=>cases hx
theorem Wi{r:Nat}(h:rt r=none∨rt' r=rt r)(hx:Lh rt r=true):Lh rt' r=true:=by
 unfold Lh at hx⊢
 rcases h with h|h
 ·rw[h]at hx;cases hx
 ·rw[h];exact hx
theorem Wl{fl:Option (Nat×Nat×Bool)}(h:Agr rt rt' x.ids)(hx:C5 rt fl x=some av):C5 rt' fl x=some av:=by
 cases x with
 |ptr r i j=>
  simp only[C5]at hx⊢
  obtain⟨ha,hx⟩:=Option.ite_none_right_eq_some.1 hx
  rw[if_pos (Wi (h r (by simp[AV.ids])) ha),hx]
 |rptr=>exact hx
 |_=>cases hx
theorem XhK(h:Agr rt rt' x.ids)(hx:XdK rt x=some av):XdK rt' x=some av:=by
 cases x with
 |ptr r i j=>
  simp only[XdK]at hx⊢
  obtain⟨ha,hx⟩:=Option.ite_none_right_eq_some.1 hx
  rw[if_pos (Wi (h r (by simp[AV.ids])) ha),hx]
 |rptr=>exact hx
 |_=>cases hx
theorem Wa{el:Option (Nat×Nat)}{i:Int}(h:Agr rt rt' x.ids)(hx:Ct rt el x i=some av):Ct rt' el x i=some av:=by
 cases x with
 |ref r off len=>
  simp only[Ct]at hx⊢
  rcases h r (by simp[AV.ids])with h|h
  ·rw[h]at hx;cases hx
  ·rw[h];exact hx
 |d z=>cases z<;>exact hx
 |_=>cases hx
theorem XcQ{el:Option (Nat×Nat)}{s:Bool}{lo hi:Option Int}(h:Agr rt rt' x.ids)(hx:Ev rt el s x lo hi=some av):Ev rt' el s x lo hi=some av:=by
 cases x with
 |ref r off len=>
  simp only[Ev]at hx⊢
  rcases h r (by simp[AV.ids])with h|h
  ·rw[h]at hx;cases hx
  ·rw[h];exact hx
 |d z=>
  cases z with
  |sc v=>cases v<;>exact hx
  |row=>exact hx
 |_=>cases hx
theorem Xgy{P:Program}{t:TypeId}(h:Agr rt rt' x.ids)(hx:Qm P rt t x=some av):Qm P rt' t x=some av:=by
 cases x with
 |ref r off len=>
  simp only[Qm]at hx⊢
  obtain⟨ha,hx⟩:=Option.ite_none_right_eq_some.1 hx
  simp only[Bool.and_eq_true]at ha
  rw[if_pos (by simp[ha.1,Wi (h r (by simp[AV.ids])) ha.2]),hx]
 |d z=>
  cases z with
  |sc v=>cases v<;>exact hx
  |row=>exact hx
 |_=>cases hx
theorem XaC{nb:Nat}{el:Option (Nat×Nat)}{s:AV}{q:AV×List Root×Nat}(hs:Agr rt rt' s.ids)(h:Agr rt rt' x.ids)(hx:Dz rt nb el s x=some q):Dz rt' nb el s x=some q:=by
 cases s with
 |ref r off len=>
  simp only[Dz]at hx⊢
  rcases hs r (by simp[AV.ids])with h0|h0
  ·rw[h0]at hx;cases hx
  ·rw[h0]
   split at hx
   ·obtain⟨p,hp,hx⟩:=Option.bind_eq_some_iff.1 hx
    rw[XkP h hp]
    exact hx
   ·cases hx
 |_=>cases hx
theorem XfY{nb:Nat}{s d:TypeDesc}{b:Bool}{q:XeX}(h:Agr rt rt' x.ids)(hx:M1 rt nb s d b x=some q):M1 rt' nb s d b x=some q:=by
 unfold M1 at hx⊢
 split at hx
 ·exact hx
 ·exact hx
 ·split at hx
  ·rename_i hb
   obtain⟨p,hp,hx⟩:=Option.bind_eq_some_iff.1 hx
   rw[if_pos hb,XdP h hp]
   exact hx
  ·cases hx
 ·cases hx
theorem Wf{n:Nat}{q:Nat×Root}(h:Agr rt rt' x.ids)(h':Agr rt rt' y.ids)(hx:F2 rt n x y=some q):F2 rt' n x y=some q:=by
 cases x with
 |ptr r i j=>
  simp only[F2]at hx⊢
  rcases h r (by simp[AV.ids])with h0|h0
  ·rw[h0]at hx;cases hx
  ·rw[h0]
   split at hx
   ·exact hx
   ·obtain⟨ys,hys,hx⟩:=Option.bind_eq_some_iff.1 hx
    obtain⟨ds,hds,hx⟩:=Option.bind_eq_some_iff.1 hx
    rw[hys]
    simp only[Option.bind_some,Zb (h'.sub (Xv hys)) hds]
    exact hx
   ·cases hx
 |_=>cases hx
theorem X1{sl:Nat→AV}:∀{ps:List (Nat×Operand)} (_:Agr rt rt' (AV.idss (ps.map fun p=>Cm sl p.2))) {ds:List (Nat×List D)},I6 rt sl ps=some ds→I6 rt' sl ps=some ds
 |[],_,ds,hx=>hx
 |(i,x)::l,h,ds,hx=>by
  simp only[I6]at hx⊢
  obtain⟨ls,hl,hx⟩:=Option.bind_eq_some_iff.1 hx
  obtain⟨d,hd,hx⟩:=Option.bind_eq_some_iff.1 hx
  obtain⟨es,he,rfl⟩:=Option.map_eq_some_iff.1 hx
  rw[hl]
  simp only[Option.bind_some]
  rw[Zb (h.sub fun r hr=>by simp[AV.idss,Xv hl r hr]) hd,X1 (h.sub fun r hr=>by simp[AV.idss,hr]) he]
  rfl
theorem Xgg{P:Program}{op:BinOp}{t:TypeId}{y av:AV}{yo:Operand}(h:Agr rt rt' x.ids)(hx:M4 P rt op t x y yo=some av):M4 P rt' op t x y yo=some av:=by
 have key:∀p,Ls rt x=some p→Ls rt' x=some p:=by
  intro p hp
  cases x with
  |ref r off len=>
   simp only[Ls]at hp⊢
   rcases h r (by simp[AV.ids])with h0|h0
   ·have:Lh rt r=false:=by simp[Lh,h0]
    rw[this]at hp
    simp at hp
   ·have:Lh rt' r=Lh rt r:=by unfold Lh;rw[h0]
    rw[this];exact hp
  |d x=>cases x<;>exact hp
  |_=>exact hp
 cases hn:Pc yo with
 |false=>simp only[M4,hn]at hx⊢;exact hx
 |true=>
  simp only[M4,hn]at hx⊢
  split at hx
  ·obtain⟨ht,hx⟩:=Option.ite_none_right_eq_some.1 hx
   obtain⟨p,hp,hx⟩:=Option.map_eq_some_iff.1 hx
   rw[if_pos ht,key p hp,Option.map_some,hx]
  ·cases hx
theorem XlX{P:Program}{nb:Nat}{sl:Nat→AV}{o:Oper}{out:Out}(h:Agr rt rt' (Op.touched sl o.op))(hnb:rt nb=none∨rt' nb=rt nb)(hx:ev P nb sl rt o=some out):ev P nb sl rt' o=some out:=by
 have one:∀{x:Operand},(∀y,o.op≠.move y)→(∀y,o.op≠.assign y)→x∈o.op.operands→Agr rt rt' (Cm sl x).ids:=by
  intro x h1 h2 hm
  have e:Op.touched sl o.op=AV.idss (o.op.operands.toList.map (Cm sl)):=by
   unfold Op.touched
   split
   ·rename_i y e;exact absurd e (h1 y)
   ·rename_i y e;exact absurd e (h2 y)
   ·rfl
  rw[e]at h
  exact h.sub (XeV (List.mem_map_of_mem (by simpa using hm)))
 unfold ev at hx⊢
 generalize hop:o.op=op at*
 cases op<;>simp only at hx⊢<;>first|(exact hx)|(cases hx;done)|skip
 case buildSlice t n ps=>
  obtain⟨z,hz,hx⟩:=Option.bind_eq_some_iff.1 hx
  obtain⟨l,hl,hx⟩:=Option.bind_eq_some_iff.1 hx
  rw[hz]
  simp only[Option.bind_some]
  rw[X1 ?_ hl]
  ·exact hx
  ·refine h.sub ?_
   simp[Op.touched,Op.operands,Function.comp_def]
 case load t x=>
  obtain⟨g,hg,hx⟩:=Option.bind_eq_some_iff.1 hx
  obtain⟨n,hn,hx⟩:=Option.bind_eq_some_iff.1 hx
  obtain⟨v,hv,hx⟩:=Option.map_eq_some_iff.1 hx
  rw[hg,hn]
  simp only[Option.bind_some,Xgd (one (by simp) (by simp) (by simp[Op.operands])) hv,Option.map_some,hx]
 case store t p x=>
  obtain⟨n,hn,hx⟩:=Option.bind_eq_some_iff.1 hx
  obtain⟨v,hv,hx⟩:=Option.bind_eq_some_iff.1 hx
  rw[hn]
  simp only[Option.bind_some]
  by_cases hc:x= .const (.slice none 0 0)
  ·subst hc
   have hids:Agr rt rt' (opd nb (Ry P t) sl (.const (.slice none 0 0))).1.ids:=by
    intro r hr
    have:r=nb:=by simpa[opd,AV.ids]using hr
    rw[this];exact hnb
   rw[Wf (one (by simp) (by simp) (by simp[Op.operands])) hids hv]
   exact hx
  ·have:(opd nb (Ry P t) sl x)=(Cm sl x,[]):=by
    unfold opd
    split
    ·exact absurd rfl hc
    ·rfl
   rw[this]at hv hx⊢
   rw[Wf (one (by simp) (by simp) (by simp[Op.operands])) (one (by simp) (by simp) (by simp[Op.operands])) hv]
   exact hx
 case binOp op t x y yt=>
  obtain⟨v,hv,hx⟩:=Option.map_eq_some_iff.1 hx
  rw[Xgg (one (by simp) (by simp) (by simp[Op.operands])) hv,Option.map_some,hx]
 case nilCheck x=>
  obtain⟨v,hv,hx⟩:=Option.map_eq_some_iff.1 hx
  simp only[XhK (one (by simp) (by simp) (by simp[Op.operands])) hv,Option.map_some,hx]
 case convert s d x=>
  obtain⟨g,hg,hx⟩:=Option.bind_eq_some_iff.1 hx
  obtain⟨n,hn,hx⟩:=Option.bind_eq_some_iff.1 hx
  obtain⟨v,hv,hx⟩:=Option.map_eq_some_iff.1 hx
  rw[hg,hn]
  simp only[Option.bind_some,XfY (one (by simp) (by simp) (by simp[Op.operands])) hv,Option.map_some,hx]
 case fieldAddr t x f=>
  obtain⟨v,hv,hx⟩:=Option.map_eq_some_iff.1 hx
  simp only[Wl (one (by simp) (by simp) (by simp[Op.operands])) hv,Option.map_some,hx]
 case indexAddr t x i=>
  obtain⟨n,hn,hx⟩:=Option.bind_eq_some_iff.1 hx
  obtain⟨v,hv,hx⟩:=Option.map_eq_some_iff.1 hx
  rw[hn]
  simp only[Option.bind_some,Wa (one (by simp) (by simp) (by simp[Op.operands])) hv,Option.map_some,hx]
 case slice t x lo hi mx=>
  cases mx with
  |some=>cases hx
  |none=>
   simp only at hx⊢
   obtain⟨l,hl,hx⟩:=Option.bind_eq_some_iff.1 hx
   obtain⟨m,hm,hx⟩:=Option.bind_eq_some_iff.1 hx
   obtain⟨v,hv,hx⟩:=Option.map_eq_some_iff.1 hx
   rw[hl,hm]
   simp only[Option.bind_some,XcQ (one (by simp) (by simp) (by simp[Op.operands])) hv,Option.map_some,hx]
 case makeFunc f first caps=>cases f<;>first|exact hx|cases hx
 case call c=>
  unfold Nz at hx⊢
  have mem:∀{x:Operand},x∈c.args.toList→x∈(Op.call c).operands:=by
   intro x hm
   have:x∈c.args:=by simpa using hm
   simp only[Op.operands,Call.operands]
   cases c.callee<;>simp[this]
  split at hx
  ·rename_i hc ha ht
   obtain⟨v,hv,hx⟩:=Option.map_eq_some_iff.1 hx
   simp only[hc,ha,ht,Xgy (one (by simp) (by simp) (mem (by rw[ha];simp))) hv,Option.map_some,hx]
  ·rename_i hc ha ht
   obtain⟨hcond,hx⟩:=Option.ite_none_right_eq_some.1 hx
   obtain⟨v,hv,hx⟩:=Option.map_eq_some_iff.1 hx
   simp only[hc,ha,ht]
   rw[if_pos hcond,XaC (one (by simp) (by simp) (mem (by rw[ha];simp))) (one (by simp) (by simp) (mem (by rw[ha];simp))) hv]
   simp only[Option.map_some,hx]
  ·exact hx
  ·exact hx
  ·cases hx
end
open Go
section
variable {P:Program} {sl sl':Nat→AV} {rt:Nat→Option Root} {nb:Nat}
theorem XhT{hint:Nat}{x:Operand}(h:Cm sl x=Cm sl' x):opd nb hint sl x=opd nb hint sl' x:=by
 by_cases hx:x= .const (.slice none 0 0)
 ·subst hx;rfl
 ·have:∀s,opd nb hint s x=(Cm s x,[]):=by
   intro s
   unfold opd
   split
   ·exact absurd rfl hx
   ·rfl
  rw[this,this,h]
theorem Rl:∀{ps:List (Nat×Operand)} (_:∀p∈ps,Cm sl p.2=Cm sl' p.2),Gw sl ps=Gw sl' ps
 |[],_=>rfl
 |(i,x)::l,h=>by
  simp only[Gw]
  rw[h (i,x) (by simp),Rl (fun p hp=>h p (by simp[hp]))]
theorem Xbl:∀{ps:List (Nat×Operand)} (_:∀p∈ps,Cm sl p.2=Cm sl' p.2),I6 rt sl ps=I6 rt sl' ps
 |[],_=>rfl
 |(i,x)::l,h=>by
  simp only[I6]
  rw[h (i,x) (by simp),Xbl (fun p hp=>h p (by simp[hp]))]
theorem XeI{x:Option Operand}(h:∀y,x=some y→Cm sl y=Cm sl' y):G4 sl x=G4 sl' x:=by
 cases x with
 |none=>rfl
 |some y=>simp only[G4];rw[h y rfl]
theorem ev_sl{o:Oper}(h:∀x∈o.op.operands,Cm sl x=Cm sl' x):ev P nb sl rt o=ev P nb sl' rt o:=by
 unfold ev
 generalize hop:o.op=op at*
 cases op<;>simp only<;>simp only[Op.operands]at h<;>try rfl
 case move x=>rw[XhT (h x (by simp))]
 case assign x=>rw[XhT (h x (by simp))]
 case pick c a b=>rw[h c (by simp),h a (by simp),h b (by simp)]
 case box t x=>rw[h x (by simp)]
 case build t ps=>
  rw[Rl (sl':=sl')]
  intro p hp
  exact h p.2 (by simp;exact⟨p.1,by simpa using hp⟩)
 case buildSlice t n ps=>
  rw[Xbl (sl':=sl')]
  intro p hp
  exact h p.2 (by simp;exact⟨p.1,by simpa using hp⟩)
 case load t x=>rw[h x (by simp)]
 case store t p x=>rw[h p (by simp),XhT (h x (by simp))]
 case nilCheck x=>rw[h x (by simp)]
 case binOp op t x y yt=>rw[h x (by simp),h y (by simp)]
 case unOp op t x=>rw[h x (by simp)]
 case convert s d x=>rw[h x (by simp)]
 case fieldAddr t x f=>rw[h x (by simp)]
 case field t x f=>rw[h x (by simp)]
 case indexAddr t x i=>rw[h x (by simp),h i (by simp)]
 case index t x i=>rw[h x (by simp),h i (by simp)]
 case makeSlice t n m=>rw[h n (by simp),h m (by simp)]
 case extract x i=>rw[h x (by simp)]
 case slice t x lo hi mx=>
  cases mx with
  |some=>rfl
  |none=>
   simp only
   rw[h x (by simp),XeI (sl':=sl') (fun y hy=>h y (by simp[hy])),XeI (sl':=sl') (fun y hy=>h y (by simp[hy]))]
 case makeFunc f first caps=>
  cases f<;>try rfl
  simp only
  rw[List.map_congr_left (f:=Cm sl) (g:=Cm sl') (fun x hx=>h x (by simp;exact .inr (by simpa using hx)))]
 case call c=>
  have mem:∀{x:Operand},x∈c.args.toList→Cm sl x=Cm sl' x:=by
   intro x hm
   have:x∈c.args:=by simpa using hm
   refine h x ?_
   simp only[Call.operands]
   cases c.callee<;>simp[this]
  unfold Nz
  split
  ·rename_i hc ha ht
   rw[mem (by rw[ha];simp)]
  ·rename_i hc ha ht
   rw[mem (x:=_) (by rw[ha];exact List.mem_cons_self),mem (x:=_) (by rw[ha];exact List.mem_cons_of_mem _ List.mem_cons_self)]
  ·rename_i hc ha
   rw[mem (x:=_) (by rw[ha];exact List.mem_cons_self),mem (x:=_) (by rw[ha];exact List.mem_cons_of_mem _ List.mem_cons_self)]
  ·rename_i hc ha
   rw[mem (x:=_) (by rw[ha];exact List.mem_cons_self),mem (x:=_) (by rw[ha];exact List.mem_cons_of_mem _ List.mem_cons_self)]
  ·rfl
end
def Ey(ops:Array Oper)(o:Oper)(sl:Nat→AV):Option Bool:=
 match o.guard with
 |none=>some true
 |some (g,w)=>match(ops[g]?).bind (·.dst)with
  |some t=>(match sl t with| .d (.sc (.bool b))=>some (b==w)| .tup []=>some false|_=>none)
  |none=>none
def XcL(E:Env)(ops:Array Oper)(o:Oper)(sl:Nat→AV)(a:Act):Prop:=∀t∈o.looksAt ops,RelAV E (sl t) (a.eval (.tmp t))
theorem C4{E:Env}{ops:Array Oper}{o:Oper}{sl:Nat→AV}{a:Act}{b:Bool}(h:XcL E ops o sl a)(hg:Ey ops o sl=some b):Region.wanted o (yielded ops a.tmps)=b:=by
 unfold Ey at hg
 unfold Region.wanted
 split at hg
 ·rename_i h0
  simp only[h0]
  exact Option.some.inj hg
 ·rename_i g w h0
  simp only[h0]
  split at hg
  ·rename_i t ht
   split at hg
   ·rename_i b' hs
    have hmem:t∈o.looksAt ops:=by
     unfold Oper.looksAt
     refine List.mem_append_right _ ?_
     simp only[h0,ht]
     simp
    have hv:a.eval (.tmp t)= .bool b':=Xd7 (by rw[←hs];exact h t hmem)
    have hv':a.tmps.getD t undef= .bool b':=hv
    have hget:a.tmps[t]? =some (.bool b'):=by
     by_cases hlt:t<a.tmps.size
     ·simp[Array.getD,hlt]at hv'
      simp[hlt,hv']
     ·simp[Array.getD,hlt,undef]at hv'
    have hy:yielded ops a.tmps g=some b':=by
     unfold yielded
     rw[ht]
     simp[hget]
    rw[hy]
    rw[←Option.some.inj hg]
    cases b'<;>cases w<;>rfl
   ·rename_i hs
    have hmem:t∈o.looksAt ops:=by
     unfold Oper.looksAt
     refine List.mem_append_right _ ?_
     simp only[h0,ht]
     simp
    have hr:=h t hmem
    rw[hs]at hr
    have hv:a.eval (.tmp t)= .tuple #[]:=by
     generalize a.eval (.tmp t)=v at hr
     cases hr with
     |tup _ us hsz _=>rw[Array.eq_empty_of_size_eq_zero hsz]
    have hv':a.tmps.getD t undef= .tuple #[]:=hv
    have hy:yielded ops a.tmps g=none:=by
     unfold yielded
     rw[ht]
     by_cases hlt:t<a.tmps.size
     ·simp[Array.getD,hlt]at hv'
      simp[hlt,hv']
     ·simp[hlt]
    rw[hy]
    rw[←Option.some.inj hg]
    cases w<;>rfl
   ·cases hg
  ·cases hg
def OpSem(P:Program)(ops:Array Oper)(i:Nat)(T:List Nat)(sl:Nat→AV)(rt:Nat→Option Root)(nb:Nat)(out:Out):Prop:=
 ∃o,ops[i]? =some o∧∀(c:Ctx) (E:Env) (a:Act),Mem c E→XcL E ops o sl a→Agr rt E.rt T→(rt nb=none∨E.rt nb=rt nb)→Fresh c E nb out.new→
  ∀(K:Act→World→Prop) (Q:Exit→Act→World→Prop),(∀v E',OutRel c E nb out v E'→K (a.put o.dst v) E'.w)→wpOp P ops Q i K a E.w
section
variable {P:Program} {ops:Array Oper} {i nb:Nat} {o:Oper} {sl:Nat→AV} {rt:Nat→Option Root} {out:Out}
theorem Gt{E:Env}{a:Act}(h:XcL E ops o sl a):XfU E (fun t=>open Classical in if t∈o.looksAt ops then sl t else .junk) a.eval∧
  ∀x∈o.op.operands,Cm sl x=Cm (fun t=>open Classical in if t∈o.looksAt ops then sl t else .junk) x:=by
 refine⟨⟨?_,fun _=>rfl,fun _=>rfl⟩,?_⟩
 ·intro t
  show RelAV E (open Classical in if t∈o.looksAt ops then sl t else .junk) _
  split
  ·exact h t (by assumption)
  ·exact .junk _
 ·intro x hx
  cases x with
  |tmp t=>
   have:t∈o.looksAt ops:=List.mem_append_left _ (List.mem_filterMap.2 ⟨.tmp t,by simpa using hx,rfl⟩)
   show sl t=(open Classical in if t∈o.looksAt ops then sl t else .junk)
   rw[if_pos this]
  |_=>rfl
theorem Done.wp{c:Ctx}{E:Env}{a:Act}(h:Done P c E nb out (execOp a.eval o)){K:Act→World→Prop}{Q:Exit→Act→World→Prop}(k:∀v E',OutRel c E nb out v E'→K (a.put o.dst v) E'.w):o.wp P a E.w K Q:=by
 obtain⟨v,E',hr|⟨hr,rfl⟩,ho⟩:=h
 ·unfold Oper.wp
  rw[hr]
  exact k v E' ho
 ·unfold Oper.wp
  rw[hr]
  exact k _ E' ho
theorem OpSem.skip(ho:ops[i]? =some o)(hg:Ey ops o sl=some false):OpSem P ops i [] sl rt nb ⟨.tup [],[],[]⟩:=by
 refine⟨o,ho,?_⟩
 intro c E a hM hl _ _ _ K Q k
 unfold wpOp
 rw[ho]
 simp only[C4 hl hg,Bool.false_eq_true,if_false]
 have q:=Quiet.refl hM nb
 exact k undef E ⟨hM,q.step,rfl,q.pres,Nat.le_refl _,.tup [] #[] rfl (fun j y h=>by simp at h)⟩
theorem OpSem.ev(ho:ops[i]? =some o)(hg:Ey ops o sl=some true)(h:ev P nb sl rt o=some out):OpSem P ops i (Op.touched sl o.op) sl rt nb out:=by
 refine⟨o,ho,?_⟩
 intro c E a hM hl hT hnb hF K Q k
 unfold wpOp
 rw[ho]
 simp only[C4 hl hg,if_true]
 obtain⟨hs,hsl⟩:=Gt hl
 have h':=XlX hT hnb h
 rw[ev_sl hsl]at h'
 exact .inl ((Xjc hM hs h' hF).wp k)
end
open Go
def Dp(P:Program)(f:FuncId):Prop:=∃fn,P.funcs[f]? =some fn∧(fn.name== "runtime.NumGoroutine")=false∧fn.body.isNone=false
inductive ArgR (sl:Nat→AV):List Operand→List AV→Prop
 |nil:ArgR sl [] []
 |cons {x:Operand} {y:AV} {xs:List Operand} {ys:List AV} (h:Cm sl x=y) (t:ArgR sl xs ys):ArgR sl (x::xs) (y::ys)
 |nilS {sz:Nat} {xs:List Operand} {ys:List AV} (t:ArgR sl xs ys):ArgR sl (.const (.slice none 0 0)::xs) (.d (.row sz [])::ys)
mutual
def AV.lendA(rt:Nat→Option Root):AV→Option (AV×List Nat)
 | .d x=>some (.d x,[])
 | .ref r off len=>match rt r with
   |some (.row sz fz xs)=>if off+len≤xs.length then some (.d (.row sz ((xs.drop off).take len)),if fz then[]else[r])else none
   |_=>none
 | .rptr cs=>some (.rptr cs,[])
 | .agg l=>(AV.lendAs rt l).map fun p=>(.agg p.1,p.2)
 | .clo f l=>(AV.lendAs rt l).map fun p=>(.clo f p.1,p.2)
 | .anyb p=>some (.anyb p,[])
 | .junk=>some (.junk,[])
 |_=>none
def AV.lendAs(rt:Nat→Option Root):List AV→Option (List AV×List Nat)
 |[]=>some ([],[])
 |x::l=>(x.lendA rt).bind fun p=>(AV.lendAs rt l).map fun q=>(p.1::q.1,p.2++q.2)
end
theorem Om{rt:Nat→Option Root}:∀{l:List AV} {q:List AV×List Nat},AV.lendAs rt l=some q→q.1.length=l.length∧∀(j:Nat) y,q.1[j]? =some y→∃x L,l[j]? =some x∧x.lendA rt=some (y,L)∧∀r∈L,r∈q.2
 |[],q,h=>by simp[AV.lendAs]at h;subst h;simp
 |x::l,q,h=>by
  simp only[AV.lendAs]at h
  obtain⟨p,hp,h⟩:=Option.bind_eq_some_iff.1 h
  obtain⟨q',hq,rfl⟩:=Option.map_eq_some_iff.1 h
  obtain⟨hl,hg⟩:=Om hq
  refine⟨by simp[hl],?_⟩
  intro j w hw
  cases j with
  |zero=>simp at hw;subst hw;exact⟨x,p.2,rfl,hp,fun r hr=>by simp[hr]⟩
  |succ j=>
   simp at hw
   obtain⟨x',L,h1,h2,h3⟩:=hg j w hw
   exact⟨x',L,by simpa using h1,h2,fun r hr=>by simp[h3 r hr]⟩
mutual
theorem Kb{rt:Nat→Option Root}(f:Nat→Option Nat):∀{x y:AV} {L:List Nat},x.lendA rt=some (y,L)→y.ren f=some y
 | .d x,y,L,h=>by simp[AV.lendA]at h;obtain⟨rfl,_⟩:=h;rfl
 | .ref r off len,y,L,h=>by
   simp only[AV.lendA]at h
   split at h
   ·split at h
    ·simp only[Option.some.injEq,Prod.mk.injEq]at h
     obtain⟨rfl,_⟩:=h
     rfl
    ·cases h
   ·cases h
 | .rptr cs,y,L,h=>by simp[AV.lendA]at h;obtain⟨rfl,_⟩:=h;rfl
 | .agg l,y,L,h=>by
   simp only[AV.lendA]at h
   obtain⟨q,hq,h⟩:=Option.map_eq_some_iff.1 h
   simp only[Prod.mk.injEq]at h
   obtain⟨rfl,_⟩:=h
   simp[AV.ren,In f hq]
 | .clo g l,y,L,h=>by
   simp only[AV.lendA]at h
   obtain⟨q,hq,h⟩:=Option.map_eq_some_iff.1 h
   simp only[Prod.mk.injEq]at h
   obtain⟨rfl,_⟩:=h
   simp[AV.ren,In f hq]
 | .anyb p,y,L,h=>by simp[AV.lendA]at h;obtain⟨rfl,_⟩:=h;rfl
 | .junk,y,L,h=>by simp[AV.lendA]at h;obtain⟨rfl,_⟩:=h;rfl
 | .ptr ..,y,L,h=>by simp[AV.lendA]at h
 | .tup ..,y,L,h=>by simp[AV.lendA]at h
theorem In{rt:Nat→Option Root}(f:Nat→Option Nat):∀{x:List AV} {q:List AV×List Nat},AV.lendAs rt x=some q→AV.rens f q.1=some q.1
 |[],q,h=>by simp[AV.lendAs]at h;subst h;rfl
 |x::l,q,h=>by
  simp only[AV.lendAs]at h
  obtain⟨⟨y,L⟩,hp,h⟩:=Option.bind_eq_some_iff.1 h
  obtain⟨q',hq,rfl⟩:=Option.map_eq_some_iff.1 h
  simp[AV.rens,Kb f hp,In f hq]
end
section
variable {P:Program} {c:Ctx} {E:Env}
theorem D3(hM:Mem c E){L:List Nat}{x:AV}{v:Value}(h:RelAV E x v):∀{y:AV} {L':List Nat},x.lendA E.rt=some (y,L')→(∀r∈L',r∈L)→RelAV (E.lent L) y v:=by
 induction h with
 |d x v h=>
  intro y L' hy _
  simp[AV.lendA]at hy
  obtain⟨rfl,_⟩:=hy
  exact(RelAV.d x v h).step lent_step
 |ref r off len R sz b cap t n h1 hkd h2 h3 h4 h5 h6=>
  intro y L' hy hL
  have hx:=RelAV.ref (E:=E) r off len R sz b cap t n h1 hkd h2 h3 h4 h5 h6
  simp only[AV.lendA,h1]at hy
  split at hy
  ·rename_i sz' fz xs heq
   obtain rfl:=Option.some.inj heq
   split at hy
   ·rename_i hle
    simp only[Option.some.injEq,Prod.mk.injEq]at hy
    obtain⟨rfl,rfl⟩:=hy
    refine .d _ _ (Xt hM (S':=(E.lent L).S) hx (fun _ h=>.inl h) ?_ (by simp[AV.lend,h1,hle]))
    intro r' off' len' b' he hb'
    simp only[AV.ref.injEq]at he
    obtain⟨rfl,rfl,rfl⟩:=he
    cases fz with
    |false=>exact .inr ⟨r,hL r (by simp),hb'⟩
    |true=>
     rcases hM.roots r _ h2 h1 with⟨hb,_⟩|⟨b0,cs,t',fr,hb,_,_,_,_,hfz⟩
     ·rw[hb']at hb;cases hb
     ·rw[hb']at hb
      obtain rfl:=Option.some.inj hb
      rcases hfz with⟨_,hS⟩|⟨hf,_⟩
      ·exact .inl hS
      ·cases hf
   ·cases hy
  ·cases hy
 |refz r off R sz a h1 hkd h2=>
  intro y L' hy hL
  simp only[AV.lendA,h1]at hy
  split at hy
  ·split at hy
   ·simp only[Option.some.injEq,Prod.mk.injEq]at hy
    obtain⟨rfl,rfl⟩:=hy
    simp only[List.take_zero]
    exact .d _ _ (.nil _ _ _)
   ·cases hy
  ·cases hy
 |ptr r i j R b h1 h2 h3=>intro y L' hy;simp[AV.lendA]at hy
 |dref r off len v h1 ho=>intro y L' hy;simp[AV.lendA,h1]at hy
 |dptr r i j v h1 ho=>intro y L' hy;simp[AV.lendA]at hy
 |rptr cs b o us hS hu hr=>
  intro y L' hy _
  simp[AV.lendA]at hy
  obtain⟨rfl,_⟩:=hy
  exact(RelAV.rptr cs b o us hS hu hr).step lent_step
 |agg l us hs _ ho ih=>
  intro y L' hy hL
  simp only[AV.lendA]at hy
  obtain⟨q,hq,hy⟩:=Option.map_eq_some_iff.1 hy
  simp only[Prod.mk.injEq]at hy
  obtain⟨rfl,rfl⟩:=hy
  obtain⟨hlen,hg⟩:=Om hq
  refine .agg _ us (hs.trans hlen.symm) ?_ ho
  intro j y hy
  obtain⟨x,L1,h1,h2,h3⟩:=hg j y hy
  exact ih j x h1 h2 (fun r hr=>hL r (h3 r hr))
 |tup l us hs _ ih=>intro y L' hy;simp[AV.lendA]at hy
 |clo g caps us hs _ ih=>
  intro y L' hy hL
  simp only[AV.lendA]at hy
  obtain⟨q,hq,hy⟩:=Option.map_eq_some_iff.1 hy
  simp only[Prod.mk.injEq]at hy
  obtain⟨rfl,rfl⟩:=hy
  obtain⟨hlen,hg⟩:=Om hq
  refine .clo g _ us (hs.trans hlen.symm) ?_
  intro j y hy
  obtain⟨x,L1,h1,h2,h3⟩:=hg j y hy
  exact ih j x h1 h2 (fun r hr=>hL r (h3 r hr))
 |anyb p b hb=>intro y L' hy _;simp[AV.lendA]at hy;obtain⟨rfl,_⟩:=hy;exact .anyb p b hb
 |junk v=>intro y L' hy _;simp[AV.lendA]at hy;obtain⟨rfl,_⟩:=hy;exact .junk v
theorem Gn:∀{l:List AV} {q:List AV×List Nat},(∀(j:Nat) (x:AV),l[j]? =some x→∀{y:AV} {L:List Nat},x.lendA E.rt=some (y,L)→∀r∈L,Ga E r)→AV.lendAs E.rt l=some q→∀r∈q.2,Ga E r
 |[],q,_,h,r,hr=>by simp[AV.lendAs]at h;subst h;simp at hr
 |x::l,q,ih,h,r,hr=>by
  simp only[AV.lendAs]at h
  obtain⟨⟨y,L⟩,hp,h⟩:=Option.bind_eq_some_iff.1 h
  obtain⟨q',hq,rfl⟩:=Option.map_eq_some_iff.1 h
  simp only[List.mem_append]at hr
  rcases hr with hr|hr
  ·exact ih 0 x rfl hp r hr
  ·exact Gn (fun j x' hj=>ih (j+1) x' (by simpa using hj)) hq r hr
theorem E4{x:AV}{v:Value}(h:RelAV E x v):∀{y:AV} {L:List Nat},x.lendA E.rt=some (y,L)→∀r∈L,Ga E r:=by
 induction h with
 |ref r off len R sz b cap t n h1 hkd h2 h3 h4 h5 h6=>
  intro y L hy s hs
  simp only[AV.lendA,h1]at hy
  split at hy
  ·rename_i sz' fz xs heq
   obtain rfl:=Option.some.inj heq
   split at hy
   ·simp only[Option.some.injEq,Prod.mk.injEq]at hy
    obtain⟨_,rfl⟩:=hy
    split at hs
    ·simp at hs
    ·simp at hs;subst hs;exact⟨h2,_,_,_,h1⟩
   ·cases hy
  ·cases hy
 |refz r off R sz a h1 hkd h2=>
  intro y L hy s hs
  simp only[AV.lendA,h1]at hy
  split at hy
  ·rename_i sz' fz xs heq
   obtain rfl:=Option.some.inj heq
   split at hy
   ·simp only[Option.some.injEq,Prod.mk.injEq]at hy
    obtain⟨_,rfl⟩:=hy
    split at hs
    ·simp at hs
    ·simp at hs;subst hs;exact⟨h2,_,_,_,h1⟩
   ·cases hy
  ·cases hy
 |agg l us hs _ ho ih=>
  intro y L hy s hmem
  simp only[AV.lendA]at hy
  obtain⟨q,hq,hy⟩:=Option.map_eq_some_iff.1 hy
  simp only[Prod.mk.injEq]at hy
  obtain⟨_,rfl⟩:=hy
  exact Gn ih hq s hmem
 |clo g l us hs _ ih=>
  intro y L hy s hmem
  simp only[AV.lendA]at hy
  obtain⟨q,hq,hy⟩:=Option.map_eq_some_iff.1 hy
  simp only[Prod.mk.injEq]at hy
  obtain⟨_,rfl⟩:=hy
  exact Gn ih hq s hmem
 |dref r off len v h1 ho=>intro y L hy;simp[AV.lendA,h1]at hy
 |_=>intro y L hy s hs;simp[AV.lendA]at hy;try (obtain⟨_,rfl⟩:=hy;simp at hs)
end
open Go
inductive LendsR (rt:Nat→Option Root) (L:List Nat):List AV→List AV→Prop
 |nil:LendsR rt L [] []
 |same {x:AV} {xs ys:List AV} (t:LendsR rt L xs ys):LendsR rt L (x::xs) (x::ys)
 |lend {x y:AV} {L':List Nat} {xs ys:List AV} (h:x.lendA rt=some (y,L')) (hs:∀r∈L',r∈L) (t:LendsR rt L xs ys):LendsR rt L (x::xs) (y::ys)
theorem LendsR.of{rt:Nat→Option Root}:∀{l:List AV} {q:List AV×List Nat},AV.lendAs rt l=some q→∀{L:List Nat},(∀r∈q.2,r∈L)→LendsR rt L l q.1
 |[],q,h,L,hs=>by simp[AV.lendAs]at h;subst h;exact .nil
 |x::l,q,h,L,hs=>by
  simp only[AV.lendAs]at h
  obtain⟨⟨y,L'⟩,hp,h⟩:=Option.bind_eq_some_iff.1 h
  obtain⟨q',hq,rfl⟩:=Option.map_eq_some_iff.1 h
  exact .lend hp (fun r hr=>hs r (by simp[hr])) (LendsR.of hq (fun r hr=>hs r (by simp[hr])))
def XdJ(rt:Nat→Option Root)(L:List Nat):List (Nat×Root):=L.map fun r=>(r,X3 ((rt r).getD .dead))
theorem Vt:∀(g g':List (Nat×Root)) (rt:Nat→Option Root),Lz (g++g') rt=Lz g (Lz g' rt)
 |[],g',rt=>rfl
 |(r,R)::g,g',rt=>by
  funext x
  simp only[List.cons_append,Lz,Vt g g' rt]
theorem V6{rt:Nat→Option Root}{E:Env}:∀(L:List Nat),(∀r∈L,Ga E r∧rt r=E.rt r)→Lz (XdJ rt L) E.rt=(E.lent L).rt:=by
 intro L h
 funext x
 show _=(if x∈L then(E.rt x).map X3 else E.rt x)
 induction L with
 |nil=>simp[XdJ,Lz]
 |cons r L ih=>
  have ih':=ih (fun s hs=>h s (by simp[hs]))
  simp only[XdJ,List.map_cons,Lz]
  by_cases e:x=r
  ·subst e
   obtain⟨⟨_,sz,fz,xs,hrt⟩,heq⟩:=h x (by simp)
   rw[heq,hrt]
   simp
  ·rw[if_neg e]
   simp only[List.mem_cons,e,false_or]
   exact ih'
theorem Mm{E:Env}{x:AV}{v:Value}(h:RelAV E x v):∀{r:Nat} {R:Root},r∈x.ids→E.rt r=some R→R≠.dead→E.pres r:=by
 have aux:∀{l:List AV},(∀(j:Nat) y,l[j]? =some y→∀{r:Nat} {R:Root},r∈y.ids→E.rt r=some R→R≠.dead→E.pres r)→∀{r:Nat} {R:Root},r∈AV.idss l→E.rt r=some R→R≠.dead→E.pres r:=by
  intro l
  induction l with
  |nil=>intro _ r R hr;simp[AV.idss]at hr
  |cons y l ih=>
   intro H r R hr h1 h2
   simp only[AV.idss,List.mem_append]at hr
   rcases hr with hr|hr
   ·exact H 0 y rfl hr h1 h2
   ·exact ih (fun j y' hj=>H (j+1) y' (by simpa using hj)) hr h1 h2
 induction h with
 |ref r off len R sz b cap t n h1 hkd h2 h3 h4 h5 h6=>intro s Q hs _ _;simp[AV.ids]at hs;subst hs;exact h2
 |refz r off R sz a h1 hkd h2=>intro s Q hs _ _;simp[AV.ids]at hs;subst hs;exact h2
 |ptr r i j R b h1 h2 h3=>intro s Q hs _ _;simp[AV.ids]at hs;subst hs;exact h2
 |dref r off len v h1 ho=>
  intro s Q hs hQ hd
  simp[AV.ids]at hs
  subst hs
  rw[h1]at hQ
  exact absurd (Option.some.inj hQ).symm hd
 |dptr r i j v h1 ho=>
  intro s Q hs hQ hd
  simp[AV.ids]at hs
  subst hs
  rw[h1]at hQ
  exact absurd (Option.some.inj hQ).symm hd
 |agg l us hs _ ho ih=>intro s Q hs h1 h2;exact aux (fun j y hy=>ih j y hy) hs h1 h2
 |tup l us hs _ ih=>intro s Q hs h1 h2;exact aux (fun j y hy=>ih j y hy) hs h1 h2
 |clo g l us hs _ ih=>intro s Q hs h1 h2;exact aux (fun j y hy=>ih j y hy) hs h1 h2
 |_=>intro s Q hs;simp[AV.ids]at hs
section
variable {P:Program} {ops:Array Oper} {i nb:Nat} {o:Oper} {sl:Nat→AV} {rt:Nat→Option Root} {out o0:Out} {cl:Call}
theorem Z3{ρ:Operand→Value}{x:Operand}{f:FuncId}{us:Array Value}{w:World}(hop:o.op= .call cl)(hc:cl.callee= .value x)(hx:ρ x= .func (.func f) #[] us)(he:Dp P f):
  (execOp ρ o).run P w= .ok (.enter f (cl.args.map ρ++us)) w:=by
 obtain⟨fn,h1,h2,h3⟩:=he
 have h2':¬fn.name= "runtime.NumGoroutine":=by simpa using h2
 have h3':¬fn.body=none:=by
  intro e
  rw[e]at h3
  cases h3
 simp[execOp,hop,resolve,hc,Deferred.ofValue,hx,invoke,callFunc,h1,h2',h3']
theorem Xjf{E:Env}{a:Act}(hl:XcL E ops o sl a):∀{xs:List Operand} {ys:List AV},ArgR sl xs ys→(∀x∈xs,x∈o.op.operands)→
  xs.length=ys.length∧∀(j:Nat) y,ys[j]? =some y→∃x,xs[j]? =some x∧RelAV E y (a.eval x):=by
 intro xs ys h
 obtain⟨hs,hsl⟩:=Gt hl
 induction h with
 |nil=>intro _;exact⟨rfl,fun j y hy=>by simp at hy⟩
 |cons h t ih=>
  intro hm
  obtain⟨h1,h2⟩:=ih (fun x hx=>hm x (by simp[hx]))
  refine⟨by simp[h1],?_⟩
  intro j y hy
  cases j with
  |zero=>
   simp at hy
   subst hy
   refine⟨_,rfl,?_⟩
   rw[←h,hsl _ (hm _ (by simp))]
   exact Bw hs _
  |succ j=>simp at hy;simpa using h2 j y hy
 |nilS t ih=>
  intro hm
  obtain⟨h1,h2⟩:=ih (fun x hx=>hm x (by simp[hx]))
  refine⟨by simp[h1],?_⟩
  intro j y hy
  cases j with
  |zero=>
   simp at hy
   subst hy
   exact⟨_,rfl,.d _ _ (.nil _ _ _)⟩
  |succ j=>simp at hy;simpa using h2 j y hy
theorem Xf5{c:Ctx}{E:Env}(hM:Mem c E){L:List Nat}:∀{ys zs:List AV} {vs:List Value},LendsR E.rt L ys zs→(ys.length=vs.length∧∀(j:Nat) y,ys[j]? =some y→∃v,vs[j]? =some v∧RelAV E y v)→
  zs.length=vs.length∧∀(j:Nat) y,zs[j]? =some y→∃v,vs[j]? =some v∧RelAV (E.lent L) y v:=by
 intro ys zs vs h
 induction h generalizing vs with
 |nil=>rintro⟨h1,_⟩;exact⟨h1,fun j y hy=>by simp at hy⟩
 |same t ih=>
  rintro⟨h1,h2⟩
  cases vs with
  |nil=>simp at h1
  |cons v vs=>
   obtain⟨k1,k2⟩:=ih (vs:=vs) ⟨by simpa using h1,fun j y hy=>by simpa using h2 (j+1) y (by simpa using hy)⟩
   refine⟨by simp[k1],?_⟩
   intro j y hy
   cases j with
   |zero=>
    simp at hy
    subst hy
    obtain⟨v',hv,hr⟩:=h2 0 _ rfl
    exact⟨v',hv,hr.step lent_step⟩
   |succ j=>simp at hy;simpa using k2 j y hy
 |lend h hs t ih=>
  rintro⟨h1,h2⟩
  cases vs with
  |nil=>simp at h1
  |cons v vs=>
   obtain⟨k1,k2⟩:=ih (vs:=vs) ⟨by simpa using h1,fun j y hy=>by simpa using h2 (j+1) y (by simpa using hy)⟩
   refine⟨by simp[k1],?_⟩
   intro j y hy
   cases j with
   |zero=>
    simp at hy
    subst hy
    obtain⟨v',hv,hr⟩:=h2 0 _ rfl
    exact⟨v',hv,D3 hM hr h hs⟩
   |succ j=>simp at hy;simpa using k2 j y hy
mutual
theorem Xb5{rt rt':Nat→Option Root}:∀{x:AV} {q:AV×List Nat},Agr rt rt' x.ids→x.lendA rt=some q→x.lendA rt'=some q∧∀r∈q.2,r∈x.ids∧rt r=rt' r
 | .d x,q,_,h=>by simp[AV.lendA]at h;subst h;exact⟨rfl,fun r hr=>by simp at hr⟩
 | .ref r off len,q,ha,h=>by
   simp only[AV.lendA]at h⊢
   rcases ha r (by simp[AV.ids])with h0|h0
   ·rw[h0]at h;cases h
   ·rw[h0]
    refine⟨h,?_⟩
    intro s hs
    split at h
    ·split at h
     ·simp only[Option.some.injEq]at h
      subst h
      split at hs
      ·simp at hs
      ·simp at hs;subst hs;exact⟨by simp[AV.ids],by rw[h0]⟩
     ·cases h
    ·cases h
 | .rptr cs,q,_,h=>by simp[AV.lendA]at h;subst h;exact⟨rfl,fun r hr=>by simp at hr⟩
 | .agg l,q,ha,h=>by
   simp only[AV.lendA]at h⊢
   obtain⟨p,hp,rfl⟩:=Option.map_eq_some_iff.1 h
   obtain⟨h1,h2⟩:=Oa ha hp
   rw[h1]
   exact⟨rfl,h2⟩
 | .clo g l,q,ha,h=>by
   simp only[AV.lendA]at h⊢
   obtain⟨p,hp,rfl⟩:=Option.map_eq_some_iff.1 h
   obtain⟨h1,h2⟩:=Oa ha hp
   rw[h1]
   exact⟨rfl,h2⟩
 | .anyb p,q,_,h=>by simp[AV.lendA]at h;subst h;exact⟨rfl,fun r hr=>by simp at hr⟩
 | .junk,q,_,h=>by simp[AV.lendA]at h;subst h;exact⟨rfl,fun r hr=>by simp at hr⟩
 | .ptr ..,q,_,h=>by simp[AV.lendA]at h
 | .tup ..,q,_,h=>by simp[AV.lendA]at h
theorem Oa{rt rt':Nat→Option Root}:∀{x:List AV} {q:List AV×List Nat},Agr rt rt' (AV.idss x)→AV.lendAs rt x=some q→AV.lendAs rt' x=some q∧∀r∈q.2,r∈AV.idss x∧rt r=rt' r
 |[],q,_,h=>by simp[AV.lendAs]at h;subst h;exact⟨rfl,fun r hr=>by simp at hr⟩
 |x::l,q,ha,h=>by
  simp only[AV.lendAs]at h⊢
  obtain⟨p,hp,h⟩:=Option.bind_eq_some_iff.1 h
  obtain⟨q',hq,rfl⟩:=Option.map_eq_some_iff.1 h
  obtain⟨h1,h2⟩:=Xb5 (ha.sub fun r hr=>by simp[AV.idss,hr]) hp
  obtain⟨h3,h4⟩:=Oa (ha.sub fun r hr=>by simp[AV.idss,hr]) hq
  rw[h1,h3]
  refine⟨rfl,?_⟩
  intro r hr
  simp only[List.mem_append]at hr
  simp only[AV.idss,List.mem_append]
  rcases hr with hr|hr
  ·exact⟨.inl (h2 r hr).1,(h2 r hr).2⟩
  ·exact⟨.inr (h4 r hr).1,(h4 r hr).2⟩
end
theorem LendsR.agr{rt rt':Nat→Option Root}{L:List Nat}{ys zs:List AV}(h:LendsR rt L ys zs):Agr rt rt' (AV.idss ys)→LendsR rt' L ys zs:=by
 induction h with
 |nil=>intro _;exact .nil
 |same t ih=>intro ha;exact .same (ih (ha.sub fun r hr=>by simp[AV.idss,hr]))
 |lend h hs t ih=>intro ha;exact .lend (Xb5 (ha.sub fun r hr=>by simp[AV.idss,hr]) h).1 hs (ih (ha.sub fun r hr=>by simp[AV.idss,hr]))
end
open Go
section
variable {P:Program} {ops:Array Oper} {i nb:Nat} {o:Oper} {sl:Nat→AV} {rt:Nat→Option Root} {out o0:Out} {cl:Call}
theorem Vz{c:Ctx}{E:Env}{a:Act}{x:Operand}{f:FuncId}{caps ys zs:List AV}{L:List Nat}(hM:Mem c E)(hl:XcL E ops o sl a)(hop:o.op= .call cl)(hc:cl.callee= .value x)(hx:Cm sl x= .clo f caps)
  (ha:ArgR sl cl.args.toList ys)(hz:LendsR E.rt L (ys++caps) zs):
  ∃us,a.eval x= .func (.func f) #[] us∧XcC (E.lent L) zs (cl.args.map a.eval++us)∧∀(j:Nat) y,(ys++caps)[j]? =some y→∃v,RelAV E y v:=by
 obtain⟨hs,hsl⟩:=Gt hl
 have hmem:∀y∈cl.args.toList,y∈o.op.operands:=by
  intro y hy
  have:y∈cl.args:=by simpa using hy
  rw[hop]
  simp only[Op.operands,Call.operands,hc]
  simp[this]
 have hxr:RelAV E (.clo f caps) (a.eval x):=by
  rw[←hx,hsl x (by rw[hop];simp[Op.operands,Call.operands,hc])]
  exact Bw hs x
 have hshape:∃us:Array Value,a.eval x= .func (.func f) #[] us∧us.size=caps.length∧∀(j:Nat) y,caps[j]? =some y→RelAV E y (us.getD j undef):=by
  generalize a.eval x=v at hxr
  cases hxr with
  |clo _ _ us h1 h2=>exact⟨us,rfl,h1,h2⟩
 obtain⟨us,hus,hsz,hcap⟩:=hshape
 obtain⟨hlen,hget⟩:=Xjf hl ha hmem
 have hall:(ys++caps).length=((cl.args.map a.eval++us).toList).length∧∀(j:Nat) y,(ys++caps)[j]? =some y→∃v,(cl.args.map a.eval++us).toList[j]? =some v∧RelAV E y v:=by
  refine⟨by simp[←hlen,hsz],?_⟩
  intro j y hy
  by_cases hj:j<ys.length
  ·rw[List.getElem?_append_left hj]at hy
   obtain⟨x',h1,h2⟩:=hget j y hy
   have hj':j<cl.args.size:=by rw[←Array.length_toList,hlen];exact hj
   refine⟨a.eval x',?_,h2⟩
   rw[Array.toList_append,List.getElem?_append_left (by simpa using hj')]
   rw[Array.getElem?_toList]at h1
   simp[h1]
  ·rw[List.getElem?_append_right (by omega)]at hy
   have hk:j - ys.length<us.size:=by rw[hsz];exact(List.getElem?_eq_some_iff.1 hy).1
   have:=hcap _ y hy
   refine⟨us[j - ys.length],?_,by simpa[Array.getD,hk]using this⟩
   have hsz':cl.args.size=ys.length:=by rw[←Array.length_toList,hlen]
   rw[Array.toList_append,List.getElem?_append_right (by simp;omega)]
   simp[hsz',hk]
 refine⟨us,hus,?_,fun j y hy=>let⟨v,_,h⟩:=hall.2 j y hy;⟨v,h⟩⟩
 obtain⟨h1,h2⟩:=Xf5 hM hz hall
 refine⟨by rw[h1];simp,?_⟩
 intro j y hy
 obtain⟨v,hv,hr⟩:=h2 j y hy
 have hlt:j<(cl.args.map a.eval++us).toList.length:=(List.getElem?_eq_some_iff.1 hv).1
 have:(cl.args.map a.eval++us).getD j undef=v:=by
  rw[Array.getElem?_toList]at hv
  simp only[Array.getD_eq_getD_getElem?,hv,Option.getD_some]
 rw[this]
 exact hr
theorem T7{r:Nat}:∀{l:List AV},r∈AV.idss l→∃(j:Nat) (y:AV),l[j]? =some y∧r∈y.ids
 |[],h=>by simp[AV.idss]at h
 |x::l,h=>by
  simp only[AV.idss,List.mem_append]at h
  rcases h with h|h
  ·exact⟨0,x,rfl,h⟩
  ·obtain⟨j,y,h1,h2⟩:=T7 h
   exact⟨j+1,y,by simpa using h1,h2⟩
theorem OpSem.pure{x:Operand}{f:FuncId}{caps ys as0:List AV}{L:List Nat}(ho:ops[i]? =some o)(hg:Ey ops o sl=some true)(hop:o.op= .call cl)(hc:cl.callee= .value x)(hx:Cm sl x= .clo f caps)
  (ha:ArgR sl cl.args.toList ys)(hl:AV.lendAs rt (ys++caps)=some (as0,L))(he:Dp P f)(hcall:CallOk P f as0 [] o0)(hren:o0.ren (Bo [] nb o0.new.length)=some out)(hog:out.g=[])
  (hfa:out.av.flat=true)(hfn:out.new.all Root.flat=true):OpSem P ops i (AV.idss (ys++caps)) sl rt nb out:=by
 refine⟨o,ho,?_⟩
 intro c E a hM hlk hT hnb hF K Q k
 unfold wpOp
 rw[ho]
 simp only[C4 hlk hg,if_true]
 left
 obtain⟨hl',hL⟩:=Oa hT hl
 obtain⟨us,hus,hargs,hex⟩:=Vz hM hlk hop hc hx ha (LendsR.of hl' (L:=L) (fun r hr=>hr))
 have hrows:∀r∈L,Ga E r:=by
  intro r hr
  exact Gn (E:=E) (fun j y hy {y'} {L'} h=>let⟨v,hv⟩:=hex j y hy;E4 hv h) hl' r hr
 have hM':=Mi hM hrows
 have hF':Fresh c (E.lent L) nb out.new:=by
  refine⟨hF.m,?_,hF.np⟩
  intro k R hk
  show(if nb+k∈L then(E.rt (nb+k)).map X3 else E.rt (nb+k))=some R
  rw[if_neg]
  ·exact hF.rt k R hk
  ·intro hmem
   exact hF.np k (List.getElem?_eq_some_iff.1 hk).1 (hrows _ hmem).1
 have hnew:Fl (Bo [] nb o0.new.length) o0.new=some out.new:=by
  unfold Out.ren at hren
  obtain⟨av,_,hren⟩:=Option.bind_eq_some_iff.1 hren
  obtain⟨new,hnew,hren⟩:=Option.bind_eq_some_iff.1 hren
  obtain⟨g,_,rfl⟩:=Option.map_eq_some_iff.1 hren
  exact hnew
 have H:Handed (E.lent L) [] nb [] o0.new out.new:=⟨rfl,by simp,by simp,by simp,by simp,hnew⟩
 have key:=CallOk.at hM' hcall hF' H hren (In _ hl) hargs
 unfold Oper.wp
 rw[Z3 hop hc hus he]
 show Calls P f _ E.w _
 refine Calls.mono key ?_
 rintro e w' ⟨v,E1,rfl,rfl,hO,hkeep⟩
 exact k v (E.unlent E1) (unlent hM hrows hF hog hfa hfn (fun b hb=>hkeep b hb (by simp)) hO)
theorem OpSem.call{x:Operand}{f:FuncId}{caps ys zs as0:List AV}{L π:List Nat}{r0:List Root}(ho:ops[i]? =some o)(hg:Ey ops o sl=some true)(hop:o.op= .call cl)(hc:cl.callee= .value x)(hx:Cm sl x= .clo f caps)
  (ha:ArgR sl cl.args.toList ys)(hz:LendsR rt L (ys++caps) zs)(hL:∀r∈L,r∈AV.idss (ys++caps)∧∃sz xs,rt r=some (.row sz false xs))(he:Dp P f)(has:AV.rens (Bo π nb o0.new.length) as0=some zs)(hcall:CallOk P f as0 r0 o0)
  (hren:o0.ren (Bo π nb o0.new.length)=some out)(hlen:π.length=r0.length)(hnd:π.Nodup)(hlt:∀r∈π,r<nb)(hdis:∀r∈π,r∉L)(hin:∀r∈π,r∈AV.idss (ys++caps))
  (hrt:∀(j:Nat) r R,π[j]? =some r→r0[j]? =some R→∃R',rt r=some R'∧R≠.dead∧R.ren (Bo π nb o0.new.length)=some R'):
  OpSem P ops i (AV.idss (ys++caps)) sl rt nb ⟨out.av,out.new,out.g++XdJ rt L⟩:=by
 refine⟨o,ho,?_⟩
 intro c E a hM hlk hT hnb hF K Q k
 unfold wpOp
 rw[ho]
 simp only[C4 hlk hg,if_true]
 left
 have hz':=hz.agr hT
 obtain⟨us,hus,hargs,hex⟩:=Vz hM hlk hop hc hx ha hz'
 have hEq:∀r∈AV.idss (ys++caps),(∃R,rt r=some R)→E.rt r=rt r:=by
  rintro r hr ⟨R,hR⟩
  rcases hT r hr with h|h
  ·rw[h]at hR;cases hR
  ·exact h
 have hpr:∀r∈AV.idss (ys++caps),∀R,E.rt r=some R→R≠.dead→E.pres r:=by
  intro r hr R hR hd
  obtain⟨j,y,hy,hmem⟩:=T7 hr
  obtain⟨v,hv⟩:=hex j y hy
  exact Mm hv hmem hR hd
 have hrows:∀r∈L,Ga E r:=by
  intro r hr
  obtain⟨h1,sz,xs,h2⟩:=hL r hr
  have h3:E.rt r=some (.row sz false xs):=(hEq r h1 ⟨_,h2⟩).trans h2
  exact⟨hpr r h1 _ h3 (by simp),sz,false,xs,h3⟩
 have hM':=Mi hM hrows
 have hF':Fresh c (E.lent L) nb out.new:=by
  refine⟨hF.m,?_,hF.np⟩
  intro k R hk
  show(if nb+k∈L then(E.rt (nb+k)).map X3 else E.rt (nb+k))=some R
  rw[if_neg]
  ·exact hF.rt k R hk
  ·intro hmem
   exact hF.np k (List.getElem?_eq_some_iff.1 hk).1 (hrows _ hmem).1
 have hnew:Fl (Bo π nb o0.new.length) o0.new=some out.new:=by
  unfold Out.ren at hren
  obtain⟨av,_,hren⟩:=Option.bind_eq_some_iff.1 hren
  obtain⟨new,hnew,hren⟩:=Option.bind_eq_some_iff.1 hren
  obtain⟨g,_,rfl⟩:=Option.map_eq_some_iff.1 hren
  exact hnew
 have H:Handed (E.lent L) π nb r0 o0.new out.new:=by
  refine⟨hlen,hnd,hlt,?_,?_,hnew⟩
  ·intro r hr
   obtain⟨j,hj,hgj⟩:=List.getElem_of_mem hr
   have hlt0:j<r0.length:=by rw[←hlen];exact hj
   obtain⟨R',h1,hd,h2⟩:=hrt j r r0[j] (List.getElem?_eq_some_iff.2 ⟨hj,hgj⟩) (List.getElem?_eq_getElem hlt0)
   have h3:E.rt r=some R':=(hEq r (hin r hr) ⟨_,h1⟩).trans h1
   exact hpr r (hin r hr) R' h3 (fun e=>hd ((Hg h2).1 e))
  ·intro j r R hj hR
   obtain⟨R',h1,_,h2⟩:=hrt j r R hj hR
   have hr:=List.mem_of_getElem? hj
   refine⟨R',?_,h2⟩
   show(if r∈L then(E.rt r).map X3 else E.rt r)=some R'
   rw[if_neg (hdis r hr)]
   exact(hEq r (hin r hr) ⟨_,h1⟩).trans h1
 have key:=CallOk.at hM' hcall hF' H hren has hargs
 unfold Oper.wp
 rw[Z3 hop hc hus he]
 show Calls P f _ E.w _
 refine Calls.mono key ?_
 rintro e w' ⟨v,E1,rfl,rfl,hO,_⟩
 refine k v E1 ⟨hO.mem,lent_step.trans hO.step,?_,hO.pres,hO.size,hO.rel⟩
 rw[hO.rt,Vt,V6 L (fun r hr=>⟨hrows r hr,?_⟩)]
 obtain⟨h1,sz,xs,h2⟩:=hL r hr
 exact(hEq r h1 ⟨_,h2⟩).symm
end
open Go
structure St where
 sl:Nat→AV
 rt:List Root
def Vg(sl:Nat→AV)(d:Nat)(x:AV):Nat→AV:=fun t=>if t=d then x else sl t
def Xcd:List (Nat×Root)→List Root→List Root
 |[],l=>l
 |(r,R)::g,l=>(Xcd g l).set r R
def St.look(st:St):Nat→Option Root:=fun r=>st.rt[r]?
def St.put(st:St)(dst:Option Tmp)(out:Out):St:=
 ⟨match dst with|some d=>Vg st.sl d out.av|none=>st.sl,Xcd out.g (st.rt++out.new)⟩
theorem Rb:∀(g:List (Nat×Root)) (l:List Root),(Xcd g l).length=l.length
 |[],_=>rfl
 |(r,R)::g,l=>by simp[Xcd,Rb g l]
theorem Zw:∀(g:List (Nat×Root)) (l:List Root),(∀p∈g,p.1<l.length)→∀(x:Nat),(Xcd g l)[x]? =Lz g (fun r=>l[r]?) x
 |[],_,_,_=>rfl
 |(r,R)::g,l,h,x=>by
  simp only[Xcd,Lz]
  rw[List.getElem?_set,Rb,Zw g l (fun p hp=>h p (by simp[hp])) x]
  have:=h (r,R) (by simp)
  by_cases e:r=x
  ·subst e;simp[this]
  ·rw[if_neg e,if_neg (fun e'=>e e'.symm)]
structure StepP (m:Nat) (E E':Env):Prop where
 rt:∀r R,r<m→E.rt r=some R→∃R',E'.rt r=some R'∧(R'= .dead∨R'.kind=R.kind)
 pres:∀r,r<m→E.pres r→E'.pres r
 β:∀r,r<m→E.pres r→E'.β r=E.β r
 S:∀b,E.S b→E'.S b
 heap:∀b,E.S b→E'.w.heap[b]? =E.w.heap[b]?
 shape:∀b s,E.w.shape? b=some s→E'.w.shape? b=some s
theorem Step.toP{m:Nat}{E E':Env}(h:Step E E'):StepP m E E':=⟨fun r R _ hR=>h.rt r R hR,fun r _ hr=>h.pres r hr,fun r _ hr=>h.β r hr,h.S,h.heap,h.shape⟩
theorem StepP.trans{m:Nat}{A B C:Env}(h:StepP m A B)(k:Step B C):StepP m A C where
 rt:=fun r R hr hR=>by
  obtain⟨R1,h1,e1⟩:=h.rt r R hr hR
  obtain⟨R2,h2,e2⟩:=k.rt r R1 h1
  refine⟨R2,h2,?_⟩
  rcases e2 with e2|e2
  ·exact .inl e2
  ·rcases e1 with e1|e1
   ·subst e1
    cases R2 with
    |row=>simp[Root.kind]at e2
    |buf=>simp[Root.kind]at e2
    |map=>simp[Root.kind]at e2
    |box=>simp[Root.kind]at e2
    |dead=>exact .inl rfl
   ·exact .inr (e2.trans e1)
 pres:=fun r hr hp=>k.pres r (h.pres r hr hp)
 β:=fun r hr hp=>(k.β r (h.pres r hr hp)).trans (h.β r hr hp)
 S:=fun b hb=>k.S b (h.S b hb)
 heap:=fun b hb=>(k.heap b (h.S b hb)).trans (h.heap b hb)
 shape:=fun b s hs=>k.shape b s (h.shape b s hs)
def Holds(c:Ctx)(Ei:Env)(N:Nat)(st:St)(a:Act)(w:World):Prop:=
 ∃E:Env,E.w=w∧Mem c E∧StepP c.m Ei E∧E.rt=st.look∧(∀r,E.pres r↔r<st.rt.length)∧(∀t,RelAV E (st.sl t) (a.eval (.tmp t)))∧a.defers=[]∧a.tmps.size=N∧c.m≤st.rt.length
def Post(c:Ctx)(Ei:Env)(N:Nat)(Q:Exit→St→Prop):Exit→Act→World→Prop:=fun e a w=>∃st,Q e st∧Holds c Ei N st a w
def AW(P:Program)(N:Nat)(code:Code)(Q:Exit→St→Prop)(st:St):Prop:=
 ∀c Ei a w,Holds c Ei N st a w→code.wp P (Post c Ei N Q) a w
def OpsW(P:Program)(N:Nat)(ops:Array Oper)(l:List Nat)(Q:Exit→St→Prop)(st:St):Prop:=
 ∀c Ei a w,Holds c Ei N st a w→wpOps P ops (Post c Ei N Q) l a w
section
variable {P:Program} {N:Nat} {Q:Exit→St→Prop} {st:St}
theorem Act.size_put(a:Act)(d:Option Tmp)(v:Value):(a.put d v).tmps.size=a.tmps.size:=by cases d<;>simp[Act.put]
theorem Step.grown{E:Env}{rt:Nat→Option Root}(h:∀r R,E.rt r=some R→rt r=some R):Step E {E with rt:=rt} where
 rt:=fun r R hr=>⟨R,h r R hr,.inr rfl⟩
 pres:=fun _ h=>h
 β:=fun _ _=>rfl
 S:=fun _ h=>h
 heap:=fun _ _=>rfl
 shape:=fun _ _ h=>h
theorem Np{p:Nat→Prop}:∀(n:Nat),p n→∃k,p k∧∀m,p m→k≤m:=by
 intro n
 induction n using Nat.strongRecOn with
 |_ n ih=>
  intro hn
  by_cases h:∃m,m<n∧p m
  ·obtain⟨m,hm,hp⟩:=h
   exact ih m hm hp
  ·exact⟨n,hn,fun m hm=>Nat.le_of_not_lt fun hlt=>h ⟨m,hlt,hm⟩⟩
theorem RelAV.grown{E:Env}{rt:Nat→Option Root}(h:∀r R,E.rt r=some R→rt r=some R){x:AV}{v:Value}(hx:RelAV E x v):RelAV {E with rt:=rt} x v:=
 hx.step (Step.grown h)
theorem Mem.grown{c:Ctx}{E:Env}{rt:Nat→Option Root}(hM:Mem c E)(h:∀r R,E.rt r=some R→rt r=some R)(h':∀r R,E.pres r→rt r=some R→E.rt r=some R):Mem c {E with rt:=rt} where
 os:=hM.os
 output:=hM.output
 tape:=hM.tape
 size:=hM.size
 keep:=hM.keep
 shape:=hM.shape
 s0:=hM.s0
 slt:=hM.slt
 glob:=hM.glob
 snew:=hM.snew
 blt:=hM.blt
 bown:=fun r R b hp hR=>hM.bown r R b hp (h' r R hp hR)
 bkeep:=fun r R hlt hp hR=>hM.bkeep r R hlt hp (h' r R hp hR)
 inj:=fun r r' R R' b hp hp' hR hd hR'=>hM.inj r r' R R' b hp hp' (h' r R hp hR) hd (h' r' R' hp' hR')
 roots:=fun r R hp hR=>(hM.roots r R hp (h' r R hp hR)).step (Step.grown h) hp (fun _ _=>rfl) (fun _ _ h=>h)
theorem OpsW.cons{ops:Array Oper}{i:Nat}{rest:List Nat}{o:Oper}{T:List Nat}{out:Out}(ho:ops[i]? =some o)(hd:∀d,o.dst=some d→d<N)(hg:∀p∈out.g,p.1<st.rt.length+out.new.length)
  (h:OpSem P ops i T st.sl st.look st.rt.length out)(k:OpsW P N ops rest Q (st.put o.dst out)):OpsW P N ops (i::rest) Q st:=by
 intro c Ei a w hH
 obtain⟨E,rfl,hM,hSt,hrt,hpr,hsl,hdef,hsz,hm⟩:=hH
 obtain⟨o',ho',H⟩:=h
 rw[ho]at ho'
 obtain rfl:=Option.some.inj ho'
 rw[wpOps_cons]
 let rt':Nat→Option Root:=fun r=>(st.rt++out.new)[r]?
 have aa:∀r R,E.rt r=some R→rt' r=some R:=by
  intro r R hR
  rw[hrt]at hR
  have hR':st.rt[r]? =some R:=hR
  show(st.rt++out.new)[r]? =some R
  rw[List.getElem?_append_left (List.getElem?_eq_some_iff.1 hR').1]
  exact hR'
 have ab:∀r R,E.pres r→rt' r=some R→E.rt r=some R:=by
  intro r R hp hR
  rw[hpr]at hp
  rw[hrt]
  have hR':(st.rt++out.new)[r]? =some R:=hR
  rwa[List.getElem?_append_left hp]at hR'
 have hM':=hM.grown aa ab
 have hlk:XcL {E with rt:=rt'} ops o st.sl a:=fun t _=>(hsl t).grown aa
 refine H c {E with rt:=rt'} a hM' hlk ?_ ?_ ?_ _ _ ?_
 ·intro r _
  cases hr:st.look r with
  |none=>exact .inl rfl
  |some R=>exact .inr (aa r R (by rw[hrt];exact hr))
 ·exact .inl (List.getElem?_eq_none (Nat.le_refl _))
 ·refine⟨hm,?_,?_⟩
  ·intro k R hk
   show(st.rt++out.new)[st.rt.length+k]? =some R
   rw[List.getElem?_append_right (by omega)]
   simpa using hk
  ·intro k _ hp
   have:=(hpr _).1 hp
   omega
 ·intro v E' hO
  refine k c Ei (a.put o.dst v) E'.w ⟨E',rfl,hO.mem,hSt.trans ((Step.grown aa).trans hO.step),?_,?_,?_,?_,?_,?_⟩
  ·rw[hO.rt]
   funext x
   exact(Zw out.g _ (by simpa using hg) x).symm
  ·intro r
   rw[hO.pres]
   simp only[hpr,St.put,Rb,List.length_append]
   omega
  ·intro t
   have old:RelAV E' (st.sl t) (a.eval (.tmp t)):=((hsl t).grown aa).step hO.step
   cases hdst:o.dst with
   |none=>simpa[Act.put,St.put,hdst]using old
   |some d=>
    have hdN:=hd d hdst
    show RelAV E' (Vg st.sl d out.av t) ((a.put (some d) v).eval (.tmp t))
    unfold Vg
    split
    ·rename_i e
     subst e
     have:(a.put (some t) v).eval (.tmp t)=v:=by simp[Act.put,Act.eval,hsz,hdN]
     rw[this]
     exact hO.rel
    ·rename_i e
     have:(a.put (some d) v).eval (.tmp t)=a.eval (.tmp t):=Act.eval_put (fun d' hd'=>by
      obtain rfl:=Option.some.inj hd'
      intro he
      exact e (by simpa using he))
     rw[this]
     exact old
  ·cases o.dst<;>exact hdef
  ·rw[Act.size_put];exact hsz
  ·simp only[St.put,Rb,List.length_append];omega
theorem OpsW.nil{ops:Array Oper}(h:Q .normal st):OpsW P N ops [] Q st:=fun _ _ _ _ hH=>⟨st,h,hH⟩
theorem AW.region{id:Nat}{ops:Array Oper}(h:OpsW P N ops (List.range ops.size) Q st):AW P N (.region id ops false) Q st:=
 fun c Ei a w hH=>wp_region (h c Ei a w hH)
def Exit.thenQ(K:St→Prop)(Q:Exit→St→Prop):Exit→St→Prop
 | .normal,st=>K st
 |e,st=>Q e st
theorem AW.seq{x y:Code}(h:AW P N x (Exit.thenQ (AW P N y Q) Q) st):AW P N (.seq x y) Q st:=by
 intro c Ei a w hH
 refine wp_seq (wp_mono (h c Ei a w hH) ?_)
 rintro e a' w' ⟨st',hq,hH'⟩
 cases e with
 |normal=>exact hq c Ei a' w' hH'
 |_=>exact⟨st',hq,hH'⟩
theorem AW.skip(h:Q .normal st):AW P N .skip Q st:=fun _ _ _ _ hH=>wp_skip ⟨st,h,hH⟩
theorem AW.ret(h:Q .ret st):AW P N .ret Q st:=fun _ _ _ _ hH=>wp_ret ⟨st,h,hH⟩
theorem AW.exit{id:Nat}(h:Q (.exit id) st):AW P N (.exit id) Q st:=fun _ _ _ _ hH=>wp_exit ⟨st,h,hH⟩
theorem AW.label{l:Nat}(h:Q .normal st):AW P N (.label l) Q st:=fun _ _ _ _ hH=>wp_label ⟨st,h,hH⟩
theorem Yc{c:Ctx}{Ei:Env}{a:Act}{w:World}(hH:Holds c Ei N st a w)(x:Operand):∃E:Env,RelAV E (Cm st.sl x) (a.eval x):=by
 obtain⟨E,_,_,_,_,_,hsl,_⟩:=hH
 exact⟨E,Bw ⟨hsl,fun _=>rfl,fun _=>rfl⟩ x⟩
theorem AW.cond{x:Operand}{t e:Code}{b:Bool}(hx:Cm st.sl x= .d (.sc (.bool b)))(h1:b=true→AW P N t Q st)(h2:b=false→AW P N e Q st):AW P N (.cond x t e) Q st:=by
 intro c Ei a w hH
 obtain⟨E,hr⟩:=Yc hH x
 rw[hx]at hr
 have hv:a.eval x= .bool b:=Xd7 hr
 cases b with
 |true=>exact wp_cond_true hv (h1 rfl c Ei a w hH)
 |false=>exact wp_cond_false hv (h2 rfl c Ei a w hH)
theorem AW.condAny{x:Operand}{t e:Code}{p:Bool}(hx:Cm st.sl x= .anyb p)(h1:p=true→AW P N t Q st)(h2:AW P N e Q st):AW P N (.cond x t e) Q st:=by
 intro c Ei a w hH
 obtain⟨E,hr⟩:=Yc hH x
 rw[hx]at hr
 have hv:∃b,a.eval x= .bool b∧(b=true→p=true):=by
  generalize a.eval x=v at hr
  cases hr with
  |anyb _ b h=>exact⟨b,rfl,h⟩
 obtain⟨b,hv,hb⟩:=hv
 cases b with
 |true=>exact wp_cond_true hv (h1 (hb rfl) c Ei a w hH)
 |false=>exact wp_cond_false hv (h2 c Ei a w hH)
def Exit.blockQ(id:Nat)(Q:Exit→St→Prop):Exit→St→Prop
 | .exit id',st=>if id'=id then Q .normal st else Q (.exit id') st
 |e,st=>Q e st
theorem AW.block{id:Nat}{x:Code}(h:AW P N x (Exit.blockQ id Q) st):AW P N (.block id x) Q st:=by
 intro c Ei a w hH
 refine wp_block (wp_mono (h c Ei a w hH) ?_)
 rintro e a' w' ⟨st',hq,hH'⟩
 cases e with
 |exit id'=>
  simp only[Exit.blockQ]at hq
  simp only[Exit.inBlock]
  split
  ·rename_i e;rw[if_pos e]at hq;exact⟨st',hq,hH'⟩
  ·rename_i e;rw[if_neg e]at hq;exact⟨st',hq,hH'⟩
 |_=>exact⟨st',hq,hH'⟩
theorem AW.loop{x:Code}(I:Nat→St→Prop)(n:Nat)(h0:I n st)(round:∀n st,I n st→AW P N x (Exit.thenQ (fun st'=>∃n',n'<n∧I n' st') Q) st):AW P N (.loop x) Q st:=by
 intro c Ei a w hH
 let J:Act→World→Nat→Prop:=fun a w n=>∃st,I n st∧Holds c Ei N st a w
 let μ:Act→World→Nat:=fun a w=>open Classical in if h:∃k,J a w k∧∀m,J a w m→k≤m then h.choose else 0
 have hμ:∀{a w n},J a w n→J a w (μ a w)∧μ a w≤n:=by
  intro a w n h
  have hl:=Np n h
  have:μ a w=hl.choose:=dif_pos hl
  rw[this]
  exact⟨hl.choose_spec.1,hl.choose_spec.2 n h⟩
 refine wp_loop (fun a w=>∃n,J a w n) μ ⟨n,st,h0,hH⟩ ?_
 rintro a w ⟨n,hn⟩
 obtain⟨⟨st',hI,hH'⟩,_⟩:=hμ hn
 refine wp_mono (round _ st' hI c Ei a w hH') ?_
 rintro e a' w' ⟨st'',hq,hH''⟩
 cases e with
 |normal=>
  obtain⟨n',hlt,hI'⟩:=hq
  have hJ:J a' w' n':=⟨st'',hI',hH''⟩
  exact⟨⟨n',hJ⟩,Nat.lt_of_le_of_lt (hμ hJ).2 hlt⟩
 |_=>exact⟨st'',hq,hH''⟩
theorem AW.mono{x:Code}{Q':Exit→St→Prop}(h:AW P N x Q st)(hq:∀e st,Q e st→Q' e st):AW P N x Q' st:=
 fun c Ei a w hH=>wp_mono (h c Ei a w hH) (fun _ _ _ ⟨st',q,h'⟩=>⟨st',hq _ _ q,h'⟩)
theorem AW.weak{x:Code}{sl':Nat→AV}(hs:∀t,sl' t=st.sl t∨sl' t= .junk)(h:AW P N x Q ⟨sl',st.rt⟩):AW P N x Q st:=by
 intro c Ei a w hH
 obtain⟨E,hw,hM,hSt,hrt,hpr,hsl,hrest⟩:=hH
 refine h c Ei a w ⟨E,hw,hM,hSt,hrt,hpr,?_,hrest⟩
 intro t
 rcases hs t with e|e
 ·show RelAV E (sl' t) _
  rw[e];exact hsl t
 ·show RelAV E (sl' t) _
  rw[e];exact .junk _
end
def Root.ids:Root→List Nat
 | .box _ l=>AV.idss l
 |_=>[]
def XcV(n:Nat):Nat→Option Nat:=fun r=>if r<n then some r else none
mutual
theorem Xbv{n:Nat}:∀{x:AV},(∀r∈x.ids,r<n)→x.ren (XcV n)=some x
 | .d x,_=>rfl
 | .ref r o l,h=>by have:=h r (by simp[AV.ids]);simp[AV.ren,XcV,this]
 | .ptr r i j,h=>by have:=h r (by simp[AV.ids]);simp[AV.ren,XcV,this]
 | .rptr cs,_=>rfl
 | .agg l,h=>by simp[AV.ren,L6 (x:=l) (by simpa[AV.ids]using h)]
 | .tup l,h=>by simp[AV.ren,L6 (x:=l) (by simpa[AV.ids]using h)]
 | .clo g l,h=>by simp[AV.ren,L6 (x:=l) (by simpa[AV.ids]using h)]
 | .anyb p,_=>rfl
 | .junk,_=>rfl
theorem L6{n:Nat}:∀{x:List AV},(∀r∈AV.idss x,r<n)→AV.rens (XcV n) x=some x
 |[],_=>rfl
 |x::l,h=>by
  have h1:=Xbv (n:=n) (x:=x) (fun r hr=>h r (by simp[AV.idss,hr]))
  have h2:=L6 (n:=n) (x:=l) (fun r hr=>h r (by simp[AV.idss,hr]))
  simp[AV.rens,h1,h2]
end
theorem Xab{n:Nat}{R:Root}(h:∀r∈R.ids,r<n):R.ren (XcV n)=some R:=by
 cases R with
 |row=>rfl
 |buf=>rfl
 |map=>rfl
 |box t l=>simp[Root.ren,L6 (x:=l) (by simpa[Root.ids]using h)]
 |dead=>rfl
theorem Holds.drop{c:Ctx}{Ei:Env}{N:Nat}{st:St}{a:Act}{w:World}(h:Holds c Ei N st a w){n:Nat}{sl':Nat→AV}(hm:c.m≤n)(hn:n≤st.rt.length)(hs:∀t,sl' t= .junk∨(sl' t=st.sl t∧∀r∈(sl' t).ids,r<n))
  (hr:∀(r:Nat) R,r<n→st.rt[r]? =some R→∀i∈R.ids,i<n):Holds c Ei N ⟨sl',st.rt.take n⟩ a w:=by
 obtain⟨E,rfl,hM,hSt,hrt,hpr,hsl,hdef,hsz,_⟩:=h
 have up:∀{r},r<n→E.pres r:=fun hr=>(hpr _).2 (by omega)
 have e:∀{r R},r<n→(if r<n then E.rt r else none)=some R→E.rt r=some R:=by
  intro r R hr h
  rwa[if_pos hr]at h
 let E':Env:=⟨fun r=>if r<n then E.rt r else none,fun r=>r<n,E.β,E.S,E.w⟩
 have hC:Conn (XcV n) E E':=by
  refine⟨rfl,fun _ h=>h,?_,?_,?_⟩
  ·intro r r' h
   obtain⟨hr,h⟩:=Option.ite_none_right_eq_some.1 h
   obtain rfl:=Option.some.inj h
   show Option.map Root.kind (if r<n then E.rt r else none)=_
   rw[if_pos hr]
  ·intro r r' h
   obtain⟨hr,h⟩:=Option.ite_none_right_eq_some.1 h
   obtain rfl:=Option.some.inj h
   exact⟨fun _=>up hr,fun _=>hr⟩
  ·intro r r' h _
   obtain⟨hr,h⟩:=Option.ite_none_right_eq_some.1 h
   obtain rfl:=Option.some.inj h
   rfl
 have hM':Mem c E':={
  os:=hM.os
  output:=hM.output
  tape:=hM.tape
  size:=hM.size
  keep:=hM.keep
  shape:=hM.shape
  s0:=hM.s0
  slt:=hM.slt
  glob:=hM.glob
  snew:=hM.snew
  blt:=fun r b hp=>hM.blt r b (up hp)
  bown:=fun r R b hp hR=>hM.bown r R b (up hp) (e hp hR)
  bkeep:=fun r R hlt hp hR=>hM.bkeep r R hlt (up hp) (e hp hR)
  inj:=fun r r' R R' b hp hp' hR hd hR'=>hM.inj r r' R R' b (up hp) (up hp') (e hp hR) hd (e hp' hR')
  roots:=by
   intro r R hp hR
   have hR0:=e hp hR
   have hlook:st.rt[r]? =some R:=by rw[hrt]at hR0;exact hR0
   exact RootRel.conn hC (fun _ h=>h) (show XcV n r=some r from if_pos hp) (up hp) (Xab (hr r R hp hlook)) (hM.roots r R (up hp) hR0)}
 refine⟨E',rfl,hM',?_,?_,?_,?_,hdef,hsz,?_⟩
 ·refine⟨?_,fun r hr _=>Nat.lt_of_lt_of_le hr hm,fun r hr hp=>hSt.β r hr hp,hSt.S,hSt.heap,hSt.shape⟩
  intro r R hr hR
  obtain⟨R',h1,h2⟩:=hSt.rt r R hr hR
  refine⟨R',?_,h2⟩
  show(if r<n then E.rt r else none)=_
  rw[if_pos (by omega)]
  exact h1
 ·funext r
  show(if r<n then E.rt r else none)=(st.rt.take n)[r]?
  rw[List.getElem?_take]
  split
  ·rw[hrt];rfl
  ·rfl
 ·intro r
  show r<n↔r<(st.rt.take n).length
  rw[List.length_take]
  omega
 ·intro t
  show RelAV E' (sl' t) _
  rcases hs t with h|⟨h1,h2⟩
  ·rw[h];exact .junk _
  ·exact RelAV.conn hC (by rw[h1];exact hsl t) (Xbv h2)
 ·show c.m≤(st.rt.take n).length
  rw[List.length_take]
  omega
open Go
def Xch:List Nat→Nat→Nat→Option Nat
 |[],_,_=>none
 |i::ids,r,k=>if i=r then some k else Xch ids r (k+1)
def Ee(m:Nat)(ids:List Nat):Nat→Option Nat:=fun r=>if r<m then some r else Xch ids r m
def G3(m:Nat):Nat→Option Nat:=fun r=>if r<m then some r else none
def Pa(P:Program)(st:St):ResultVar→Option AV
 | .tmp t=>some (st.sl t)
 | .cell a t=>(Xq P t).bind fun g=>(szT P t).bind fun n=>E8 st.look n g (st.sl a)
def Hw(P:Program)(st:St):List ResultVar→Option (List AV)
 |[]=>some []
 |x::l=>(Pa P st x).bind fun y=>(Hw P st l).map (y::·)
def Wz:List AV→AV
 |[x]=>x
 |l=>.tup l
def XjC(P:Program)(rs:Array ResultVar)(r0:List Root)(o:Out)(st:St):Prop:=
 ∃ids l,Hw P st rs.toList=some l∧(Wz l).ren (Ee r0.length ids)=some o.av∧(∀i∈ids,r0.length≤i)∧ids.Nodup∧
  ids.length=o.new.length∧(∀(k:Nat) i R,ids[k]? =some i→o.new[k]? =some R→∃R0,st.rt[i]? =some R0∧R0.ren (Ee r0.length ids)=some R)∧
  (∀(r:Nat) R,r0[r]? =some R→∃R0 R1,st.rt[r]? =some R0∧R0.ren (Ee r0.length ids)=some R1∧Lz o.g (fun r=>r0[r]?) r=some R1)∧(∀p∈o.g,p.1<r0.length)
theorem Xm:∀{ids:List Nat} {r k x:Nat},Xch ids r k=some x→k≤x∧ids[x - k]? =some r
 |[],r,k,x,h=>by simp[Xch]at h
 |i::ids,r,k,x,h=>by
  simp only[Xch]at h
  split at h
  ·rename_i e
   obtain rfl:=Option.some.inj h
   simp[e]
  ·obtain⟨h1,h2⟩:=Xm h
   refine⟨by omega,?_⟩
   rw[show x - k=(x - (k+1))+1 by omega]
   simpa using h2
theorem XbU:∀{ids:List Nat} {r k j:Nat},ids.Nodup→ids[j]? =some r→Xch ids r k=some (k+j)
 |[],r,k,j,_,h=>by simp at h
 |i::ids,r,k,j,hn,h=>by
  simp only[Xch]
  cases j with
  |zero=>simp at h;subst h;simp
  |succ j=>
   simp at h
   have hne:¬i=r:=by
    rintro rfl
    exact(List.nodup_cons.1 hn).1 (List.mem_of_getElem? h)
   rw[if_neg hne,XbU (List.nodup_cons.1 hn).2 h]
   congr 1
   omega
section
variable {P:Program} {c:Ctx} {E:Env}
theorem Ri{α:Type}{g:α→Sem Value}{w:World}:∀{rs:List α} {vs:List Value},rs.length=vs.length→
  (∀(k:Nat) x v,rs[k]? =some x→vs[k]? =some v→(g x).run P w= .ok v w)→(rs.mapM g).run P w= .ok vs w
 |[],[],_,_=>by simp
 |x::rs,v::vs,hl,h=>by
  have h0:=h 0 x v rfl rfl
  have ih:=Ri (rs:=rs) (vs:=vs) (by simpa using hl) (fun k y u hy hu=>h (k+1) y u (by simpa using hy) (by simpa using hu))
  rw[List.mapM_cons]
  simp[h0,ih]
 |[],_::_,hl,_=>by simp at hl
 |_::_,[],hl,_=>by simp at hl
theorem XfW(hM:Mem c E){st:St}{a:Act}(hrt:E.rt=st.look)(hsl:∀t,RelAV E (st.sl t) (a.eval (.tmp t))){x:ResultVar}{y:AV}(h:Pa P st x=some y):
  ∃v,(match x with| .tmp t=>pure (a.tmps.getD t undef)| .cell b t=>do loadVar t (←asAddr (a.tmps.getD b undef)):Sem Value).run P E.w= .ok v E.w∧RelAV E y v:=by
 cases x with
 |tmp t=>
  simp only[Pa,Option.some.injEq]at h
  subst h
  exact⟨_,rfl,hsl t⟩
 |cell b t=>
  simp only[Pa]at h
  obtain⟨g,hg,h⟩:=Option.bind_eq_some_iff.1 h
  obtain⟨n,hn,h⟩:=Option.bind_eq_some_iff.1 h
  rw[←hrt]at h
  have hr:=hsl b
  obtain⟨u,hu,hur⟩:=Tn hM hg hn hr h
  refine⟨u,?_,hur⟩
  have hv:∃ad:Addr,a.eval (.tmp b)= .pointer (some ad)∧(Instr.loadAt t (.pointer (some ad))).run P E.w=(loadVar t ad).run P E.w:=by
   generalize hx:st.sl b=z at hr h
   generalize hy:a.eval (.tmp b)=v at hr
   cases hr with
   |ptr _ _ _ R b h1 h2 h3=>
    cases R with
    |map=>simp[E8,h1]at h
    |_=>exact⟨_,rfl,by simp[Instr.loadAt,Instr.sureAddr]⟩
   |rptr=>exact⟨_,rfl,by simp[Instr.loadAt,Instr.sureAddr]⟩
   |dptr _ _ _ _ h1=>simp[E8,h1]at h
   |_=>simp[E8]at h
  obtain⟨ad,h1,h2⟩:=hv
  rw[h1]at hu
  rw[h2]at hu
  have h1':a.tmps.getD b undef= .pointer (some ad):=h1
  simp only[h1']
  simpa[asAddr]using hu
theorem Xd(hM:Mem c E){st:St}{a:Act}(hrt:E.rt=st.look)(hsl:∀t,RelAV E (st.sl t) (a.eval (.tmp t))):∀{rs:List ResultVar} {l:List AV},Hw P st rs=some l→
  ∃vs:List Value,rs.length=vs.length∧l.length=vs.length∧(∀(k:Nat) x v,rs[k]? =some x→vs[k]? =some v→(match x with| .tmp t=>pure (a.tmps.getD t undef)| .cell b t=>do loadVar t (←asAddr (a.tmps.getD b undef)):Sem Value).run P E.w= .ok v E.w)∧
   ∀(k:Nat) y v,l[k]? =some y→vs[k]? =some v→RelAV E y v
 |[],l,h=>by simp[Hw]at h;subst h;exact⟨[],rfl,rfl,by simp,by simp⟩
 |x::rs,l,h=>by
  simp only[Hw]at h
  obtain⟨y,hy,h⟩:=Option.bind_eq_some_iff.1 h
  obtain⟨l',hl,rfl⟩:=Option.map_eq_some_iff.1 h
  obtain⟨v,hv,hr⟩:=XfW hM hrt hsl hy
  obtain⟨vs,h1,h2,h3,h4⟩:=Xd hM hrt hsl hl
  refine⟨v::vs,by simp[h1],by simp[h2],?_,?_⟩
  ·intro k x' v' hx' hv'
   cases k with
   |zero=>simp at hx' hv';subst hx' hv';exact hv
   |succ k=>exact h3 k x' v' (by simpa using hx') (by simpa using hv')
  ·intro k y' v' hy' hv'
   cases k with
   |zero=>simp at hy' hv';subst hy' hv';exact hr
   |succ k=>exact h4 k y' v' (by simpa using hy') (by simpa using hv')
theorem U2(hM:Mem c E){fn:Func}{st:St}{a:Act}(hrt:E.rt=st.look)(hsl:∀t,RelAV E (st.sl t) (a.eval (.tmp t))){l:List AV}(h:Hw P st fn.results.toList=some l):
  ∃v,(results fn a.tmps).run P E.w= .ok v E.w∧RelAV E (Wz l) v:=by
 obtain⟨vs,h1,h2,h3,h4⟩:=Xd hM hrt hsl h
 have hrun:=Ri (P:=P) (w:=E.w) h1 h3
 refine⟨if h:vs.toArray.size=1 then vs.toArray[0]else .tuple vs.toArray,?_,?_⟩
 ·unfold results
  rw[Array.mapM_eq_mapM_toList]
  simp only[Sem.run_bind,Sem.run_map]
  erw [hrun]
  simp
 ·match l,vs,h2,h4 with
  |[y],[v],_,h4=>exact h4 0 y v rfl rfl
  |[],[],_,_=>exact .tup [] #[] rfl (fun j y hy=>by simp at hy)
  |y::y'::l,v::v'::vs,h2,h4=>
   have hne:¬((v::v'::vs).toArray.size=1):=by simp
   rw[dif_neg hne]
   refine .tup (y::y'::l) (v::v'::vs).toArray (by simpa using h2.symm) ?_
   intro j z hz
   have hlt:j<(v::v'::vs).length:=by rw[←h2];exact(List.getElem?_eq_some_iff.1 hz).1
   have hv:(v::v'::vs)[j]? =some (v::v'::vs)[j]:=List.getElem?_eq_getElem hlt
   have:=h4 j z _ hz hv
   have e:(v::v'::vs).toArray.getD j undef=(v::v'::vs)[j]:=by
    rw[Array.getD_eq_getD_getElem?,List.getElem?_toArray,hv]
    rfl
   rw[e]
   exact this
  |[],_::_,h2,_=>simp at h2
  |_::_,[],h2,_=>simp at h2
  |[_],_::_::_,h2,_=>simp at h2
  |_::_::_,[_],h2,_=>simp at h2
end
open Go
def Oo(as0:List AV):Nat→AV:=fun t=>(as0[t]?).getD .junk
def EndQ(P:Program)(rs:Array ResultVar)(r0:List Root)(o:Out):Exit→St→Prop
 | .normal,st=>XjC P rs r0 o st
 | .ret,st=>XjC P rs r0 o st
 |_,_=>False
theorem Fv{m:Nat}{ids:List Nat}{r x:Nat}(h:Ee m ids r=some x):(r<m∧x=r)∨(m≤r∧m≤x∧ids[x - m]? =some r):=by
 unfold Ee at h
 split at h
 ·exact .inl ⟨by assumption,(Option.some.inj h).symm⟩
 ·obtain⟨h1,h2⟩:=Xm h
  exact .inr ⟨by omega,h1,h2⟩
theorem W7{m:Nat}{ids:List Nat}(hn:ids.Nodup)(hm:∀i∈ids,m≤i){k r:Nat}(h:ids[k]? =some r):Ee m ids r=some (m+k):=by
 unfold Ee
 have:=hm r (List.mem_of_getElem? h)
 rw[if_neg (by omega)]
 exact XbU hn h
theorem Jy:∀{g:List (Nat×Root)} {rt:Nat→Option Root} {r:Nat},(∀p∈g,p.1≠r)→Lz g rt r=rt r
 |[],_,_,_=>rfl
 |(i,R)::g,rt,r,h=>by
  simp only[Lz]
  rw[if_neg (fun e=>h (i,R) (by simp) e.symm)]
  exact Jy (fun p hp=>h p (by simp[hp]))
theorem Ik:∀{g:List (Nat×Root)} {rt rt':Nat→Option Root} {r:Nat},rt r=rt' r→Lz g rt r=Lz g rt' r
 |[],_,_,_,h=>h
 |(i,R)::g,rt,rt',r,h=>by
  simp only[Lz]
  rw[Ik (g:=g) h]
theorem Xfd{w:World}{S:Nat→Prop}{β:Nat→Option Nat}{r0 new:List Root}(hM:Mem (F3 w S β r0) (B1 w S β r0 new))(hw:Fl (G3 r0.length) r0=some r0):
  Conn (G3 r0.length) (B1 w S β r0 new) (B1 w S β r0 [])∧Mem (F3 w S β r0) (B1 w S β r0 []):=by
 have hrt:∀{r},r<r0.length→(B1 w S β r0 []).rt r=(B1 w S β r0 new).rt r:=by
  intro r hr
  show(r0++[])[r]? =(r0++new)[r]?
  rw[List.append_nil,List.getElem?_append_left hr]
 have hC:Conn (G3 r0.length) (B1 w S β r0 new) (B1 w S β r0 []):=by
  refine⟨rfl,fun _ h=>h,?_,?_,?_⟩
  ·intro r r' h
   unfold G3 at h
   obtain⟨hr,h⟩:=Option.ite_none_right_eq_some.1 h
   obtain rfl:=Option.some.inj h
   rw[hrt hr]
  ·intro r r' h
   unfold G3 at h
   obtain⟨hr,h⟩:=Option.ite_none_right_eq_some.1 h
   obtain rfl:=Option.some.inj h
   exact Iff.rfl
  ·intro r r' h _
   unfold G3 at h
   obtain⟨hr,h⟩:=Option.ite_none_right_eq_some.1 h
   obtain rfl:=Option.some.inj h
   rfl
 refine⟨hC,?_⟩
 have up:∀{r R},(B1 w S β r0 []).pres r→(B1 w S β r0 []).rt r=some R→(B1 w S β r0 new).rt r=some R:=fun hp h=>by rw[←hrt hp];exact h
 exact{
  os:=hM.os
  output:=hM.output
  tape:=hM.tape
  size:=hM.size
  keep:=hM.keep
  shape:=hM.shape
  s0:=hM.s0
  slt:=hM.slt
  glob:=hM.glob
  snew:=hM.snew
  blt:=hM.blt
  bown:=fun r R b hp hR=>hM.bown r R b hp (up hp hR)
  bkeep:=fun r R hlt hp hR=>hM.bkeep r R hlt hp (up hp hR)
  inj:=fun r r' R R' b hp hp' hR hd hR'=>hM.inj r r' R R' b hp hp' (up hp hR) hd (up hp' hR')
  roots:=by
   intro r R hp hR
   have hr:r<r0.length:=hp
   have hf:G3 r0.length r=some r:=if_pos hr
   have hR0:r0[r]? =some R:=by
    have:(r0++[])[r]? =some R:=hR
    rwa[List.append_nil]at this
   obtain⟨hlen,hget⟩:=Gp hw
   obtain⟨R',h1,h2⟩:=hget r R hR0
   rw[hR0]at h1
   obtain rfl:=Option.some.inj h1
   exact RootRel.conn hC (fun _ h=>h) hf hp h2 (hM.roots r R hp (up hp hR))}
theorem CallOk.of_body{P:Program}{f:FuncId}{fn:Func}{body:Code}{as0:List AV}{r0:List Root}{o:Out}(hf:P.funcs[f]? =some fn)(hb:fn.body=some body)(hN:as0.length≤fn.ntmps)
  (hwa:AV.rens (G3 r0.length) as0=some as0)(hwr:Fl (G3 r0.length) r0=some r0)(h:AW P fn.ntmps body (EndQ P fn.results r0 o) ⟨Oo as0,r0⟩):CallOk P f as0 r0 o:=by
 intro w S β vs hM hA
 obtain⟨hC0,hM0⟩:=Xfd hM hwr
 have hA0:XcC (B1 w S β r0 []) as0 vs:=by
  obtain⟨_,hget⟩:=Ku hwa
  refine⟨hA.1,?_⟩
  intro j y hy
  obtain⟨y',h1,h2⟩:=hget j y hy
  rw[hy]at h1
  obtain rfl:=Option.some.inj h1
  exact(hA.2 j y hy).conn hC0 h2
 refine calls_of_wp hf hb ?_
 refine wp_mono (h (F3 w S β r0) (B1 w S β r0 []) _ w ?_) ?_
 ·refine⟨B1 w S β r0 [],rfl,hM0,(Step.refl _).toP,?_,fun _=>Iff.rfl,?_,rfl,?_,Nat.le_refl _⟩
  ·funext r
   show(r0++[])[r]? =r0[r]?
   rw[List.append_nil]
  ·intro t
   show RelAV _ ((as0[t]?).getD .junk) ((vs++Array.replicate (fn.ntmps - vs.size) undef).getD t undef)
   cases ht:as0[t]? with
   |none=>exact .junk _
   |some y=>
    have hlt:t<vs.size:=by rw[hA0.1];exact(List.getElem?_eq_some_iff.1 ht).1
    have:=hA0.2 t y ht
    have e:(vs++Array.replicate (fn.ntmps - vs.size) undef).getD t undef=vs.getD t undef:=by
     rw[Array.getD_eq_getD_getElem?,Array.getD_eq_getD_getElem?,Array.getElem?_append_left hlt]
    rw[e]
    exact this
  ·simp only[Array.size_append,Array.size_replicate]
   have:=hA0.1
   omega
 ·rintro e a' w' ⟨st,hq,hH⟩
  have main:XjC P fn.results r0 o st→a'.defers=[]∧∃v,(results fn a'.tmps).run P w'= .ok v w'∧∃v' E',Ending.returned v= .returned v'∧E'.w=w'∧OutRel (F3 w S β r0) (B1 w S β r0 o.new) r0.length o v' E':=by
   rintro⟨ids,l,hl,hav,hids,hnd,hlen,hnew,hpar,hg⟩
   obtain⟨E,rfl,hMe,hSt,hrt,hpr,hsl,hdef,hsz,hm⟩:=hH
   obtain⟨v,hrun,hrel⟩:=U2 hMe hrt hsl hl
   refine⟨hdef,v,hrun,v,⟨Lz o.g (B1 w S β r0 o.new).rt,fun r=>r<r0.length+o.new.length,fun r=>if r<r0.length then E.β r else(ids[r - r0.length]?).bind E.β,E.S,E.w⟩,rfl,rfl,?_⟩
   generalize hE1:(⟨Lz o.g (B1 w S β r0 o.new).rt,fun r=>r<r0.length+o.new.length,fun r=>if r<r0.length then E.β r else(ids[r - r0.length]?).bind E.β,E.S,E.w⟩:Env)=E1
   have e_rt:E1.rt=Lz o.g (B1 w S β r0 o.new).rt:=by rw[←hE1]
   have e_pr:∀r,E1.pres r↔r<r0.length+o.new.length:=by intro r;rw[←hE1]
   have e_β:∀r,E1.β r=if r<r0.length then E.β r else(ids[r - r0.length]?).bind E.β:=by intro r;rw[←hE1]
   have e_S:E1.S=E.S:=by rw[←hE1]
   have e_w:E1.w=E.w:=by rw[←hE1]
   have rtnew:∀{k},k<o.new.length→E1.rt (r0.length+k)=o.new[k]? :=by
    intro k hk
    rw[e_rt,Jy (fun p hp e=>by have:=hg p hp;omega)]
    show(r0++o.new)[r0.length+k]? =_
    rw[List.getElem?_append_right (by omega)]
    congr 1
    omega
   have rtpar:∀{r R},r0[r]? =some R→∃R0 R1,E.rt r=some R0∧R0.ren (Ee r0.length ids)=some R1∧E1.rt r=some R1:=by
    intro r R hR
    obtain⟨R0,R1,h1,h2,h3⟩:=hpar r R hR
    refine⟨R0,R1,by rw[hrt];exact h1,h2,?_⟩
    rw[e_rt,←h3]
    refine Ik ?_
    show(r0++o.new)[r]? =r0[r]?
    rw[List.getElem?_append_left (List.getElem?_eq_some_iff.1 hR).1]
   have src:∀{x},x<r0.length+o.new.length→∃r,Ee r0.length ids r=some x∧E.pres r∧E1.β x=E.β r∧∃R0 R1,E.rt r=some R0∧R0.ren (Ee r0.length ids)=some R1∧E1.rt x=some R1:=by
    intro x hx
    by_cases h:x<r0.length
    ·obtain⟨R0,R1,h1,h2,h3⟩:=rtpar (List.getElem?_eq_getElem h)
     exact⟨x,if_pos h,(hpr x).2 (Nat.lt_of_lt_of_le h hm),by rw[e_β,if_pos h],R0,R1,h1,h2,h3⟩
    ·have hk:x - r0.length<ids.length:=by omega
     have hgi:ids[x - r0.length]? =some ids[x - r0.length]:=List.getElem?_eq_getElem hk
     have hk':x - r0.length<o.new.length:=by omega
     obtain⟨R0,h1,h2⟩:=hnew _ _ _ hgi (List.getElem?_eq_getElem hk')
     have hf:=W7 hnd hids hgi
     rw[show r0.length+(x - r0.length)=x by omega]at hf
     refine⟨ids[x - r0.length],hf,?_,?_,R0,_,by rw[hrt];exact h1,h2,?_⟩
     ·rw[hpr];exact(List.getElem?_eq_some_iff.1 h1).1
     ·rw[e_β,if_neg h,hgi];rfl
     ·have:=rtnew hk'
      rw[show r0.length+(x - r0.length)=x by omega]at this
      rw[this]
      exact List.getElem?_eq_getElem hk'
   have dom:∀{r x},Ee r0.length ids r=some x→x<r0.length+o.new.length:=by
    intro r x h
    rcases Fv h with⟨h1,rfl⟩|⟨h1,h2,h3⟩
    ·omega
    ·have:=(List.getElem?_eq_some_iff.1 h3).1
     omega
   have inj':∀{r r' x},Ee r0.length ids r=some x→Ee r0.length ids r'=some x→r=r':=by
    intro r r' x h h'
    rcases Fv h with⟨h1,rfl⟩|⟨h1,h2,h3⟩<;>rcases Fv h' with⟨k1,k2⟩|⟨k1,k2,k3⟩
    ·exact k2
    ·omega
    ·omega
    ·rw[h3]at k3;exact Option.some.inj k3
   have hC:Conn (Ee r0.length ids) E E1:=by
    refine⟨e_w,fun b hb=>by rw[e_S];exact hb,?_,?_,?_⟩
    ·intro r x h
     obtain⟨r',h1,_,_,R0,R1,h2,h3,h4⟩:=src (dom h)
     rw[inj' h h1,h2,h4]
     simp[Ix h3]
    ·intro r x h
     obtain⟨r',h1,h2,_⟩:=src (dom h)
     rw[inj' h h1]
     exact⟨fun _=>h2,fun _=>(e_pr x).2 (dom h)⟩
    ·intro r x h _
     obtain⟨r',h1,_,h2,_⟩:=src (dom h)
     rw[h2,inj' h h1]
   have live:∀{x R},E1.pres x→E1.rt x=some R→R≠.dead→∃r R0,Ee r0.length ids r=some x∧E.pres r∧E1.β x=E.β r∧E.rt r=some R0∧R0≠.dead:=by
    intro x R hp hR hd
    obtain⟨r,h1,h2,h3,R0,R1,h4,h5,h6⟩:=src ((e_pr x).1 hp)
    rw[hR]at h6
    obtain rfl:=Option.some.inj h6
    exact⟨r,R0,h1,h2,h3,h4,fun e=>hd ((Hg h5).2 e)⟩
   refine⟨?_,?_,e_rt,?_,?_,?_⟩
   ·exact{
     os:=by rw[e_w];exact hMe.os
     output:=by rw[e_w];exact hMe.output
     tape:=by rw[e_w];exact hMe.tape
     size:=by rw[e_w];exact hMe.size
     keep:=by rw[e_w];exact hMe.keep
     shape:=by rw[e_w];exact hMe.shape
     s0:=by rw[e_S];exact hMe.s0
     slt:=by rw[e_S,e_w];exact hMe.slt
     glob:=by rw[e_S,e_w];exact hMe.glob
     snew:=by rw[e_S];exact hMe.snew
     blt:=by
      intro x b hp hb
      obtain⟨r,_,h2,h3,_⟩:=src ((e_pr x).1 hp)
      rw[h3]at hb
      rw[e_w]
      exact hMe.blt r b h2 hb
     bown:=by
      intro x R b hp hR hd hb
      obtain⟨r,R0,_,h2,h3,h4,h5⟩:=live hp hR hd
      rw[h3]at hb
      exact hMe.bown r R0 b h2 h4 h5 hb
     bkeep:=by
      intro x R hlt hp hR hd
      obtain⟨r,R0,h1,h2,h3,h4,h5⟩:=live hp hR hd
      have hlt':x<r0.length:=hlt
      rcases Fv h1 with⟨k1,rfl⟩|⟨k1,k2,_⟩
      ·rw[h3];exact hMe.bkeep x R0 hlt h2 h4 h5
      ·omega
     inj:=by
      intro x x' R R' b hp hp' hR hd hR' hd' hb hb'
      obtain⟨r,R0,h1,h2,h3,h4,h5⟩:=live hp hR hd
      obtain⟨r',R0',h1',h2',h3',h4',h5'⟩:=live hp' hR' hd'
      rw[h3]at hb
      rw[h3']at hb'
      have:=hMe.inj r r' R0 R0' b h2 h2' h4 h5 h4' h5' hb hb'
      subst this
      rw[h1]at h1'
      exact Option.some.inj h1'
     roots:=by
      intro x R hp hR
      obtain⟨r,h1,h2,h3,R0,R1,h4,h5,h6⟩:=src ((e_pr x).1 hp)
      rw[hR]at h6
      obtain rfl:=Option.some.inj h6
      exact RootRel.conn hC (fun b hb=>by rw[←e_S];exact hb) h1 h2 h5 (hMe.roots r R0 h2 h4)}
   ·refine⟨?_,?_,?_,?_,?_,?_⟩
    ·intro r R hR
     have hR':(r0++o.new)[r]? =some R:=hR
     by_cases h:r<r0.length
     ·have hR0:r0[r]? =some R:=by rwa[List.getElem?_append_left h]at hR'
      obtain⟨R0,R1,h1,h2,h3⟩:=rtpar hR0
      refine⟨R1,h3,?_⟩
      obtain⟨R2,k1,k2⟩:=hSt.rt r R h (by show(r0++[])[r]? =some R;rw[List.append_nil];exact hR0)
      rw[h1]at k1
      obtain rfl:=Option.some.inj k1
      rcases k2 with k2|k2
      ·exact .inl ((Hg h2).2 k2)
      ·exact .inr ((Ix h2).trans k2)
     ·have hlt:r<(r0++o.new).length:=(List.getElem?_eq_some_iff.1 hR').1
      simp only[List.length_append]at hlt
      have:=rtnew (k:=r - r0.length) (by omega)
      rw[show r0.length+(r - r0.length)=r by omega]at this
      rw[List.getElem?_append_right (by omega)]at hR'
      exact⟨R,by rw[this];exact hR',.inr rfl⟩
    ·intro r hr
     have:r<r0.length:=hr
     rw[e_pr];omega
    ·intro r hr
     have:r<r0.length:=hr
     rw[e_β,if_pos this]
     exact hSt.β r this hr
    ·intro b hb;rw[e_S];exact hSt.S b hb
    ·intro b hb;rw[e_w];exact hSt.heap b hb
    ·intro b s hs;rw[e_w];exact hSt.shape b s hs
   ·intro r
    rw[e_pr]
    show _↔r<r0.length∨_
    omega
   ·rw[e_w];exact hMe.size
   ·exact hrel.conn hC hav
  cases e with
  |normal=>obtain⟨h1,v,h2,h3⟩:=main hq;exact⟨h1,v,h2,h3⟩
  |ret=>obtain⟨h1,v,h2,h3⟩:=main hq;exact⟨h1,v,h2,h3⟩
  |_=>exact hq.elim
open Go
def Ph(ops:Array Oper):Nat→Nat→Nat→Bool
 |0,_,_=>false
 |fuel+1,j,i=>match ops[j]? with
  |none=>false
  |some o=>o.after.any fun e=>Region.binds .any e&&(e.on==i||Ph ops fuel e.on i)
structure Eff where
 g:List Nat
 n:Nat
 T:List Nat
def XkF(nb:Nat)(eff:List Eff):Nat→Nat
 |0=>nb
 |i+1=>XkF nb eff i+((eff[i]?).map Eff.n).getD 0
def K8(nb:Nat)(eff:List Eff)(i j:Nat):Bool:=
 match eff[i]?,eff[j]? with
 |some x,some y=>x.g.all fun r=>!y.T.contains r&& !y.g.contains r&& !(XkF nb eff j≤r&&r<XkF nb eff j+y.n)
 |_,_=>false
def N3(ops:Array Oper)(N nb:Nat)(eff:List Eff):Bool:=
 (List.range ops.size).all fun j=>match ops[j]? with
  |none=>false
  |some o=>o.after.all (fun e=>!Region.binds .any e||e.on<j)&&(match o.dst with|some d=>d<N|none=>true)&&
   (List.range ops.size).all fun i=>(i==j)||(match ops[i]? with
    |none=>false
    |some o'=>(match o'.dst with
      |none=>true
      |some d=>(o.dst !=some d)&&(!(o.looksAt ops).contains d||(if i<j then Ph ops ops.size j i else Ph ops ops.size i j)))&&
     (Ph ops ops.size i j||Ph ops ops.size j i||K8 nb eff i j))
def To(ops:Array Oper)(st:St)(outs:Nat→Out):Nat→St
 |0=>st
 |i+1=>match ops[i]? with
  |some o=>(To ops st outs i).put o.dst (outs i)
  |none=>To ops st outs i
noncomputable def Tu (outs:Nat→Out) (D:Nat→Prop) (base:Nat→Option Root):Nat→Nat→Option Root
 |0=>base
 |i+1=>fun r=>open Classical in if D i then Lz (outs i).g (Tu outs D base i) r else Tu outs D base i r
section
variable {P:Program} {N:Nat} {ops:Array Oper} {outs:Nat→Out} {st:St}
theorem K2{D:Nat→Prop}{base:Nat→Option Root}{n:Nat}(h:D n):Tu outs D base (n+1)=Lz (outs n).g (Tu outs D base n):=by
 funext r
 show(open Classical in if D n then Lz (outs n).g (Tu outs D base n) r else Tu outs D base n r)=_
 rw[if_pos h]
theorem Nw{D:Nat→Prop}{base:Nat→Option Root}{n:Nat}(h:¬D n):Tu outs D base (n+1)=Tu outs D base n:=by
 funext r
 show(open Classical in if D n then Lz (outs n).g (Tu outs D base n) r else Tu outs D base n r)=_
 rw[if_neg h]
theorem Oq{D D':Nat→Prop}{base:Nat→Option Root}{r:Nat}:∀{n:Nat},(∀i,i<n→(∃p∈(outs i).g,p.1=r)→(D i↔D' i))→Tu outs D base n r=Tu outs D' base n r
 |0,_=>rfl
 |n+1,h=>by
  have ih:=Oq (base:=base) (n:=n) (fun i hi=>h i (by omega))
  by_cases hr:∃p∈(outs n).g,p.1=r
  ·have:=h n (by omega) hr
   by_cases hD:D n
   ·rw[K2 hD,K2 (this.1 hD)]
    exact Ik ih
   ·rw[Nw hD,Nw (fun h'=>hD (this.2 h'))]
    exact ih
  ·have off:∀(rt:Nat→Option Root),Lz (outs n).g rt r=rt r:=fun rt=>Jy (fun p hp e=>hr ⟨p,hp,e⟩)
   have one:∀(D:Nat→Prop),Tu outs D base (n+1) r=Tu outs D base n r:=by
    intro D
    by_cases hD:D n
    ·rw[K2 hD,off]
    ·rw[Nw hD]
   rw[one,one,ih]
theorem T2{D:Nat→Prop}{base:Nat→Option Root}{r n:Nat}(h:∀i,i<n→D i→∀p∈(outs i).g,p.1≠r):Tu outs D base n r=base r:=by
 induction n with
 |zero=>rfl
 |succ n ih=>
  by_cases hD:D n
  ·rw[K2 hD,Jy (h n (by omega) hD)]
   exact ih (fun i hi=>h i (by omega))
  ·rw[Nw hD]
   exact ih (fun i hi=>h i (by omega))
theorem Zn{base:Nat→Option Root}{j:Nat}:∀{n:Nat},j≤n→Tu outs (fun i=>i<j) base n=Tu outs (fun _=>True) base j
 |0,h=>by obtain rfl:j=0:=by omega
          rfl
 |n+1,h=>by
  by_cases e:j=n+1
  ·subst e
   funext r
   refine(Oq (fun i hi _=>?_))
   simp[hi]
  ·have ih:=Zn (base:=base) (j:=j) (n:=n) (by omega)
   rw[Nw (by omega),ih]
theorem XeS{D:Nat→Prop}{base:Nat→Option Root}{j:Nat}(hj:¬D j):∀{n:Nat},j<n→(∀i,i<n→D i→j<i→∀p∈(outs i).g,∀q∈(outs j).g,p.1≠q.1)→
  Tu outs (fun i=>D i∨i=j) base n=Lz (outs j).g (Tu outs D base n)
 |0,h,_=>by omega
 |n+1,h,hd=>by
  by_cases e:j=n
  ·subst e
   rw[K2 (.inr rfl),Nw hj]
   funext r
   refine Ik (Oq fun i hi _=>?_)
   constructor
   ·rintro(h|h)
    ·exact h
    ·omega
   ·exact .inl
  ·have ih:=XeS (base:=base) hj (n:=n) (by omega) (fun i hi=>hd i (by omega))
   by_cases hD:D n
   ·rw[K2 (D:=fun i=>D i∨i=j) (.inl hD),K2 hD,ih]
    funext r
    by_cases hr:∃q∈(outs j).g,q.1=r
    ·obtain⟨q,hq,rfl⟩:=hr
     have hn:=hd n (by omega) hD (by omega)
     rw[Jy (fun p hp=>hn p hp q hq)]
     exact Ik (Jy (fun p hp=>hn p hp q hq)).symm
    ·have off:∀(rt:Nat→Option Root),Lz (outs j).g rt r=rt r:=fun rt=>Jy (fun p hp e=>hr ⟨p,hp,e⟩)
     rw[off]
     exact Ik (off _)
   ·have hne:¬(D n∨n=j):=by
     rintro(h|h)
     ·exact hD h
     ·omega
    rw[Nw (D:=fun i=>D i∨i=j) hne,Nw hD,ih]
end
end
end Go.Proofs.YtjbmpmmffjgedaaGreatDoor.Ab
