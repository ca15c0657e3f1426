/- A relation between the machine and an abstract state, evaluators for single operations and for code, proved sound (part 9). No conditions. -/
import Derived.MapKept
import Derived.Test.YtjbmpmmffjgedaaGreatDoorCsZ4
import Derived.KernelRfl
import Derived.Shelf.LaysM
import Derived.Shelf.Strconv.Lower
import Derived.Lib.Strings
import Derived.Lib.Walk
import Derived.Lib.ConvBytes
import Derived.Lib.ParseIntBMem
import Derived.Lib.Hide
import Derived.Laws.Strings3
import Derived.Laws.Closers25
import Derived.Laws.Closers25b
import Derived.WalkKit
import Derived.BigCall
import Derived.BigGuard
set_option linter.unusedVariables false
set_option linter.unusedSimpArgs false
namespace Go.Proofs.YtjbmpmmffjgedaaGreatDoor.Ab
section
open Go Go.MapKept
def Pf(ks:List Int)(n:Int):List Int:=if n∈ks then ks else ks++[n]
section
variable {P:Program} {c:Ctx} {E:Env}
theorem Mem.updM(hM:Mem c E){r b:Nat}{ks ks':List Int}{w:World}{es es':Array MapEntry}{cl cl':Nat}(hp:E.pres r)(hr:E.rt r=some (.map ks))
  (hb:E.β r=some b)(hns:¬E.S b)(hblk:E.w.heap[b]? =some (.map es cl))(hw:w={E.w with heap:=E.w.heap.setIfInBounds b (.map es' cl')})(hks:es'.toList.map (fun e=>(e.key,e.val))=ks'.map (fun k=>(Value.int .i64 k,Value.bool true))):
  Mem c (E.upd r (.map ks') w)∧Step E (E.upd r (.map ks') w):=by
 obtain⟨at_,others⟩:=heap_set (o':=.map es' cl') hblk
 have hsz:w.heap.size=E.w.heap.size:=by rw[hw];simp
 have hat:w.heap[b]? =some (.map es' cl'):=by rw[hw];exact at_
 have hot:∀x,x≠b→w.heap[x]? =E.w.heap[x]? :=by intro x hx;rw[hw];exact others x hx
 have hsh:∀x s,E.w.shape? x=some s→w.shape? x=some s:=by
  intro x s hs
  by_cases e:x=b
  ·subst e
   unfold World.shape? at hs
   rw[hblk]at hs
   cases hs
  ·rw[Iz (hot x e)]
   exact hs
 have st:Step E (E.upd r (.map ks') w):=Step.upd hr (.inr rfl) (fun x hx=>hot x (fun e=>hns (e▸hx))) hsh
 have live:∀x R0,(E.upd r (.map ks') w).rt x=some R0→R0≠.dead→∃R1,E.rt x=some R1∧R1≠.dead:=by
  intro x R0 hx hR0
  by_cases e:x=r
  ·subst e;exact⟨_,hr,by simp⟩
  ·exact⟨R0,by simpa[Env.upd,e]using hx,hR0⟩
 refine⟨?_,st⟩
 exact{
  os:=by show w.os=_;rw[hw];exact hM.os
  output:=by show w.output=_;rw[hw];exact hM.output
  tape:=by show w.tape=_;rw[hw];exact hM.tape
  size:=by show _≤w.heap.size;rw[hsz];exact hM.size
  keep:=by
   intro x hx ho
   have hne:x≠b:=by
    rintro rfl
    rcases hM.bown r _ x hp hr (by simp) hb with h|h
    ·omega
    ·exact ho h
   exact(hot x hne).trans (hM.keep x hx ho)
  shape:=fun x s hs=>hsh x s (hM.shape x s hs)
  s0:=hM.s0
  slt:=by intro x hx;show x<w.heap.size;rw[hsz];exact hM.slt x hx
  glob:=Globs.step (fun _ h=>h) (fun x hx=>hot x (fun e=>hns (e▸hx))) hM.glob
  snew:=hM.snew
  blt:=by intro x y hx hy;show y<w.heap.size;rw[hsz];exact hM.blt x y hx hy
  bown:=by
   intro x R0 y hx hR0 aa hy
   obtain⟨R1,h1,h2⟩:=live x R0 hR0 aa
   exact hM.bown x R1 y hx h1 h2 hy
  bkeep:=by
   intro x R0 hlt hx hR0 aa
   obtain⟨R1,h1,h2⟩:=live x R0 hR0 aa
   exact hM.bkeep x R1 hlt hx h1 h2
  inj:=by
   intro x y R0 R1 z hx hy hR0 aa hR1 ab hz hz'
   obtain⟨R2,h1,h2⟩:=live x R0 hR0 aa
   obtain⟨R3,h3,h4⟩:=live y R1 hR1 ab
   exact hM.inj x y R2 R3 z hx hy h1 h2 h3 h4 hz hz'
  roots:=by
   intro x R0 hx hR0
   by_cases e:x=r
   ·subst e
    have:Root.map ks'=R0:=by simpa[Env.upd]using hR0
    subst this
    exact⟨b,es',cl',hb,hat,hks,hns⟩
   ·have hR0':E.rt x=some R0:=by simpa[Env.upd,e]using hR0
    by_cases hdd:R0= .dead
    ·subst hdd;trivial
    ·refine(hM.roots x R0 hx hR0').step st hx ?_ (fun _ _ h=>h)
     intro y hy
     refine hot y ?_
     rintro rfl
     exact e (hM.inj x r R0 _ y hx hp hR0' hdd hr (by simp) hy hb)}
theorem Xg0{r i j:Nat}{ks:List Int}{v:Value}(h:RelAV E (.ptr r i j) v)(hr:E.rt r=some (.map ks)):∃b,E.pres r∧E.β r=some b∧v= .map (some b):=by
 cases h with
 |dptr _ _ _ _ h1 _=>rw[hr]at h1;cases h1
 |ptr _ _ _ R' b h1 h2 h3=>
  rw[hr]at h1
  obtain rfl:=Option.some.inj h1
  exact⟨b,h2,h3,rfl⟩
theorem Xd9{es:Array MapEntry}{ks:List Int}(h:es.toList.map (fun e=>(e.key,e.val))=ks.map (fun k=>(Value.int .i64 k,Value.bool true))):(∀x∈es.toList,IsKey (.int .i64) x.key∧x.val= .bool true)∧∀n:Int,(∃x∈es.toList,x.key= .int .i64 n)↔n∈ks:=by
 refine⟨?_,?_⟩
 ·intro x hx
  have:(x.key,x.val)∈es.toList.map (fun e=>(e.key,e.val)):=List.mem_map.2 ⟨x,hx,rfl⟩
  rw[h]at this
  obtain⟨k,_,e⟩:=List.mem_map.1 this
  obtain⟨e1,e2⟩:=Prod.mk.inj e
  rw[←e1,←e2]
  exact⟨rfl,rfl⟩
 ·intro n
  constructor
  ·rintro⟨x,hx,hk⟩
   have:(x.key,x.val)∈es.toList.map (fun e=>(e.key,e.val)):=List.mem_map.2 ⟨x,hx,rfl⟩
   rw[h]at this
   obtain⟨k,aa,e⟩:=List.mem_map.1 this
   have e1:=(Prod.mk.inj e).1
   rw[hk]at e1
   simp only[Value.int.injEq,true_and]at e1
   rw[←e1]
   exact aa
  ·intro hn
   have:(Value.int .i64 n,Value.bool true)∈ks.map (fun k=>(Value.int .i64 k,Value.bool true)):=List.mem_map.2 ⟨n,hn,rfl⟩
   rw[←h]at this
   obtain⟨x,hx,e⟩:=List.mem_map.1 this
   exact⟨x,hx,(Prod.mk.inj e).1⟩
end
section
variable {P:Program} {ops:Array Oper} {i nb:Nat} {o:Oper} {sl:Nat→AV} {rt:Nat→Option Root}
theorem OpSem.mapN{t:TypeId}(ho:ops[i]? =some o)(hg:Ey ops o sl=some true)(hop:o.op= .makeMap t none):OpSem P ops i [] sl rt nb ⟨.ptr nb 0 0,[.map []],[]⟩:=by
 refine⟨o,ho,?_⟩
 intro c E a hM hl hT hnb hF K Q k
 unfold wpOp
 rw[ho]
 simp only[C4 hl hg,if_true]
 refine .inl (Done.wp ?_ k)
 have hrt:E.rt nb=some (.map []):=by simpa using hF.rt 0 _ rfl
 refine Done.of (nb:=nb) (r:=(.ptr nb 0 0,[.map []])) (s:=Instr.makeMap t none) ?_ (by simp[execOp,hop])
 refine⟨.map (some E.w.heap.size),E.withBlk nb (E.w.alloc (.map #[] 0)),?_,?_,?_⟩
 ·simp[Instr.makeMap,Result.andThen,Env.withBlk]
 ·refine Quiet.blk hM hrt (by simpa using hF.np 0 (by simp)) hF.m (Grow.alloc _ _) ?_
  refine⟨E.w.heap.size,#[],0,Ea _ _ _,(Grow.alloc E.w (.map #[] 0)).new,rfl,?_⟩
  intro h
  have:=hM.slt _ h
  omega
 ·have:=RelAV.ptr (E:=E.withBlk nb (E.w.alloc (.map #[] 0))) nb 0 0 _ E.w.heap.size hrt (Or.inr rfl) (Ea _ _ _)
  simpa[Root.kind]using this
theorem OpSem.mapG{t kt et:TypeId}{x y:Operand}{r:Nat}{ks:List Int}{n:Int}(ho:ops[i]? =some o)(hg:Ey ops o sl=some true)(hop:o.op= .lookup t x y false)(hx:Cm sl x= .ptr r 0 0)(hy:Cm sl y= .d (.sc (.int .i64 n)))
  (hu:P.underlying t=some (.map kt et))(hk:P.underlying kt=some (.int .i64))(hz:Kd P et=some [(.bool false,0)])(aa:(P.info? et).bind (·.zero)=some (.bool false))(hr:rt r=some (.map ks)):OpSem P ops i [r] sl rt nb ⟨.d (.sc (.bool (decide (n∈ks)))),[],[]⟩:=by
 refine⟨o,ho,?_⟩
 intro c E a hM hl hT hnb hF K Q kk
 unfold wpOp
 rw[ho]
 simp only[C4 hl hg,if_true]
 obtain⟨hsl,hop0⟩:=Gt hl
 have hv:=Bw hsl x
 rw[←hop0 x (by rw[hop];simp[Op.operands]),hx]at hv
 have hw:=Bw hsl y
 rw[←hop0 y (by rw[hop];simp[Op.operands]),hy]at hw
 have hval:=P1 hw
 have hr':E.rt r=some (.map ks):=by
  rcases hT r (by simp)with h|h
  ·rw[h]at hr;cases hr
  ·rw[h];exact hr
 obtain⟨b,hp,hb,hv'⟩:=Xg0 hv hr'
 obtain⟨b',es,cl,g1,g2,g3,g4⟩:=hM.roots r _ hp hr'
 rw[hb]at g1
 obtain rfl:=Option.some.inj g1
 obtain⟨ab,ac⟩:=Xd9 g3
 refine .inl (Done.wp ?_ kk)
 refine Done.same hM (s:=Instr.lookup t (.map (some b)) (.int .i64 n) false) ⟨.bool (decide (n∈ks)),?_,.d _ _ (.sc _ rfl)⟩ (by simp[execOp,hop,hval,hv'])
 have hky:IsKey (.int .i64) (.int .i64 n):=rfl
 rcases findNow_spec hky es.toList 0 (fun x hx=>(ab x hx).1)with⟨h1,h2⟩|⟨j,e,h1,h2,h3⟩
 ·obtain⟨zv,hzr,hzc,af,inf,ad,ae⟩:=Fh (w:=E.w) hz
  have hzv:zv= .bool false:=by
   rw[ad,Option.bind_some,ae]at aa
   exact Option.some.inj aa
  have hnot:n∉ks:=by
   intro hn
   obtain⟨x,hx,e⟩:=(ac n).2 hn
   exact h2 x hx e
  rw[decide_eq_false hnot]
  simp[Instr.lookup,run_underlying hu,MapKept.run_getObj_map g2,MapKept.run_checkKey hk hky,MapKept.run_findKey hk h1,Result.andThen,hzr,hzv]
 ·have hin:n∈ks:=(ac n).1 ⟨e,List.mem_of_getElem? h2,h3⟩
  rw[decide_eq_true hin]
  have hval2:e.val= .bool true:=(ab e (List.mem_of_getElem? h2)).2
  simp[Instr.lookup,run_underlying hu,MapKept.run_getObj_map g2,MapKept.run_checkKey hk hky,MapKept.run_findKey hk h1,Result.andThen,hval2]
theorem OpSem.mapS{t kt et:TypeId}{x y z:Operand}{r:Nat}{ks:List Int}{n:Int}(ho:ops[i]? =some o)(hg:Ey ops o sl=some true)(hop:o.op= .mapUpdate t x y z)(hx:Cm sl x= .ptr r 0 0)(hy:Cm sl y= .d (.sc (.int .i64 n)))(hz:Cm sl z= .d (.sc (.bool true)))
  (hu:P.underlying t=some (.map kt et))(hk:P.underlying kt=some (.int .i64))(hr:rt r=some (.map ks)):OpSem P ops i [r] sl rt nb ⟨.junk,[],[(r,.map (Pf ks n))]⟩:=by
 refine⟨o,ho,?_⟩
 intro c E a hM hl hT hnb hF K Q kk
 unfold wpOp
 rw[ho]
 simp only[C4 hl hg,if_true]
 obtain⟨hsl,hop0⟩:=Gt hl
 have hv:=Bw hsl x
 rw[←hop0 x (by rw[hop];simp[Op.operands]),hx]at hv
 have hw:=Bw hsl y
 rw[←hop0 y (by rw[hop];simp[Op.operands]),hy]at hw
 have hwz:=Bw hsl z
 rw[←hop0 z (by rw[hop];simp[Op.operands]),hz]at hwz
 have hval:=P1 hw
 have hvalz:=P1 hwz
 have hr':E.rt r=some (.map ks):=by
  rcases hT r (by simp)with h|h
  ·rw[h]at hr;cases hr
  ·rw[h];exact hr
 obtain⟨b,hp,hb,hv'⟩:=Xg0 hv hr'
 obtain⟨b',es,cl,g1,g2,g3,g4⟩:=hM.roots r _ hp hr'
 rw[hb]at g1
 obtain rfl:=Option.some.inj g1
 obtain⟨aa,ab⟩:=Xd9 g3
 have hky:IsKey (.int .i64) (.int .i64 n):=rfl
 have fin:∀(es':Array MapEntry) (cl':Nat),(Instr.mapUpdate t (.map (some b)) (.int .i64 n) (.bool true)).run P E.w= .ok () {E.w with heap:=E.w.heap.setIfInBounds b (.map es' cl')}→
   es'.toList.map (fun e=>(e.key,e.val))=(Pf ks n).map (fun k=>(Value.int .i64 k,Value.bool true))→Done P c E nb ⟨.junk,[],[(r,.map (Pf ks n))]⟩ (execOp a.eval o):=by
  intro es' cl' hrun he
  obtain⟨hM',st'⟩:=hM.updM (es':=es') (cl':=cl') hp hr' hb g4 g2 rfl he
  refine⟨undef,_,.inr ⟨?_,rfl⟩,hM',st',rfl,?_,?_,.junk _⟩
  ·simp[execOp,hop,hval,hvalz,hv',hrun,Env.upd]
  ·intro y
   constructor
   ·exact fun h=>.inl h
   ·rintro(h|⟨h1,h2⟩)
    ·exact h
    ·simp at h2;omega
  ·show E.w.heap.size≤(E.w.heap.setIfInBounds b _).size
   simp
 refine .inl (Done.wp ?_ kk)
 rcases findNow_spec hky es.toList 0 (fun x hx=>(aa x hx).1)with⟨h1,h2⟩|⟨j,e,h1,h2,h3⟩
 ·have hnot:n∉ks:=by
   intro hn
   obtain⟨x,hx,e⟩:=(ab n).2 hn
   exact h2 x hx e
  refine fin (es.push ⟨.int .i64 n,.bool true,cl⟩) (cl+1) ?_ ?_
  ·simp[Instr.mapUpdate,run_underlying hu,MapKept.run_getObj_map g2,MapKept.run_checkKey hk hky,MapKept.run_findKey hk h1,MapKept.run_setObj_map _ g2,Result.andThen]
  ·unfold Pf
   rw[if_neg hnot,Array.toList_push,List.map_append,List.map_append,g3]
   rfl
 ·have hin:n∈ks:=(ab n).1 ⟨e,List.mem_of_getElem? h2,h3⟩
  have hval2:e.val= .bool true:=(aa e (List.mem_of_getElem? h2)).2
  have hj:es[j]? =some e:=by simpa using h2
  refine fin (es.modify j fun e=>{e with key:=.int .i64 n,val:=.bool true}) cl ?_ ?_
  ·simp[Instr.mapUpdate,run_underlying hu,MapKept.run_getObj_map g2,MapKept.run_checkKey hk hky,MapKept.run_findKey hk h1,hj,h3,MapKept.run_keyThatStays hky,MapKept.run_setObj_map _ g2,Result.andThen]
  ·unfold Pf
   rw[if_pos hin,←g3,Array.toList_modify]
   refine List.ext_getElem? fun q=>?_
   rw[List.getElem?_map,List.getElem?_map,List.getElem?_modify]
   by_cases hq:j=q
   ·subst hq
    simp[h2,h3,hval2]
   ·simp[hq]
end
open Go
inductive BslL (rt:Nat→Option Root):List AV→List (List D)→List Nat→Prop
 |nil:BslL rt [] [] []
 |d {x:D} {ys:List AV} {v:List (List D)} {L:List Nat} (t:BslL rt ys v L):BslL rt (.d x::ys) ([x]::v) L
 |ref {r n sz:Nat} {xs:List (List D)} {ys:List AV} {v:List (List D)} {L:List Nat} (h:rt r=some (.row sz false xs)) (hn:n=xs.length) (t:BslL rt ys v L):BslL rt (.ref r 0 n::ys) ([.row sz xs]::v) (r::L)
def XhG:List (List D)→Nat→List (Nat×List D)
 |[],_=>[]
 |x::v,k=>(k,x)::XhG v (k+1)
def Xfq:List (Nat×Operand)→Nat→Bool
 |[],_=>true
 |(i,_)::l,k=>i==k&&Xfq l (k+1)
theorem Xy{z:List D}:∀(v:List (List D)) (a:List (List D)),Qq (a++List.replicate v.length z) (XhG v a.length)=a++v
 |[],a=>by simp[XhG,Qq]
 |x::v,a=>by
  have h:=Xy (z:=z) v (a++[x])
  simp only[List.length_append,List.length_singleton,List.append_assoc]at h
  simp only[XhG,Qq,List.length_cons,List.replicate_succ]
  rw[List.set_append_right _ _ (Nat.le_refl _),Nat.sub_self,List.set_cons_zero]
  simpa using h
theorem XeT{n:Nat}:∀(v:List (List D)) (k:Nat),k+v.length≤n→(∀x∈v,x.length=1)→(XhG v k).all (fun p=>p.1<n∧p.2.length=1)=true
 |[],_,_,_=>rfl
 |x::v,k,h,h1=>by
  rw[List.length_cons]at h
  simp only[XhG,List.all_cons,Bool.and_eq_true,decide_eq_true_eq]
  exact⟨⟨by omega,h1 x (by simp)⟩,XeT v (k+1) (by omega) fun y hy=>h1 y (by simp[hy])⟩
theorem BslL.len{rt:Nat→Option Root}{ys:List AV}{v:List (List D)}{L:List Nat}(h:BslL rt ys v L):v.length=ys.length∧∀x∈v,x.length=1:=by
 induction h with
 |nil=>exact⟨rfl,by simp⟩
 |d _ ih=>exact⟨by simp[ih.1],by intro x hx;rcases List.mem_cons.1 hx with rfl|hx;rfl;exact ih.2 x hx⟩
 |ref _ _ _ ih=>exact⟨by simp[ih.1],by intro x hx;rcases List.mem_cons.1 hx with rfl|hx;rfl;exact ih.2 x hx⟩
theorem BslL.rows{rt:Nat→Option Root}{ys:List AV}{v:List (List D)}{L:List Nat}(h:BslL rt ys v L):∀r∈L,r∈AV.idss ys∧(∃n,AV.ref r 0 n∈ys)∧∃sz xs,rt r=some (.row sz false xs):=by
 induction h with
 |nil=>intro r hr;cases hr
 |d _ ih=>
  intro r hr
  obtain⟨h1,⟨n,h2⟩,h3⟩:=ih r hr
  exact⟨by simp[AV.idss,h1],⟨n,by simp[h2]⟩,h3⟩
 | @ref q n sz xs ys v L h hn _ ih=>
   intro r hr
   rcases List.mem_cons.1 hr with rfl|hr
   ·exact⟨by simp[AV.idss,AV.ids],⟨n,by simp⟩,_,_,h⟩
   ·obtain⟨h1,⟨m,h2⟩,h3⟩:=ih r hr
    exact⟨by simp[AV.idss,h1],⟨m,by simp[h2]⟩,h3⟩
theorem Zg{rt rt':Nat→Option Root}{sl:Nat→AV}{M:List Nat}(hrt:∀r∈M,rt' r=(rt r).map X3):∀{ps:List (Nat×Operand)} {v:List (List D)} {L:List Nat} {k:Nat},BslL rt (ps.map fun p=>Cm sl p.2) v L→(∀r∈L,r∈M)→Xfq ps k=true→I6 rt' sl ps=some (XhG v k)
 |[],v,L,k,h,_,_=>by cases h;rfl
 |(i,x)::ps,v,L,k,h,hs,hi=>by
  simp only[Xfq,Bool.and_eq_true,beq_iff_eq]at hi
  obtain⟨rfl,hi⟩:=hi
  rw[List.map_cons]at h
  generalize hy:Cm sl x=y at h
  cases h with
  |d t=>
   have ih:=Zg hrt t hs hi
   simp only[I6,hy,AV.leaves,Option.bind_some,Xct,AV.toD,Option.map_some,ih,XhG]
  | @ref r n sz xs _ _ L h hn t=>
    have ih:=Zg hrt t (fun q hq=>hs q (List.mem_cons_of_mem _ hq)) hi
    have h1:rt' r=some (.row sz true xs):=by rw[hrt r (hs r (by simp)),h];rfl
    subst hn
    simp only[I6,hy,AV.leaves,Option.bind_some,Xct,AV.toD,Option.map_some,ih,XhG,h1,Nat.zero_add,Nat.le_refl,if_true,List.drop_zero,List.take_length]
inductive BslW (P:Program) (t:TypeId) (n:Nat) (l:List AV) (rt:Nat→Option Root) (K:List Nat→List (List D)→Prop):Prop
 |mk (z:List D×Nat×Nat) (L:List Nat) (v:List (List D)) (hz:ezT P t=some z) (h1:z.2.1=1) (hl:BslL rt l v L) (hn:l.length=n) (h24:n≤2^24) (hk:K L v):BslW P t n l rt K
section
variable {P:Program} {ops:Array Oper} {i nb:Nat} {o:Oper} {sl:Nat→AV} {rt:Nat→Option Root}
theorem OpSem.bslF{t n:Nat}{ps:Array (Nat×Operand)}{z:List D×Nat×Nat}{v:List (List D)}{L:List Nat}(ho:ops[i]? =some o)(hg:Ey ops o sl=some true)(hop:o.op= .buildSlice t n ps)(hix:Xfq ps.toList 0=true)(hz:ezT P t=some z)(h1:z.2.1=1)
  (hl:BslL rt (ps.toList.map fun p=>Cm sl p.2) v L)(hn:(ps.toList.map fun p=>Cm sl p.2).length=n)(h24:n≤2^24):
  OpSem P ops i (AV.idss (ps.toList.map fun p=>Cm sl p.2)) sl rt nb ⟨.ref nb 0 n,[.row 1 false v],XdJ rt L⟩:=by
 refine⟨o,ho,?_⟩
 intro c E a hM hlk hT hnb hF K Q k
 unfold wpOp
 rw[ho]
 simp only[C4 hlk hg,if_true]
 obtain⟨hsl,hop0⟩:=Gt hlk
 have hops:∀p∈ps.toList,Cm sl p.2=Cm (fun t=>open Classical in if t∈o.looksAt ops then sl t else .junk) p.2:=by
  intro p hp
  refine hop0 p.2 ?_
  rw[hop]
  simp only[Op.operands]
  rw[List.mem_toArray]
  exact List.mem_map_of_mem hp
 have hrel:∀p∈ps.toList,RelAV E (Cm sl p.2) (a.eval p.2):=fun p hp=>by rw[hops p hp];exact Bw hsl p.2
 obtain⟨hvl,ab⟩:=hl.len
 have hrows:∀r∈L,Ga E r∧rt r=E.rt r:=by
  intro r hr
  obtain⟨g1,⟨m,g2⟩,sz,xs,g3⟩:=hl.rows r hr
  have he:E.rt r=rt r:=by
   rcases hT r g1 with h|h
   ·rw[h]at g3;cases g3
   ·exact h
  refine⟨?_,he.symm⟩
  obtain⟨p,hp,hpe⟩:=List.mem_map.1 g2
  have aa:=hrel p hp
  generalize hu:a.eval p.2=u at aa
  rw[hpe]at aa
  refine⟨?_,sz,false,xs,by rw[he];exact g3⟩
  cases aa with
  |ref _ _ _ _ _ _ _ _ _ _ _ h2=>exact h2
  |refz _ _ _ _ _ _ _ h2=>exact h2
  |dref _ _ _ _ h1 _=>rw[he,g3]at h1;cases h1
 have hM1:Mem c (E.lent L):=Mi hM fun r hr=>(hrows r hr).1
 have hnew:nb∉L:=by
  intro h
  have:=hF.np 0 (by simp)
  rw[Nat.add_zero]at this
  exact this (hrows nb h).1.1
 have hF1:Fresh c (E.lent L) nb [.row 1 false v]:=by
  refine⟨hF.m,?_,hF.np⟩
  intro q R hq
  have ac:q=0:=by
   have:=(List.getElem?_eq_some_iff.1 hq).1
   simpa using this
  subst ac
  show(if nb+0∈L then(E.rt (nb+0)).map X3 else E.rt (nb+0))=some R
  rw[Nat.add_zero,if_neg hnew]
  simpa using hF.rt 0 R hq
 have hpart:I6 (E.lent L).rt sl ps.toList=some (XhG v 0):=by
  refine Zg (rt:=rt) (M:=L) (fun r hr=>?_) hl (fun _ h=>h) hix
  show(if r∈L then(E.rt r).map X3 else E.rt r)=_
  rw[if_pos hr,(hrows r hr).2]
 obtain⟨hlen,hgp⟩:=Sw hpart
 have hcnt:v.length=n:=by rw[hvl];exact hn
 have hev:Ht nb z n (XhG v 0)=some (.ref nb 0 n,[.row 1 false v]):=by
  unfold Ht
  have hall:=XeT (n:=n) v 0 (by omega) ab
  have hset:=Xy (z:=z.1) v []
  simp only[List.length_nil,List.nil_append]at hset
  rw[h1,if_pos ⟨by omega,hall⟩,←hcnt,hset]
 have hy:=K7 (P:=P) (t:=t) (vs:=ps.map fun p=>(p.1,a.eval p.2)) hM1 hz (by simpa using hlen) (by
  intro q e hq
  obtain⟨p,ls,hp,hpq,g1,g2⟩:=hgp q e hq
  refine⟨a.eval p.2,?_,Sl hM1 (Jv ((hrel p (List.mem_of_getElem? hp)).step lent_step) g1) g2⟩
  rw[Array.getElem?_map]
  rw[Array.getElem?_toList]at hp
  simp[hp,hpq]) hev hF1
 obtain⟨val,E',hrun,q,hre⟩:=hy
 have hrun':(Instr.buildSlice t n (ps.map fun p=>(p.1,a.eval p.2))).run P E.w= .ok val E'.w:=hrun
 refine .inl (Done.wp (out:=⟨.ref nb 0 n,[.row 1 false v],XdJ rt L⟩) ⟨val,E',.inl (by simp[execOp,hop,hrun']),⟨q.mem,lent_step.trans q.step,q.rt.trans (V6 L hrows).symm,q.pres,q.size,hre⟩⟩ k)
end
open Go
structure Fn (P:Program) (f:FuncId) (as0:List AV) (r0:List Root) (o:Out):Prop where
 ent:Dp P f
 ok:CallOk P f as0 r0 o
inductive IsCall (o:Oper) (st:St) (f:FuncId) (ys:List AV):Prop
 |mk (cl:Call) (x:Operand) (caps ys0:List AV) (hgd:o.guard=none) (hop:o.op= .call cl) (hc:cl.callee= .value x) (hx:Cm st.sl x= .clo f caps) (ha:ArgR st.sl cl.args.toList ys0) (e:ys0++caps=ys):IsCall o st f ys
inductive CallW (P:Program) (f:FuncId) (ys:List AV) (rt:List Root) (k:Out→List Nat→Prop):Prop
 |mk (h:∀(o:Oper) (st:St),st.rt=rt→IsCall o st f ys→ClW P o st k):CallW P f ys rt k
inductive LoopW (P:Program) (N:Nat) (body:Code) (Q:Exit→St→Prop) (st:St):Prop
 |mk (h:LpW P N body Q st):LoopW P N body Q st
def Ys(o:Oper):Option (Operand×Call):=
 match o.op with
 | .call c=>(match c.callee with| .value x=>some (x,c)|_=>none)
 |_=>none
inductive StrBW (s:ByteArray) (K:Nat→List (List D)→Prop):Prop|mk (n:Nat) (v:List (List D)) (hn:n=s.size) (hv:v=strRow s) (hk:K n v):StrBW s K
inductive AppBW (P:Program) (t e bytes len:Nat) (bs:List UInt8) (s:ByteArray) (K:Nat→List UInt8→Prop):Prop
 |mk (n:Nat) (v:List UInt8) (hu:P.underlying t=some (.slice e)) (hl:len=bs.length) (h48:(2*(bs.length+s.size)+1024)*bytes≤2^48) (h62:bs.length+s.size<2^62) (hn:n=bs.length+s.size) (hv:v=bs++s.data.toList) (hk:K n v):AppBW P t e bytes len bs s K
inductive AllAW (P:Program) (t:TypeId) (K:List (List D)→Prop):Prop|mk (n:Nat) (k:IntKind) (v:List (List D)) (hz:Kd P t=some (List.replicate n (.int k 0,0))) (hv:v=List.replicate n [.sc (.int k 0)]) (hk:K v):AllAW P t K
inductive AIdxW (P:Program) (t:TypeId) (j:Int) (K:Nat→Prop):Prop|mk (n e p:Nat) (hu:P.underlying t=some (.array n e)) (hs:szT P e=some 1) (h0:0≤j) (h1:j<(n:Int)) (hp:p=j.toNat) (hk:K p):AIdxW P t j K
inductive ASlcW (P:Program) (t:TypeId) (xs:List (List D)) (lo hi:Option Int) (K:Nat→Nat→Prop):Prop
 |mk (n e o m:Nat) (hu:P.underlying t=some (.array n e)) (hs:szT P e=some 1) (hn:xs.length=n) (h0:0≤lo.getD 0) (h1:lo.getD 0≤hi.getD (n:Int)) (h2:hi.getD (n:Int)≤(n:Int)) (ho:o=(lo.getD 0).toNat) (hm:m=(hi.getD (n:Int)).toNat - (lo.getD 0).toNat) (hk:K o m):ASlcW P t xs lo hi K
inductive AClrW (P:Program) (t sz:Nat) (xs:List (List D)) (off len:Nat) (K:List (List D)→Prop):Prop
 |mk (e:Nat) (zz:List (Value×Nat)) (zs:List Value) (v:List (List D)) (hu:P.underlying t=some (.slice e)) (hz:Kd P e=some zz) (hzs:zz.map (·.1)=zs) (h0:0<zs.length) (hsz:sz=zs.length) (hn:off+len≤xs.length) (hv:v=Hp xs off len (zs.map D.sc)) (hk:K v):AClrW P t sz xs off len K
inductive MapGW (P:Program) (t:TypeId) (ks:List Int) (n:Int) (K:Bool→Prop):Prop
 |mk (kt et:TypeId) (v:Bool) (hu:P.underlying t=some (.map kt et)) (hkt:P.underlying kt=some (.int .i64)) (hz:Kd P et=some [(.bool false,0)]) (hz2:(P.info? et).bind (·.zero)=some (.bool false)) (hv:v=decide (n∈ks)) (hk:K v):MapGW P t ks n K
inductive MapSW (P:Program) (t:TypeId) (ks:List Int) (n:Int) (K:List Int→Prop):Prop
 |mk (kt et:TypeId) (v:List Int) (hu:P.underlying t=some (.map kt et)) (hkt:P.underlying kt=some (.int .i64)) (hv:v=Pf ks n) (hk:K v):MapSW P t ks n K
inductive Sp where
 |no
 |mapN (t:Nat)
 |bslF (t n:Nat) (l:List AV)
 |mapG (t r:Nat) (ks:List Int) (n:Int)
 |mapS (t r:Nat) (ks:List Int) (n:Int)
 |clrA (t r sz:Nat) (xs:List (List D)) (off len:Nat)
 |allocA (t:Nat)
 |idxA (t r:Nat) (xs:List (List D)) (j:Int)
 |slcA (t r:Nat) (xs:List (List D)) (lo hi:Option Int)
 |strB (s:ByteArray)
 |appB (t r len e bytes:Nat) (bs:List UInt8) (s:ByteArray)
def Wq(tab:List (Nat×TyRow))(o:Oper)(st:St):Sp:=
 match o.op with
 | .convert s d x=>(match Cm st.sl x with
   | .d (.sc (.string str))=>(match Di tab s,Di tab d with
     |some S,some D=>(match G5 S.sk,D.bsl with
      |true,true=>.strB str
      |_,_=>.no)
     |_,_=>.no)
   |_=>.no)
 | .call cl=>(match cl.callee,cl.args.toList,cl.argTypes.toList with
   | .builtin .append,[x,y],[t,xT]=>(match Cm st.sl x with
     | .ref r 0 len=>(match st.look r with
       |some (.buf e false bs)=>(match Cm st.sl y with
        | .d (.sc (.string s))=>(match Di tab t,Di tab xT with
          |some R,some X=>(match R.el,R.ez,G5 X.sk with
           |some (1,bytes),some _,true=>.appB t r len e bytes bs s
           |_,_,_=>.no)
          |_,_=>.no)
        |_=>.no)
       |_=>.no)
     |_=>.no)
   | .builtin .clear,[x],[t]=>(match Cm st.sl x with
     | .ref r off len=>(match st.look r with
       |some (.row sz false xs)=>.clrA t r sz xs off len
       |_=>.no)
     |_=>.no)
   |_,_,_=>.no)
 | .alloc t=>(match Di tab t with
   |none=>.allocA t
   |some _=>.no)
 | .indexAddr t x i=>(match Di tab t with
   |none=>(match Cm st.sl x,Cm st.sl i with
    | .ptr r 0 0,.d (.sc (.int _ j))=>(match st.look r with
      |some (.row 1 _ xs)=>.idxA t r xs j
      |_=>.no)
    |_,_=>.no)
   |some _=>.no)
 | .slice t x lo hi none=>(match Di tab t with
   |none=>(match Cm st.sl x,G4 st.sl lo,G4 st.sl hi with
    | .ptr r 0 0,some l,some h=>(match st.look r with
      |some (.row 1 _ xs)=>.slcA t r xs l h
      |_=>.no)
    |_,_,_=>.no)
   |some _=>.no)
 | .makeMap t none=>.mapN t
 | .lookup t x y false=>(match Cm st.sl x,Cm st.sl y with
   | .ptr r 0 0,.d (.sc (.int .i64 n))=>(match st.look r with
     |some (.map ks)=>.mapG t r ks n
     |_=>.no)
   |_,_=>.no)
 | .mapUpdate t x y z=>(match Cm st.sl x,Cm st.sl y,Cm st.sl z with
   | .ptr r 0 0,.d (.sc (.int .i64 n)),.d (.sc (.bool true))=>(match st.look r with
     |some (.map ks)=>.mapS t r ks n
     |_=>.no)
   |_,_,_=>.no)
 | .buildSlice t n ps=>(match Di tab t,Xfq ps.toList 0 with
   |none,true=>.bslF t n (ps.toList.map fun p=>Cm st.sl p.2)
   |_,_=>.no)
 |_=>.no
def Xkn(tab:List (Nat×TyRow))(sl:Nat→AV)(m:Option TyRow)(c:Call):List AV:=
 match m with
 |some _=>c.args.toList.map (Cm sl)
 |none=>Xg2 tab sl c.args.toList c.argTypes.toList
def Xfu(P:Program)(tab:List (Nat×TyRow))(o:Oper)(st:St)(k:Out→List Nat→Prop):Prop:=
 match Ys o with
 |some (x,c)=>(match Cm st.sl x with
  | .clo f caps=>CallW P f (Xkn tab st.sl (Di tab (4000000+f)) c++caps) st.rt k
  |_=>False)
 |none=>(match Wq tab o st with
  | .strB s=>StrBW s fun n v=>k ⟨.ref st.rt.length 0 n,[.row 1 false v],[]⟩ []
  | .appB t r len e bytes bs s=>AppBW P t e bytes len bs s fun n v=>k ⟨.ref st.rt.length 0 n,[.buf e false v],[(r,.dead)]⟩ [r]
  | .clrA t r sz xs off len=>AClrW P t sz xs off len fun v=>k ⟨.junk,[],[(r,.row sz false v)]⟩ [r]
  | .allocA t=>AllAW P t fun v=>k ⟨.ptr st.rt.length 0 0,[.row 1 false v],[]⟩ []
  | .idxA t r _ j=>AIdxW P t j fun p=>k ⟨.ptr r p 0,[],[]⟩ [r]
  | .slcA t r xs lo hi=>ASlcW P t xs lo hi fun o n=>k ⟨.ref r o n,[],[]⟩ [r]
  | .bslF t n l=>BslW P t n l st.look fun L v=>k ⟨.ref st.rt.length 0 n,[.row 1 false v],XdJ st.look L⟩ (AV.idss l)
  | .mapN _=>k ⟨.ptr st.rt.length 0 0,[.map []],[]⟩ []
  | .mapG t r ks n=>MapGW P t ks n fun v=>k ⟨.d (.sc (.bool v)),[],[]⟩ [r]
  | .mapS t r ks n=>MapSW P t ks n fun v=>k ⟨.junk,[],[(r,.map v)]⟩ [r]
  | .no=>sv tab st.rt.length st.sl st.look o fun out=>(match out.g.all (fun p=>Nat.blt p.1 (st.rt.length+out.new.length))with
    |true=>k out (Op.touched st.sl o.op)
    |false=>False))
def Xiv(ds:List (Option Tmp))(o:Oper)(sl:Nat→AV):GV:=
 match o.guard with
 |none=>.yes
 |some (g,w)=>match ds[g]? with
  |some (some t)=>(match sl t with| .d (.sc (.bool b))=>.test t b w| .tup []=>.no|_=>.bad)
  |_=>.bad
theorem Xgl{ops:Array Oper}{o:Oper}{sl:Nat→AV}:Xiv (ops.toList.map (·.dst)) o sl=Q6 ops o sl:=by
 unfold Xiv Q6
 cases o.guard with
 |none=>rfl
 |some p=>
  obtain⟨g,w⟩:=p
  simp only[List.getElem?_map,Array.getElem?_toList]
  cases h:ops[g]? with
  |none=>rfl
  |some og=>
   simp only[Option.map_some]
   cases og.dst<;>rfl
def XcA(P:Program)(tab:List (Nat×TyRow))(ds:List (Option Tmp)):List Oper→St→List Eff→(List Eff→St→Prop)→Prop
 |[],st,acc,K=>K acc st
 |o::l,st,acc,K=>
  match Xiv ds o st.sl with
  | .yes=>Xfu P tab o st fun out T=>XcA P tab ds l (st.put o.dst out) (acc++[⟨out.g.map (·.1),out.new.length,T⟩]) K
  | .test t b true=>br b (fun _=>Xfu P tab o ⟨Vg st.sl t (.d (.sc (.bool true))),st.rt⟩ fun out T=>XcA P tab ds l (St.put ⟨Vg st.sl t (.d (.sc (.bool true))),st.rt⟩ o.dst out) (acc++[⟨out.g.map (·.1),out.new.length,T⟩]) K)
    (fun _=>XcA P tab ds l (St.put ⟨Vg st.sl t (.d (.sc (.bool false))),st.rt⟩ o.dst ⟨.tup [],[],[]⟩) (acc++[⟨[],0,[]⟩]) K)
  | .test t b false=>br b (fun _=>XcA P tab ds l (St.put ⟨Vg st.sl t (.d (.sc (.bool true))),st.rt⟩ o.dst ⟨.tup [],[],[]⟩) (acc++[⟨[],0,[]⟩]) K)
    (fun _=>Xfu P tab o ⟨Vg st.sl t (.d (.sc (.bool false))),st.rt⟩ fun out T=>XcA P tab ds l (St.put ⟨Vg st.sl t (.d (.sc (.bool false))),st.rt⟩ o.dst out) (acc++[⟨out.g.map (·.1),out.new.length,T⟩]) K)
  | .no=>XcA P tab ds l (st.put o.dst ⟨.tup [],[],[]⟩) (acc++[⟨[],0,[]⟩]) K
  | .bad=>False
def wReg(P:Program)(tab:List (Nat×TyRow))(N:Nat)(ops:Array Oper)(draw:Bool)(st:St)(K:St→Prop):Prop:=
 match draw with
 |false=>XcA P tab (ops.toList.map (·.dst)) ops.toList st [] fun _ st'=>ifB true fun _=>K st'
 |true=>XcA P tab (ops.toList.map (·.dst)) ops.toList st [] fun effs st'=>ifB (N3 ops N st.rt.length effs) fun _=>K st'
structure DrawW (f:Unit→Bool) (K:Unit→Prop):Prop where
 h:f ()=true
 k:K ()
def Xk6(P:Program)(tab:List (Nat×TyRow))(N:Nat)(ops:Array Oper)(draw:Bool)(st:St)(K:St→Prop):Prop:=
 match draw with
 |false=>XcA P tab (ops.toList.map (·.dst)) ops.toList st [] fun _ st'=>ifB true fun _=>K st'
 |true=>XcA P tab (ops.toList.map (·.dst)) ops.toList st [] fun effs st'=>DrawW (fun _=>N3 ops N st.rt.length effs) fun _=>K st'
def XlM(tab:List (Nat×TyRow))(n:Nat):Bool:=match Di tab n with|some _=>true|none=>false
structure JoinW (P:Program) (N:Nat) (a b:Code) (Q:Exit→St→Prop) (st:St):Prop where
 h:AW P N (.seq a b) Q st
def Xgo:Code→Nat
 | .cond (.tmp t) _ _=>1000000+t
 | .seq _ b=>Xgo b
 | .block id _=>2000000+id
 |_=>0
def joinB(tab:List (Nat×TyRow))(a:Code):Bool:=match Xgo a with
 |0=>false
 |k=>XlM tab k
def wc(P:Program)(tab:List (Nat×TyRow))(N:Nat):Code→(Exit→St→Prop)→St→Prop
 | .skip,Q,st=>Q .normal st
 | .ret,Q,st=>Q .ret st
 | .exit id,Q,st=>Q (.exit id) st
 | .label _,Q,st=>Q .normal st
 | .seq a b,Q,st=>(match joinB tab a with
   |true=>JoinW P N a b Q st
   |false=>wc P tab N a (Exit.thenQ (fun st'=>wc P tab N b Q st') Q) st)
 | .cond x t e,Q,st=>(match Cm st.sl x with
   | .d (.sc (.bool b))=>br b (fun _=>wc P tab N t Q (st.known x true)) (fun _=>wc P tab N e Q (st.known x false))
   | .anyb p=>anyB p (fun _=>wc P tab N t Q st) (fun _=>wc P tab N e Q st)
   |_=>False)
 | .block id b,Q,st=>wc P tab N b (Exit.blockQ id Q) st
 | .loop b,Q,st=>LoopW P N b Q st
 | .region id ops draw,Q,st=>ifB (ops.toList.all (Ul N)) fun _=>(match XlM tab (3000000+id)with
   |true=>Xk6 P tab N ops draw st fun st'=>ifB true fun _=>Q .normal st'
   |false=>wReg P tab N ops draw st fun st'=>ifB true fun _=>Q .normal st')
 |_,_,_=>False
section
variable {P:Program} {N:Nat} {tab:List (Nat×TyRow)} {Q:Exit→St→Prop}
theorem Oj{sl:Nat→AV}:∀{xs:List Operand} {ts:List TypeId},ArgR sl xs (Xg2 tab sl xs ts)
 |[],_=>.nil
 |x::xs,[]=>.cons rfl Oj
 |x::xs,t::ts=>by
  simp only[Xg2]
  split
  ·rename_i h
   unfold Pc at h
   split at h
   ·exact .nilS Oj
   ·cases h
  ·exact .cons rfl Oj
theorem Y2{o:Oper}{x:Operand}{c:Call}(h:Ys o=some (x,c)):o.op= .call c∧c.callee= .value x:=by
 unfold Ys at h
 split at h
 ·rename_i c' hc
  split at h
  ·rename_i x' hx
   simp only[Option.some.injEq,Prod.mk.injEq]at h
   obtain⟨rfl,rfl⟩:=h
   exact⟨hc,hx⟩
  ·cases h
 ·cases h
theorem Xd2{sl:Nat→AV}:∀{xs:List Operand},ArgR sl xs (xs.map (Cm sl))
 |[]=>.nil
 |_::_=>.cons rfl Xd2
theorem Xfn{sl:Nat→AV}{m:Option TyRow}{c:Call}:ArgR sl c.args.toList (Xkn tab sl m c):=by
 unfold Xkn
 split
 ·exact Xd2
 ·exact Oj
theorem Xhi{o:Oper}{st:St}{s:ByteArray}(hT:B8 P tab)(h:Wq tab o st= .strB s):∃a d x e,o.op= .convert a d x∧Cm st.sl x= .d (.sc (.string s))∧P.underlying a=some .string∧P.underlying d=some (.slice e)∧P.underlying e=some (.int .u8):=by
 unfold Wq at h
 split at h
 ·rename_i a d x hop
  split at h
  ·rename_i str hx
   split at h
   ·rename_i S D hS hD
    split at h
    ·rename_i h1 h2
     obtain rfl:=hT _ _ hS
     obtain rfl:=hT _ _ hD
     simp only[Sp.strB.injEq]at h
     subst h
     have h1':G5 (Tp P a)=true:=h1
     have h2':Do P d=true:=h2
     have ha:P.underlying a=some .string:=by
      unfold Tp at h1'
      split at h1'<;>first|assumption|(simp[G5]at h1')
     unfold Do at h2'
     split at h2'
     ·rename_i e he
      split at h2'
      ·rename_i aa
       exact⟨a,d,x,e,hop,hx,ha,he,aa⟩
      ·cases h2'
     ·cases h2'
    ·cases h
   ·cases h
  ·cases h
 all_goals (repeat' (split at h))
 all_goals cases h
theorem Xhs{o:Oper}{st:St}{t r len e bytes:Nat}{bs:List UInt8}{s:ByteArray}(hT:B8 P tab)(h:Wq tab o st= .appB t r len e bytes bs s):
  ∃cl x y xT,o.op= .call cl∧cl.callee= .builtin .append∧cl.args= #[x,y]∧cl.argTypes= #[t,xT]∧Cm st.sl x= .ref r 0 len∧Cm st.sl y= .d (.sc (.string s))∧P.underlying xT=some .string∧(ezT P t).isSome=true∧elT P t=some (1,bytes)∧st.look r=some (.buf e false bs):=by
 unfold Wq at h
 split at h
 ·repeat' (split at h)
  all_goals cases h
 ·rename_i cl hop
  split at h
  ·rename_i x y t' xT hc ha ht
   split at h
   ·rename_i r' len' hx
    split at h
    ·rename_i e' bs' hr
     split at h
     ·rename_i s' hy
      split at h
      ·rename_i R X hR hX
       split at h
       ·rename_i b' z h1 h2 h3
        obtain rfl:=hT _ _ hR
        obtain rfl:=hT _ _ hX
        simp only[Sp.appB.injEq]at h
        obtain⟨rfl,rfl,rfl,rfl,rfl,rfl,rfl⟩:=h
        have h3':G5 (Tp P xT)=true:=h3
        have hxT:P.underlying xT=some .string:=by
         unfold Tp at h3'
         split at h3'<;>first|assumption|(simp[G5]at h3')
        have h2':ezT P t'=some z:=h2
        exact⟨cl,x,y,xT,hop,hc,by rw[←ha],by rw[←ht],hx,hy,hxT,by rw[h2'];rfl,h1,hr⟩
       ·cases h
      ·cases h
     ·cases h
    ·cases h
   ·cases h
  all_goals (repeat' (split at h))
  all_goals cases h
 all_goals (repeat' (split at h))
 all_goals cases h
theorem Xdj{o:Oper}{st:St}{t:Nat}(h:Wq tab o st= .allocA t):o.op= .alloc t:=by
 unfold Wq at h
 split at h
 case h_3 t' hop=>
  split at h
  ·cases h;exact hop
  ·cases h
 all_goals (repeat' (split at h))
 all_goals cases h
theorem Xho{o:Oper}{st:St}{t r:Nat}{xs:List (List D)}{j:Int}(h:Wq tab o st= .idxA t r xs j):∃x y k fz,o.op= .indexAddr t x y∧Cm st.sl x= .ptr r 0 0∧Cm st.sl y= .d (.sc (.int k j))∧st.look r=some (.row 1 fz xs):=by
 unfold Wq at h
 split at h
 case h_4 t' x y hop=>
  split at h
  ·split at h
   ·rename_i r' k j' hx hy
    split at h
    ·rename_i fz xs' hr
     cases h
     exact⟨x,y,k,fz,hop,hx,hy,hr⟩
    ·cases h
   ·cases h
  ·cases h
 all_goals (repeat' (split at h))
 all_goals cases h
theorem Xid{o:Oper}{st:St}{t r:Nat}{xs:List (List D)}{lo hi:Option Int}(h:Wq tab o st= .slcA t r xs lo hi):∃x xlo xhi fz,o.op= .slice t x xlo xhi none∧Cm st.sl x= .ptr r 0 0∧G4 st.sl xlo=some lo∧G4 st.sl xhi=some hi∧st.look r=some (.row 1 fz xs):=by
 unfold Wq at h
 split at h
 case h_5 t' x xlo xhi hop=>
  split at h
  ·split at h
   ·rename_i r' l hh hx hl hh'
    split at h
    ·rename_i fz xs' hr
     cases h
     exact⟨x,xlo,xhi,fz,hop,hx,hl,hh',hr⟩
    ·cases h
   ·cases h
  ·cases h
 all_goals (repeat' (split at h))
 all_goals cases h
theorem Xhz{o:Oper}{st:St}{t r sz off len:Nat}{xs:List (List D)}(h:Wq tab o st= .clrA t r sz xs off len):∃cl x,o.op= .call cl∧cl.callee= .builtin .clear∧cl.args= #[x]∧cl.argTypes= #[t]∧Cm st.sl x= .ref r off len∧st.look r=some (.row sz false xs):=by
 unfold Wq at h
 split at h
 case h_2 cl hop=>
  split at h
  ·repeat' (split at h)
   all_goals cases h
  ·rename_i x t' hc ha ht
   split at h
   ·rename_i r' off' len' hx
    split at h
    ·rename_i sz' xs' hr
     cases h
     exact⟨cl,x,hop,hc,Array.toList_inj.1 (by rw[ha]),Array.toList_inj.1 (by rw[ht]),hx,hr⟩
    ·cases h
   ·cases h
  ·cases h
 all_goals (repeat' (split at h))
 all_goals cases h
theorem XhH{o:Oper}{st:St}{t:Nat}(h:Wq tab o st= .mapN t):o.op= .makeMap t none:=by
 unfold Wq at h
 split at h
 case h_6 t' hop=>cases h;exact hop
 all_goals (repeat' (split at h))
 all_goals cases h
theorem Xil{o:Oper}{st:St}{t r:Nat}{ks:List Int}{n:Int}(h:Wq tab o st= .mapG t r ks n):∃x y,o.op= .lookup t x y false∧Cm st.sl x= .ptr r 0 0∧Cm st.sl y= .d (.sc (.int .i64 n))∧st.look r=some (.map ks):=by
 unfold Wq at h
 split at h
 case h_7 t' x y hop=>
  split at h
  ·rename_i hx hy
   split at h
   ·rename_i hr
    cases h
    exact⟨x,y,hop,hx,hy,hr⟩
   ·cases h
  ·cases h
 all_goals (repeat' (split at h))
 all_goals cases h
theorem XhD{o:Oper}{st:St}{t r:Nat}{ks:List Int}{n:Int}(h:Wq tab o st= .mapS t r ks n):∃x y z,o.op= .mapUpdate t x y z∧Cm st.sl x= .ptr r 0 0∧Cm st.sl y= .d (.sc (.int .i64 n))∧Cm st.sl z= .d (.sc (.bool true))∧st.look r=some (.map ks):=by
 unfold Wq at h
 split at h
 case h_8 t' x y z hop=>
  split at h
  ·rename_i hx hy hz
   split at h
   ·rename_i hr
    cases h
    exact⟨x,y,z,hop,hx,hy,hz,hr⟩
   ·cases h
  ·cases h
 all_goals (repeat' (split at h))
 all_goals cases h
theorem Xhg{o:Oper}{st:St}{t n:Nat}{l:List AV}(h:Wq tab o st= .bslF t n l):∃ps,o.op= .buildSlice t n ps∧Xfq ps.toList 0=true∧l=ps.toList.map fun p=>Cm st.sl p.2:=by
 unfold Wq at h
 split at h
 case h_9 t' n' ps hop=>
  split at h
  ·rename_i hx hy
   cases h
   exact⟨ps,hop,hy,rfl⟩
  ·cases h
 all_goals (repeat' (split at h))
 all_goals cases h
theorem XjA(hT:B8 P tab){ops:Array Oper}{i:Nat}{o:Oper}{st:St}{acc:List Eff}{K:List Eff→St→Prop}{k:Out→List Nat→Prop}(h:Xfu P tab o st k)(ho:ops[i]? =some o)(hd:Ul N o=true)(hg:Ey ops o st.sl=some true)
  (hk:∀out T,k out T→RW P N ops (i+1) (st.put o.dst out) (acc++[⟨out.g.map (·.1),out.new.length,T⟩]) K):RW P N ops i st acc K:=by
 unfold Xfu at h
 split at h
 ·rename_i x c hc
  obtain⟨h1,h2⟩:=Y2 hc
  split at h
  ·rename_i f caps hx
   obtain⟨h⟩:=h
   obtain⟨out,T,h1,h2,h3⟩:=h (Xld o) st rfl ⟨c,x,caps,_,rfl,h1,h2,hx,Xfn,rfl⟩
   exact RW.cons ho (D6 hd) (h1.at ho hg) h2 (hk out T h3)
  ·exact h.elim
 ·split at h
  ·rename_i s hsp
   obtain⟨a,d,x,e,hop,hx,ha,hd',he⟩:=Xhi hT hsp
   obtain⟨n,v,rfl,rfl,h⟩:=h
   exact RW.cons ho (D6 hd) (OpSem.strB ho hg hop hx ha hd' he) (by simp) (hk _ _ h)
  ·rename_i t r len e bytes bs s hsp
   obtain⟨cl,x,y,xT,hop,hc,ha,ht,hx,hy,hxT,hz,hel,hr⟩:=Xhs hT hsp
   obtain⟨n,v,hu,hl,h48,h62,rfl,rfl,h⟩:=h
   refine RW.cons ho (D6 hd) (OpSem.appB ho hg hop hc ha ht hx hy hxT hz hel hu hr hl h48 h62) ?_ (hk _ _ h)
   intro p hp
   have:p=(r,Root.dead):=by simpa using hp
   subst this
   have hlt:r<st.rt.length:=(List.getElem?_eq_some_iff.1 (show st.rt[r]? =some _ from hr)).1
   show r<_
   omega
  ·rename_i t r sz xs off len hsp
   obtain⟨cl,x,hop,hc,ha,ht,hx,hr⟩:=Xhz hsp
   obtain⟨e,zz,zs,v,hu,hz,hzs,h0,rfl,hn,rfl,h⟩:=h
   refine RW.cons ho (D6 hd) (OpSem.clrR ho hg hop hc ha ht hx hu hz hzs h0 hr hn) ?_ (hk _ _ h)
   intro p hp
   have:p=(r,Root.row zs.length false (Hp xs off len (zs.map D.sc))):=by simpa using hp
   subst this
   have hlt:r<st.rt.length:=(List.getElem?_eq_some_iff.1 (show st.rt[r]? =some _ from hr)).1
   show r<_
   omega
  ·rename_i t hsp
   obtain⟨n,k',v,hz,rfl,h⟩:=h
   exact RW.cons ho (D6 hd) (OpSem.allocA ho hg (Xdj hsp) hz) (by simp) (hk _ _ h)
  ·rename_i t r xs j hsp
   obtain⟨x,y,k',fz,hop,hx,hy,hr⟩:=Xho hsp
   obtain⟨n,e,p,hu,hs,h0,h1,rfl,h⟩:=h
   exact RW.cons ho (D6 hd) (OpSem.idxA ho hg hop hx hy hu hs hr h0 h1) (by simp) (hk _ _ h)
  ·rename_i t r xs lo hi hsp
   obtain⟨x,xlo,xhi,fz,hop,hx,hlo,hhi,hr⟩:=Xid hsp
   obtain⟨n,e,o',m,hu,hs,hn,h0,h1,h2,rfl,rfl,h⟩:=h
   exact RW.cons ho (D6 hd) (OpSem.slcA ho hg hop hx hlo hhi hu hs hr hn h0 h1 h2) (by simp) (hk _ _ h)
  ·rename_i t n l hsp
   obtain⟨ps,hop,hix,rfl⟩:=Xhg hsp
   obtain⟨z,L,v,hz,h1,hl,hn,h24,h⟩:=h
   refine RW.cons ho (D6 hd) (OpSem.bslF ho hg hop hix hz h1 hl hn h24) ?_ (hk _ _ h)
   intro p hp
   obtain⟨r,hr,rfl⟩:=List.mem_map.1 hp
   obtain⟨_,_,sz,xs,h3⟩:=hl.rows r hr
   have hlt:r<st.rt.length:=(List.getElem?_eq_some_iff.1 (show st.rt[r]? =some _ from h3)).1
   show r<_
   omega
  ·rename_i t hsp
   exact RW.cons ho (D6 hd) (OpSem.mapN ho hg (XhH hsp)) (by simp) (hk _ _ h)
  ·rename_i t r ks n hsp
   obtain⟨x,y,hop,hx,hy,hr⟩:=Xil hsp
   obtain⟨kt,et,v,hu,hkt,hz,aa,rfl,h⟩:=h
   exact RW.cons ho (D6 hd) (OpSem.mapG ho hg hop hx hy hu hkt hz aa hr) (by simp) (hk _ _ h)
  ·rename_i t r ks n hsp
   obtain⟨x,y,z,hop,hx,hy,hz,hr⟩:=XhD hsp
   obtain⟨kt,et,v,hu,hkt,rfl,h⟩:=h
   refine RW.cons ho (D6 hd) (OpSem.mapS ho hg hop hx hy hz hu hkt hr) ?_ (hk _ _ h)
   intro p hp
   have:p=(r,Root.map (Pf ks n)):=by simpa using hp
   subst this
   have hlt:r<st.rt.length:=(List.getElem?_eq_some_iff.1 (show st.rt[r]? =some _ from hr)).1
   show r<_
   omega
  ·obtain⟨out,hev,h⟩:=sv_ok hT h
   split at h
   ·rename_i hall
    refine RW.cons ho (D6 hd) (OpSem.ev ho hg hev) ?_ (hk out _ h)
    intro p hp
    simpa[Nat.blt_eq]using List.all_eq_true.1 hall p hp
   ·exact h.elim
theorem Xdg(hT:B8 P tab){ops:Array Oper}{K:List Eff→St→Prop}:∀{l:List Oper} {i:Nat} {st:St} {acc:List Eff},(∀(k:Nat) o,l[k]? =some o→ops[i+k]? =some o∧Ul N o=true)→i+l.length=ops.size→XcA P tab (ops.toList.map (·.dst)) l st acc K→RW P N ops i st acc K
 |[],i,st,acc,_,hn,h=>RW.done (by simpa using hn) h
 |o::l,i,st,acc,hl,hn,h=>by
  obtain⟨ho,hd⟩:=hl 0 o rfl
  simp only[Nat.add_zero]at ho
  have hl':∀(k:Nat) o,l[k]? =some o→ops[i+1+k]? =some o∧Ul N o=true:=by
   intro k' o' h'
   have:=hl (k'+1) o' (by simpa using h')
   rwa[show i+(k'+1)=i+1+k' by omega]at this
  have hn':i+1+l.length=ops.size:=by simp at hn;omega
  have skip:∀{st:St},Ey ops o st.sl=some false→XcA P tab (ops.toList.map (·.dst)) l (st.put o.dst ⟨.tup [],[],[]⟩) (acc++[⟨[],0,[]⟩]) K→RW P N ops i st acc K:=
   fun hg hk=>RW.cons ho (D6 hd) (OpSem.skip ho hg) (by simp) (Xdg hT hl' hn' hk)
  have step:∀{st:St},Ey ops o st.sl=some true→Xfu P tab o st (fun out T=>XcA P tab (ops.toList.map (·.dst)) l (st.put o.dst out) (acc++[⟨out.g.map (·.1),out.new.length,T⟩]) K)→RW P N ops i st acc K:=
   fun hg hk=>XjA hT hk ho hd hg (fun out T hk=>Xdg hT hl' hn' hk)
  simp only[XcA,Xgl]at h
  split at h
  ·rename_i hg
   exact step (W3 hg) h
  ·rename_i t b hg
   obtain⟨h1,h2⟩:=Mb hg
   cases b with
   |true=>
    simp only[br]at h
    rw[Ic h1]at h
    exact step h2 h
   |false=>
    simp only[br]at h
    rw[Ic h1]at h
    exact skip h2 h
  ·rename_i t b hg
   obtain⟨h1,h2⟩:=Mb hg
   cases b with
   |true=>
    simp only[br]at h
    rw[Ic h1]at h
    exact skip h2 h
   |false=>
    simp only[br]at h
    rw[Ic h1]at h
    exact step h2 h
  ·rename_i hg
   exact skip (Xcb hg) h
  ·exact h.elim
theorem XcJ(hT:B8 P tab)(hm:P.follows .mixedOrders=true):∀{code:Code} {Q:Exit→St→Prop} {st:St},wc P tab N code Q st→AW P N code Q st:=by
 intro code
 induction code with
 |skip=>intro Q st h;exact AW.skip h
 |ret=>intro Q st h;exact AW.ret h
 |exit id=>intro Q st h;exact AW.exit h
 |label l=>intro Q st h;exact AW.label h
 |seq a b iha ihb=>
  intro Q st h
  unfold wc at h
  split at h
  ·exact h.h
  refine AW.seq ((iha h).mono ?_)
  intro e st' he
  cases e with
  |normal=>exact ihb he
  |_=>exact he
 |cond x t e iht ihe=>
  intro Q st h
  simp only[wc]at h
  split at h
  ·rename_i b hx
   refine AW.cond hx ?_ ?_
   ·rintro rfl
    have h':=iht h
    rwa[Ob hx]at h'
   ·rintro rfl
    have h':=ihe h
    rwa[Ob hx]at h'
  ·rename_i p hx
   exact AW.condAny hx (fun hb=>iht (h.1 hb)) (ihe h.2)
  ·exact h.elim
 |block id b ih=>intro Q st h;exact AW.block (ih h)
 |loop b ih=>intro Q st h;obtain⟨⟨h⟩⟩:=h;exact h
 |region id ops draw=>
  intro Q st h
  have key:ops.toList.all (Ul N)=true∧XcA P tab (ops.toList.map (·.dst)) ops.toList st [] (fun effs st'=>(draw=true→N3 ops N st.rt.length effs=true)∧Q .normal st'):=by
   cases draw with
   |false=>
    simp only[wc,wReg,Xk6,ifB]at h
    split at h
    ·rename_i hd
     refine⟨hd,?_⟩
     split at h
     ·simpa using h
     ·simpa using h
    ·exact h.elim
   |true=>
    simp only[wc,wReg,Xk6,ifB]at h
    split at h
    ·rename_i hd
     refine⟨hd,?_⟩
     split at h
     ·have e:(fun effs st'=>DrawW (fun _=>N3 ops N st.rt.length effs) fun _=>Q .normal st')=(fun effs st'=>((true=true→N3 ops N st.rt.length effs=true)∧Q .normal st')):=by
       funext effs st'
       exact propext ⟨fun q=>⟨fun _=>q.h,q.k⟩,fun q=>⟨q.1 rfl,q.2⟩⟩
      rw[←e]
      exact h
     have e:(fun effs st'=>(match N3 ops N st.rt.length effs with|true=>Q .normal st'|false=>False))=(fun effs st'=>((true=true→N3 ops N st.rt.length effs=true)∧Q .normal st')):=by
      funext effs st'
      cases N3 ops N st.rt.length effs<;>simp
     rw[←e]
     exact h
    ·exact h.elim
  obtain⟨hd,h⟩:=key
  refine AW.reg' ?_
  have hK:=Xdg (N:=N) hT (l:=ops.toList) (i:=0) (fun k o hk=>⟨by simpa using hk,List.all_eq_true.1 hd o (List.mem_of_getElem? hk)⟩) (by simp) h
  obtain⟨l,st',hw,hb,hk⟩:=hK
  exact⟨l,st',hw,fun hdr=>⟨hm,hb hdr⟩,hk⟩
 |_=>intro Q st h;exact h.elim
theorem Fn.data{f:FuncId}{fn:Func}{body:Code}{as0:List AV}{av:AV}(he:Dp P f)(hT:B8 P tab)(hm:P.follows .mixedOrders=true)(hf:P.funcs[f]? =some fn)(hb:fn.body=some body)(hN:as0.length≤fn.ntmps)
  (hwa:AV.rens (G3 0) as0=some as0)(h:∀P',P'=P→∀Q:Exit→St→Prop,(∀e st,EndD P fn.results av e st→Q e st)→wc P' tab fn.ntmps body Q ⟨Oo as0,[]⟩):Fn P f as0 [] ⟨av,[],[]⟩:=
 ⟨he,CallOk.of_bodyD hf hb hN hwa (XcJ hT hm (h P rfl _ fun _ _ h=>h))⟩
theorem Fn.gen{f:FuncId}{fn:Func}{body:Code}{as0:List AV}{r0:List Root}{o:Out}(he:Dp P f)(hT:B8 P tab)(hm:P.follows .mixedOrders=true)(hf:P.funcs[f]? =some fn)(hb:fn.body=some body)(hN:as0.length≤fn.ntmps)
  (hwa:AV.rens (G3 r0.length) as0=some as0)(hwr:Fl (G3 r0.length) r0=some r0)(h:∀P',P'=P→∀Q:Exit→St→Prop,(∀e st,EndQ P fn.results r0 o e st→Q e st)→wc P' tab fn.ntmps body Q ⟨Oo as0,r0⟩):Fn P f as0 r0 o:=
 ⟨he,CallOk.of_body hf hb hN hwa hwr (XcJ hT hm (h P rfl _ fun _ _ h=>h))⟩
end
section
variable {P P':Program} {f:FuncId} {ys as0:List AV} {rt:List Root} {K:Out→List Nat→Prop}
theorem CallW.dd{av:AV}(hP:P'=P)(h:Fn P f ys [] ⟨av,[],[]⟩)(k:K ⟨av,[],[]⟩ [])(hd:AV.isDs ys=true:=by rfl)(hav:av.isDT=true:=by rfl):CallW P' f ys rt K:=by
 subst hP
 refine⟨fun o st hst hc=>?_⟩
 obtain⟨cl,x,caps,ys0,hgd,hop,hcl,hx,ha,rfl⟩:=hc
 exact ClW.dd hgd hop hcl hx ha hd h.ent h.ok hav k
theorem CallW.ddA{o0 out:Out}(hP:P'=P)(h:Fn P f ys [] o0)(hog:out.g=[])(hren:o0.ren (Bo [] rt.length o0.new.length)=some out)(hfa:out.av.flat=true)(hfn:out.new.all Root.flat=true)(k:K out [])(hd:AV.isDs ys=true:=by rfl):CallW P' f ys rt K:=by
 subst hP
 refine⟨fun o st hst hc=>?_⟩
 subst hst
 obtain⟨cl,x,caps,ys0,hgd,hop,hcl,hx,ha,rfl⟩:=hc
 exact ClW.ddA hgd hop hcl hx ha hd h.ent h.ok hren hog hfa hfn k
theorem CallW.lnt{av:AV}(hP:P'=P)(h:Fn P f as0 [] ⟨av,[],[]⟩)(hl:LendL (fun r=>rt[r]?) ys as0)(k:K ⟨av,[],[]⟩ (AV.idss ys))(hav:av.isDT=true:=by rfl)(hfl:av.flat=true:=by rfl):CallW P' f ys rt K:=by
 subst hP
 refine⟨fun o st hst hc=>?_⟩
 subst hst
 obtain⟨cl,x,caps,ys0,hgd,hop,hcl,hx,ha,rfl⟩:=hc
 exact ClW.lnt hgd hop hcl hx ha hl h.ent h.ok hav hfl k
end
open Go
def rnR(r n:Nat)(R:Root):Root:=(R.ren (mvF r n)).getD R
theorem Yu{r n:Nat}{R:Root}:(rnR r n R).kind=R.kind:=by
 unfold rnR
 cases h:R.ren (mvF r n)with
 |none=>rfl
 |some R'=>exact Ix h
theorem rnR_dead{r n:Nat}{R:Root}:rnR r n R= .dead↔R= .dead:=by rw[←kind_dead,Yu,kind_dead]
section
variable {N:Nat} {st:St}
theorem Holds.move2{c:Ctx}{Ei:Env}{a:Act}{w:World}(h:Holds c Ei N st a w){r:Nat}{R00:Root}(hcl:∀f,R00.ren f=some R00)(hr:st.rt[r]? =some R00):
  Holds c Ei N ⟨mvS r st.rt.length st.sl,((st.rt.map (rnR r st.rt.length)).set r .dead)++[R00]⟩ a w:=by
 obtain⟨E,rfl,hM,hSt,hrt,hpr,hsl,hdef,hsz,hm⟩:=h
 have hlt:r<st.rt.length:=(List.getElem?_eq_some_iff.1 hr).1
 generalize hn:st.rt.length=n at*
 have hER:E.rt r=some R00:=by rw[hrt];exact hr
 have hEn:∀x,E.rt x≠none→x<n:=by
  intro x hx
  rw[hrt]at hx
  rcases Nat.lt_or_ge x n with h|h
  ·exact h
  ·exact absurd (List.getElem?_eq_none (by omega)) hx
 let rt':=((st.rt.map (rnR r n)).set r .dead)++[R00]
 have hl':rt'.length=n+1:=by simp[rt',hn]
 have get':∀x,rt'[x]? =if x=r then some .dead else if x=n then some R00 else(E.rt x).map (rnR r n):=by
  intro x
  show(((st.rt.map (rnR r n)).set r .dead)++[R00])[x]? =_
  by_cases h1:x=r
  ·subst h1
   rw[if_pos rfl,List.getElem?_append_left (by simp;omega),List.getElem?_set_self (by simp;omega)]
  ·rw[if_neg h1]
   by_cases h2:x=n
   ·subst h2
    rw[if_pos rfl,List.getElem?_append_right (by simp;omega)]
    simp[hn]
   ·rw[if_neg h2]
    by_cases h3:x<n
    ·rw[List.getElem?_append_left (by simp;omega),List.getElem?_set_ne (fun e=>h1 e.symm),List.getElem?_map,hrt];rfl
    ·rw[List.getElem?_eq_none (by simp;omega)]
     cases hx:E.rt x with
     |none=>rfl
     |some R=>exact absurd (hEn x (by rw[hx];simp)) h3
 let E':Env:=⟨fun x=>rt'[x]?,fun x=>x<rt'.length,fun x=>if x=n then E.β r else E.β x,E.S,E.w⟩
 have e_rt:∀x,E'.rt x=if x=r then some .dead else if x=n then some R00 else(E.rt x).map (rnR r n):=get'
 have e_pr:∀x,E'.pres x↔x<n+1:=by intro x;show x<rt'.length↔_;rw[hl']
 have e_β:∀x,E'.β x=if x=n then E.β r else E.β x:=fun _=>rfl
 have hrn:r≠n:=by omega
 have st1:Step E E':=by
  refine⟨?_,?_,?_,fun _ h=>h,fun _ _=>rfl,fun _ _ h=>h⟩
  ·intro x R hx
   rw[e_rt]
   by_cases h1:x=r
   ·subst h1;exact⟨.dead,if_pos rfl,.inl rfl⟩
   ·have:=hEn x (by rw[hx];simp)
    exact⟨rnR r n R,by rw[if_neg h1,if_neg (by omega),hx];rfl,.inr Yu⟩
  ·intro x hx
   rw[e_pr]
   have:=(hpr x).1 hx
   omega
  ·intro x hx
   have:=(hpr x).1 hx
   rw[e_β,if_neg (by omega)]
 have hC:Conn (mvF r n) E E':=by
  have cases:∀{x x'},mvF r n x=some x'→(x=r∧x'=n)∨(x≠r∧x<n∧x'=x):=by
   intro x x' h
   unfold mvF at h
   split at h
   ·rename_i e;exact .inl ⟨e,(Option.some.inj h).symm⟩
   ·rename_i e
    split at h
    ·rename_i e2;exact .inr ⟨e,e2,(Option.some.inj h).symm⟩
    ·cases h
  refine⟨rfl,fun _ h=>h,?_,?_,?_⟩
  ·intro x x' h
   rcases cases h with⟨rfl,rfl⟩|⟨h1,h2,rfl⟩
   ·rw[e_rt,if_neg (fun e=>hrn e.symm),if_pos rfl,hER]
   ·rw[e_rt,if_neg h1,if_neg (by omega),Option.map_map]
    congr 1
    funext R
    exact Yu
  ·intro x x' h
   rcases cases h with⟨rfl,rfl⟩|⟨h1,h2,rfl⟩
   ·rw[e_pr,hpr];omega
   ·rw[e_pr,hpr];omega
  ·intro x x' h _
   rcases cases h with⟨rfl,rfl⟩|⟨h1,h2,rfl⟩
   ·rw[e_β,if_pos rfl]
   ·rw[e_β,if_neg (by omega)]
 have src:∀{x R},E'.rt x=some R→R≠.dead→∃y R0,E.rt y=some R0∧R0≠.dead∧E.pres y∧E'.β x=E.β y∧((x=n∧y=r∧R=R0)∨(x≠r∧x<n∧y=x∧R=rnR r n R0)):=by
  intro x R hx hd
  rw[e_rt]at hx
  by_cases h1:x=r
  ·rw[if_pos h1]at hx;exact absurd (Option.some.inj hx).symm hd
  ·rw[if_neg h1]at hx
   by_cases h2:x=n
   ·rw[if_pos h2]at hx
    exact⟨r,R,hER.trans hx,hd,(hpr r).2 hlt,by rw[e_β,if_pos h2],.inl ⟨h2,rfl,rfl⟩⟩
   ·rw[if_neg h2]at hx
    obtain⟨R0,hR0,rfl⟩:=Option.map_eq_some_iff.1 hx
    have h3:=hEn x (by rw[hR0];simp)
    exact⟨x,R0,hR0,fun e=>hd (rnR_dead.2 e),(hpr x).2 h3,by rw[e_β,if_neg h2],.inr ⟨h1,h3,rfl,rfl⟩⟩
 have hM':Mem c E':={
  os:=hM.os
  output:=hM.output
  tape:=hM.tape
  size:=hM.size
  keep:=hM.keep
  shape:=hM.shape
  s0:=hM.s0
  slt:=hM.slt
  glob:=hM.glob
  snew:=hM.snew
  blt:=by
   intro x b hp hb
   rw[e_pr]at hp
   rw[e_β]at hb
   by_cases h2:x=n
   ·rw[if_pos h2]at hb;exact hM.blt r b ((hpr r).2 hlt) hb
   ·rw[if_neg h2]at hb;exact hM.blt x b ((hpr x).2 (by omega)) hb
  bown:=by
   intro x R b hp hR hd hb
   obtain⟨y,R0,h1,aa,h2,h3,_⟩:=src hR hd
   rw[h3]at hb
   exact hM.bown y R0 b h2 h1 aa hb
  bkeep:=by
   intro x R hx hp hR hd
   obtain⟨y,R0,h1,aa,h2,h3,h4⟩:=src hR hd
   rcases h4 with⟨h4,_⟩|⟨_,_,rfl,_⟩
   ·omega
   ·rw[h3];exact hM.bkeep y R0 hx h2 h1 aa
  inj:=by
   intro x x' R R' b hp hp' hR hd hR' hd' hb hb'
   obtain⟨y,R0,h1,aa,h2,h3,h4⟩:=src hR hd
   obtain⟨y',R0',h1',ab,h2',h3',h4'⟩:=src hR' hd'
   rw[h3]at hb
   rw[h3']at hb'
   have:=hM.inj y y' R0 R0' b h2 h2' h1 aa h1' ab hb hb'
   rcases h4 with⟨e1,e2,_⟩|⟨e1,e2,e3,_⟩<;>rcases h4' with⟨ac,ad,_⟩|⟨ac,ad,ae,_⟩
   ·omega
   ·omega
   ·omega
   ·omega
  roots:=by
   intro x R hp hR
   by_cases hd:R= .dead
   ·subst hd;trivial
   obtain⟨y,R0,h1,aa,h2,h3,h4⟩:=src hR hd
   rcases h4 with⟨e1,e2,e3⟩|⟨e1,e2,e3,e4⟩
   ·subst e2 e3
    rw[hER]at h1
    obtain rfl:=Option.some.inj h1
    exact RootRel.conn hC (fun _ h=>h) (show mvF y n y=some x by rw[e1];exact if_pos rfl) h2 (hcl _) (hM.roots y _ h2 hER)
   ·subst e3 e4
    have hx:=hM.roots y R0 h2 h1
    unfold rnR
    cases hren:R0.ren (mvF r n)with
    |none=>exact RootRel.step st1 h2 (fun _ _=>rfl) (fun _ _ h=>h) hx
    |some R1=>exact RootRel.conn hC (fun _ h=>h) (show mvF r n y=some y by unfold mvF;rw[if_neg e1,if_pos e2]) h2 hren hx}
 refine⟨E',rfl,hM',hSt.trans st1,rfl,fun _=>Iff.rfl,?_,hdef,hsz,?_⟩
 ·intro t
  show RelAV E' (((st.sl t).ren (mvF r n)).getD .junk) _
  cases hx:(st.sl t).ren (mvF r n)with
  |none=>exact .junk _
  |some y=>exact RelAV.conn hC (hsl t) hx
 ·show c.m≤rt'.length
  omega
end
end
section
open Go
def mvB:Root→Bool
 | .row _ _ _=>true
 | .buf _ _ _=>true
 | .box _ _=>false
 | .map _=>false
 | .dead=>false
def mv1(r:Nat)(st:St):St:=match st.rt[r]? with
 |some R=>(match mvB R with
  |true=>⟨mvS r st.rt.length st.sl,((st.rt.map (rnR r st.rt.length)).set r .dead)++[R]⟩
  |false=>st)
 |none=>st
def Hx:List Nat→St→St
 |[],st=>st
 |r::l,st=>Hx l (mv1 r st)
def Sn(sl:Nat→AV):List Nat→List (Nat×AV)
 |[]=>[]
 |t::l=>(t,sl t)::Sn sl l
inductive NextW {κ:Type} (n0:Nat) (keepl:List (Nat×AV)) (base:List Root) (mods:κ→List (Nat×AV)) (rts:κ→List (Nat×Root)) (J:κ→Prop) (st':St):Prop
 |mk (k':κ) (hi:J k') (hr:Xaa n0 (mods k'++keepl) (Xcd (rts k') base) st'):NextW n0 keepl base mods rts J st'
section
variable {P:Program} {N:Nat} {tab:List (Nat×TyRow)} {Q:Exit→St→Prop} {st:St}
theorem XgU{c:Ctx}{Ei:Env}{a:Act}{w:World}(r:Nat)(h:Holds c Ei N st a w):Holds c Ei N (mv1 r st) a w:=by
 unfold mv1
 split
 ·rename_i R hr
  split
  ·rename_i hb
   refine h.move2 (fun _=>?_) hr
   cases R with
   |row=>rfl
   |buf=>rfl
   |box=>cases hb
   |map=>cases hb
   |dead=>cases hb
  ·exact h
 ·exact h
theorem Mj{c:Ctx}{Ei:Env}{a:Act}{w:World}:∀(l:List Nat) {st:St},Holds c Ei N st a w→Holds c Ei N (Hx l st) a w
 |[],_,h=>h
 |r::l,_,h=>Mj l (XgU r h)
def WeakC(sl:Nat→AV):List (Nat×AV)→Prop
 |[]=>True
 |(t,x)::l=>sl t=x∧WeakC sl l
theorem WeakC.weakL{sl:Nat→AV}:∀{l:List (Nat×AV)},WeakC sl l→WeakL l sl
 |[],_=>WeakL.nil _
 |(t,x)::l,h=>.cons h.1 (WeakC.weakL h.2)
theorem Sq(sl:Nat→AV):∀(l:List Nat),WeakL (Sn sl l) sl
 |[]=>WeakL.nil _
 |t::l=>.cons rfl (Sq sl l)
theorem WeakL.app{sl:Nat→AV}{a b:List (Nat×AV)}(h:WeakL a sl)(k:WeakL b sl):WeakL (a++b) sl:=by
 intro p hp
 rcases List.mem_append.1 hp with hp|hp
 ·exact h p hp
 ·exact k p hp
theorem LoopW.lp{κ:Type}{body:Code}(su:B8 P tab∧P.follows .mixedOrders=true){P':Program}(hP:P'=P)(mvs keep:List Nat)(mods:κ→List (Nat×AV))(rts:κ→List (Nat×Root))(inv:κ→Prop)(μ:κ→Nat)(k0:κ)(h0:inv k0)
  (hw:WeakC (Hx mvs st).sl (mods k0))(hrt:(Hx mvs st).rt=Xcd (rts k0) (Hx mvs st).rt)
  (round:∀k (J:κ→Prop),inv k→(∀k',inv k'→μ k'<μ k→J k')→wc P' tab N body (Exit.thenQ (fun st'=>NextW st.rt.length (Sn (Hx mvs st).sl keep) (Hx mvs st).rt mods rts J st') Q) ⟨look (mods k++Sn (Hx mvs st).sl keep),Xcd (rts k) (Hx mvs st).rt⟩):LoopW P' N body Q st:=by
 subst hP
 refine⟨LpW.ofR (st:=Hx mvs st) inv μ (fun k=>mods k++Sn (Hx mvs st).sl keep) (fun k=>Xcd (rts k) (Hx mvs st).rt) k0 st.rt.length h0 (hw.weakL.app (Sq _ _)) hrt (Nat.le_refl _) rfl (fun c Ei a w h=>Mj mvs h) ?_⟩
 intro k hk
 refine(XcJ su.1 su.2 (round k (fun k'=>inv k'∧μ k'<μ k) hk (fun k' h1 h2=>⟨h1,h2⟩))).mono ?_
 intro e st' he
 cases e with
 |normal=>
  obtain⟨k',⟨h1,h2⟩,h3⟩:=he
  exact⟨k',h1,h2,h3⟩
 |_=>exact he
theorem Holds.roundEnd{c:Ctx}{Ei:Env}{act:Act}{w:World}{n0:Nat}{vals:List (Nat×AV)}{rt:List Root}{st':St}(hm:c.m≤n0)(h:Holds c Ei N st' act w)(hr:Xaa n0 vals rt st'):Holds c Ei N ⟨look vals,rt⟩ act w:=by
 obtain⟨ids,i1,i2,i3,i4,i5,i6⟩:=hr
 refine h.ren (n0:=n0) (ids:=ids) (sl':=look vals) (rt':=rt) hm i1 i2 i3 i4 i5 ?_
 intro t
 have key:∀{l:List (Nat×AV)},(∀p∈l,(st'.sl p.1).ren (Ee n0 ids)=some p.2)→look l t= .junk∨(st'.sl t).ren (Ee n0 ids)=some (look l t):=by
  intro l
  induction l with
  |nil=>intro _;exact .inl rfl
  |cons p l ih=>
   intro hl
   obtain⟨s,x⟩:=p
   simp only[look]
   split
   ·rename_i e;subst e;exact .inr (hl (t,x) List.mem_cons_self)
   ·exact ih (fun p hp=>hl p (List.mem_cons_of_mem _ hp))
 exact key i6
theorem JoinW.jn{κ:Type}{a b:Code}(su:B8 P tab∧P.follows .mixedOrders=true){P':Program}(hP:P'=P)(mvs keep:List Nat)(mods:κ→List (Nat×AV))(rts:κ→List (Nat×Root))(inv:κ→Prop)
  (first:∀J:κ→Prop,(∀k,inv k→J k)→wc P' tab N a (Exit.thenQ (fun st'=>NextW st.rt.length (Sn (Hx mvs st).sl keep) (Hx mvs st).rt mods rts J st') Q) (Hx mvs st))
  (second:∀k,inv k→wc P' tab N b Q ⟨look (mods k++Sn (Hx mvs st).sl keep),Xcd (rts k) (Hx mvs st).rt⟩):JoinW P' N a b Q st:=by
 subst hP
 refine⟨?_⟩
 intro c Ei act w hH
 have hm:c.m≤st.rt.length:=by
  obtain⟨E,_,_,_,_,_,_,_,_,hm⟩:=hH
  exact hm
 refine wp_seq (wp_mono (XcJ su.1 su.2 (first inv (fun _ h=>h)) c Ei act w (Mj mvs hH)) ?_)
 rintro e a' w' ⟨st',hq,hH'⟩
 cases e with
 |normal=>
  obtain⟨k',h1,h2⟩:=hq
  exact XcJ su.1 su.2 (second k' h1) c Ei a' w' (hH'.roundEnd hm h2)
 |_=>exact⟨st',hq,hH'⟩
def XdT:List Nat→Bool
 |[]=>true
 |x::l=>!(l.contains x)&&XdT l
theorem Xcl:∀{l:List Nat},XdT l=true→l.Nodup
 |[],_=>.nil
 |x::l,h=>by
  simp only[XdT,Bool.and_eq_true,Bool.not_eq_true',List.contains_iff_mem]at h
  refine List.nodup_cons.2 ⟨?_,Xcl h.2⟩
  intro hm
  have:=List.contains_iff_mem.2 hm
  rw[h.1]at this
  cases this
theorem NextW.go{κ:Type}{n0:Nat}{keepl:List (Nat×AV)}{base:List Root}{mods:κ→List (Nat×AV)}{rts:κ→List (Nat×Root)}{J:κ→Prop}{st':St}(ids:List Nat)(k':κ)(hi:J k')
  (c6:(mods k'++keepl).map (fun p=>(st'.sl p.1).ren (Ee n0 ids))=(mods k'++keepl).map (fun p=>some p.2):=by rfl)
  (c4:Fl (Ee n0 ids) (st'.rt.take n0)=some ((Xcd (rts k') base).take n0):=by rfl)(c5:ids.map (fun i=>(st'.rt[i]?).bind (Root.ren (Ee n0 ids)))=((Xcd (rts k') base).drop n0).map some:=by rfl)
  (c1:ids.all (fun i=>Nat.ble n0 i)=true:=by rfl)(c2:XdT ids=true:=by rfl)(c3:Nat.beq (Xcd (rts k') base).length (n0+ids.length)=true:=by rfl)(c7:Nat.ble n0 st'.rt.length=true:=by rfl):
  NextW n0 keepl base mods rts J st':=by
 have hlen:=Nat.eq_of_beq_eq_true c3
 refine⟨k',hi,?_⟩
 refine⟨ids,fun i h=>Nat.le_of_ble_eq_true (List.all_eq_true.1 c1 i h),Xcl c2,hlen,?_,?_,?_⟩
 ·intro r R' hr hR
  obtain⟨hl,hget⟩:=Gp c4
  have hr':r<(st'.rt.take n0).length:=by
   have:=Nat.le_of_ble_eq_true c7
   rw[List.length_take]
   omega
  obtain⟨R'',k1,k2⟩:=hget r _ (List.getElem?_eq_getElem hr')
  rw[List.getElem?_take,if_pos hr,hR]at k1
  obtain rfl:=Option.some.inj k1
  refine⟨_,?_,k2⟩
  rw[List.getElem_take]
  exact List.getElem?_eq_getElem _
 ·intro j i R' hj hR
  have:=congrArg (·[j]?) c5
  simp only[List.getElem?_map,hj,List.getElem?_drop,hR,Option.map_some,Option.some.injEq]at this
  obtain⟨R,k1,k2⟩:=Option.bind_eq_some_iff.1 this
  exact⟨R,k1,k2⟩
 ·intro p hp
  obtain⟨i,hi⟩:=List.getElem?_of_mem hp
  have:=congrArg (·[i]?) c6
  simpa only[List.getElem?_map,hi,Option.map_some,Option.some.injEq]using this
end
inductive RdL (rt:Nat→Option Root):List AV→List AV→Prop
 |nil:RdL rt [] []
 |d {x y:AV} {ys zs:List AV} (h:x.isD=true) (e:x=y) (t:RdL rt ys zs):RdL rt (x::ys) (y::zs)
 |ref {r n sz:Nat} {fz:Bool} {xs us:List (List D)} {ys zs:List AV} (h:rt r=some (.row sz fz xs)) (hn:n=xs.length) (e:xs=us) (t:RdL rt ys zs):RdL rt (.ref r 0 n::ys) (.d (.row sz us)::zs)
 |agg {l l' ys zs:List AV} (h:RdL rt l l') (t:RdL rt ys zs):RdL rt (.agg l::ys) (.agg l'::zs)
 |sub {r o n sz:Nat} {fz:Bool} {xs us:List (List D)} {ys zs:List AV} (h:rt r=some (.row sz fz xs)) (hn:o+n≤xs.length) (e:(xs.drop o).take n=us) (t:RdL rt ys zs):RdL rt (.ref r o n::ys) (.d (.row sz us)::zs)
theorem RdL.c{rt:Nat→Option Root}{x y:AV}{l k:List AV}(t:RdL rt l k)(h:x.isD=true:=by rfl)(e:x=y:=by rfl):RdL rt (x::l) (y::k):=.d h e t
theorem RdL.d1{rt:Nat→Option Root}{x y:AV}(h:x.isD=true:=by rfl)(e:x=y:=by rfl):RdL rt [x] [y]:=.d h e .nil
theorem RdL.d2{rt:Nat→Option Root}{x0 x1 y0 y1:AV}(h0:x0.isD=true:=by rfl)(h1:x1.isD=true:=by rfl)(e0:x0=y0:=by rfl)(e1:x1=y1:=by rfl):RdL rt [x0,x1] [y0,y1]:=.c (.d1 h1 e1) h0 e0
theorem RdL.d3{rt:Nat→Option Root}{x0 x1 x2 y0 y1 y2:AV}(h0:x0.isD=true:=by rfl)(h1:x1.isD=true:=by rfl)(h2:x2.isD=true:=by rfl)(e0:x0=y0:=by rfl)(e1:x1=y1:=by rfl)(e2:x2=y2:=by rfl):RdL rt [x0,x1,x2] [y0,y1,y2]:=.c (.d2 h1 h2 e1 e2) h0 e0
theorem RdL.d4{rt:Nat→Option Root}{x0 x1 x2 x3 y0 y1 y2 y3:AV}(h0:x0.isD=true:=by rfl)(h1:x1.isD=true:=by rfl)(h2:x2.isD=true:=by rfl)(h3:x3.isD=true:=by rfl)(e0:x0=y0:=by rfl)(e1:x1=y1:=by rfl)(e2:x2=y2:=by rfl)(e3:x3=y3:=by rfl):RdL rt [x0,x1,x2,x3] [y0,y1,y2,y3]:=.c (.d3 h1 h2 h3 e1 e2 e3) h0 e0
theorem RdL.get{rt:Nat→Option Root}{ys zs:List AV}(h:RdL rt ys zs):∃L,AV.lendAs rt ys=some (zs,L):=by
 induction h with
 |nil=>exact⟨[],rfl⟩
 |d h e _ ih=>
  subst e
  obtain⟨L,hL⟩:=ih
  exact⟨L,by simp[AV.lendAs,(Js rt h).1,hL]⟩
 | @ref r n sz fz xs us ys zs h hn e _ ih=>
   obtain⟨L,hL⟩:=ih
   subst hn e
   exact⟨(if fz then[]else[r])++L,by simp[AV.lendAs,AV.lendA,h,hL]⟩
 |agg _ _ ih1 ih2=>
  obtain⟨L1,h1⟩:=ih1
  obtain⟨L2,h2⟩:=ih2
  exact⟨L1++L2,by simp[AV.lendAs,AV.lendA,h1,h2]⟩
 | @sub r o n sz fz xs us ys zs h hn e _ ih=>
   obtain⟨L,hL⟩:=ih
   subst e
   exact⟨(if fz then[]else[r])++L,by simp[AV.lendAs,AV.lendA,h,hL,hn]⟩
theorem EndD.one{P:Program}{st:St}{e:Exit}{r:ResultVar}{x y:AV}(he:e= .ret∨e= .normal)(h:Pa P st r=some x)(hy:RdL st.look [x] [y])(hx:∀l,x≠.tup l:=by intro l h;cases h):EndD P #[r] y e st:=by
 obtain⟨L,hL⟩:=hy.get
 have key:x.rdo st.look=some (y,L):=by
  have hl:∃L',x.lendA st.look=some (y,L'):=by
   simp only[AV.lendAs]at hL
   cases hx':x.lendA st.look with
   |none=>simp[hx']at hL
   |some q=>
    simp only[hx',Option.bind_some,Option.map_some,Option.some.injEq,Prod.mk.injEq,List.cons.injEq,and_true]at hL
    exact⟨q.2,by rw[←hL.1]⟩
  obtain⟨L',hl⟩:=hl
  have e2:x.rdo st.look=x.lendA st.look:=by
   cases x with
   |tup l=>exact absurd rfl (hx l)
   |_=>rfl
  rw[e2,hl]
  simp only[AV.lendAs,hl,Option.bind_some,Option.map_some,Option.some.injEq,Prod.mk.injEq,List.append_nil,true_and]at hL
  rw[hL]
 rcases he with rfl|rfl<;>exact⟨[x],L,by simp[Hw,h],key⟩
theorem EndD.many{P:Program}{st:St}{e:Exit}{rs:Array ResultVar}{l ys:List AV}(he:e= .ret∨e= .normal)(h:Hw P st rs.toList=some l)(hl:Wz l= .tup l)(hy:RdL st.look l ys):EndD P rs (.tup ys) e st:=by
 obtain⟨L,hL⟩:=hy.get
 have key:(AV.tup l).rdo st.look=some (.tup ys,L):=by simp[AV.rdo,hL]
 rcases he with rfl|rfl<;>exact⟨l,L,h,by rw[hl];exact key⟩
theorem EndD.m{P:Program}{st:St}{e:Exit}{rs:Array ResultVar}{l ys:List AV}(h:Hw P st rs.toList=some l)(hy:RdL st.look l ys)(he:e= .ret∨e= .normal:=by exact .inl rfl)(hl:Wz l= .tup l:=by rfl):EndD P rs (.tup ys) e st:=.many he h hl hy
open Go
abbrev Setup(P:Program)(tab:List (Nat×TyRow)):Prop:=B8 P tab∧P.follows .mixedOrders=true
section
variable {P:Program} {tab:List (Nat×TyRow)}
theorem Fg{f:FuncId}{fn:Func}(hf:P.funcs[f]? =some fn)(h1:(fn.name== "runtime.NumGoroutine")=false)(h2:fn.body.isNone=false):Dp P f:=⟨fn,hf,h1,h2⟩
theorem XhQ{fn:Func}(h:fn.body.isNone=false):fn.body=some (fn.body.getD .skip):=by
 cases hb:fn.body with
 |none=>rw[hb]at h;cases h
 |some b=>rfl
theorem Fn.go{f:FuncId}{fn:Func}{as0:List AV}{av:AV}(su:Setup P tab)(hf:P.funcs[f]? =some fn)(h:∀P',P'=P→∀Q:Exit→St→Prop,(∀e st,EndD P fn.results av e st→Q e st)→wc P' tab fn.ntmps (fn.body.getD .skip) Q ⟨Oo as0,[]⟩)
  (h1:(fn.name== "runtime.NumGoroutine")=false:=by rfl)(h2:fn.body.isNone=false:=by rfl)(hN:Nat.ble as0.length fn.ntmps=true:=by rfl)(hwa:AV.rens (G3 0) as0=some as0:=by rfl):Fn P f as0 [] ⟨av,[],[]⟩:=
 Fn.data (Fg hf h1 h2) su.1 su.2 hf (XhQ h2) (Nat.le_of_ble_eq_true hN) hwa h
theorem Fn.goR{f:FuncId}{fn:Func}{as0:List AV}{r0:List Root}{o:Out}(su:Setup P tab)(hf:P.funcs[f]? =some fn)(h:∀P',P'=P→∀Q:Exit→St→Prop,(∀e st,EndQ P fn.results r0 o e st→Q e st)→wc P' tab fn.ntmps (fn.body.getD .skip) Q ⟨Oo as0,r0⟩)
  (h1:(fn.name== "runtime.NumGoroutine")=false:=by rfl)(h2:fn.body.isNone=false:=by rfl)(hN:Nat.ble as0.length fn.ntmps=true:=by rfl)(hwa:AV.rens (G3 r0.length) as0=some as0:=by rfl)(hwr:Fl (G3 r0.length) r0=some r0:=by rfl):Fn P f as0 r0 o:=
 Fn.gen (Fg hf h1 h2) su.1 su.2 hf (XhQ h2) (Nat.le_of_ble_eq_true hN) hwa hwr h
end
abbrev I(n:Int):AV:=.d (.sc (.int .i64 n))
abbrev S(s:ByteArray):AV:=.d (.sc (.string s))
abbrev B(b:Bool):AV:=.d (.sc (.bool b))
section
variable {P:Program} {st:St} {t:Nat}
theorem EndD.i{k:IntKind}{v r:Int}(h:st.sl t= .d (.sc (.int k v)))(e:v=r):EndD P #[.tmp t] (.d (.sc (.int k r))) .ret st:=by subst e;exact Kw h rfl
theorem EndD.s{v r:ByteArray}(h:st.sl t= .d (.sc (.string v)))(e:v=r):EndD P #[.tmp t] (.d (.sc (.string r))) .ret st:=by subst e;exact Kw h rfl
theorem EndD.b{v r:Bool}(h:st.sl t= .d (.sc (.bool v)))(e:v=r):EndD P #[.tmp t] (.d (.sc (.bool r))) .ret st:=by subst e;exact Kw h rfl
theorem EndD.d{x y:D}(h:st.sl t= .d x)(e:x=y):EndD P #[.tmp t] (.d y) .ret st:=Kw h e
theorem EndD.r{r n sz:Nat}{fz:Bool}{xs ys:List (List D)}(h:st.sl t= .ref r 0 n)(hr:st.look r=some (.row sz fz xs))(hn:n=xs.length)(e:xs=ys):EndD P #[.tmp t] (.d (.row sz ys)) .ret st:=by subst e;exact XiU h hr hn
end
theorem Dx{α:Type}{c:α→List D}{l:List α}{sz:Nat}{x y:List (List D)}(h1:l.map c=x)(h2:l.map c=y):AV.d (.row sz x)=AV.d (.row sz y):=by rw[←h1,h2]
section
variable {K:Int→Prop} {k k':IntKind} {a b:Int}
theorem ArW.add(h:∀v,v=a+b→K v)(hr: -9223372036854775808≤a+b∧a+b<9223372036854775808:=by omega):ArW .add .i64 .i64 a b K:=⟨a+b,by show some (Value.int .i64 (IntKind.i64.wrap (a+b)))=_;rw[Nc hr],h _ rfl⟩
theorem ArW.sub(h:∀v,v=a - b→K v)(hr: -9223372036854775808≤a - b∧a - b<9223372036854775808:=by omega):ArW .sub .i64 .i64 a b K:=⟨a - b,by show some (Value.int .i64 (IntKind.i64.wrap (a - b)))=_;rw[Nc hr],h _ rfl⟩
theorem ArW.mul(h:∀v,v=a*b→K v)(hr: -9223372036854775808≤a*b∧a*b<9223372036854775808:=by omega):ArW .mul .i64 .i64 a b K:=⟨a*b,by show some (Value.int .i64 (IntKind.i64.wrap (a*b)))=_;rw[Nc hr],h _ rfl⟩
theorem ArW.subW(h:∀v,v=k.wrap (a - b)→K v):ArW .sub k k a b K:=⟨_,by show(if k=k then _ else none)=_;rw[if_pos rfl];rfl,h _ rfl⟩
theorem ArW.rem(h:∀v,v=a% b→K v)(h0:0≤a:=by omega)(h1:0<b:=by omega):ArW .rem k k a b K:=by
 refine⟨a% b,?_,h _ rfl⟩
 show(if k=k then(if b=0 then none else some (Value.int k (a.tmod b)))else none)=_
 rw[if_pos rfl,if_neg (by omega),Int.tmod_eq_emod_of_nonneg h0]
def Ro(op:BinOp)(k:IntKind)(a b:Int):Int:=std.bin op k a b
theorem ArW.and(h:∀v,v=Ro .and k a b→K v):ArW .and k k a b K:=⟨_,by show(if k=k then _ else none)=_;rw[if_pos rfl];rfl,h _ rfl⟩
theorem ArW.or(h:∀v,v=Ro .or k a b→K v):ArW .or k k a b K:=⟨_,by show(if k=k then _ else none)=_;rw[if_pos rfl];rfl,h _ rfl⟩
theorem ArW.xor(h:∀v,v=Ro .xor k a b→K v):ArW .xor k k a b K:=⟨_,by show(if k=k then _ else none)=_;rw[if_pos rfl];rfl,h _ rfl⟩
theorem ArW.shr(h:∀v,v=a/2^b.toNat→K v)(h0:0≤b:=by omega)(h1:b≤64:=by omega):ArW .shr .i64 k' a b K:=by
 refine⟨a/2^b.toNat,?_,h _ rfl⟩
 show(if b<0 then none else some (Value.int .i64 (a.fdiv (2^ (min b.toNat 64)))))=_
 rw[if_neg (by omega),Nat.min_eq_left (by omega),Int.fdiv_eq_ediv_of_nonneg a (Int.le_of_lt (Int.pow_pos (by omega)))]
theorem ArW.shrW(h:∀v,v=a.fdiv (2^min b.toNat k.bits)→K v)(h0:0≤b:=by omega):ArW .shr k k' a b K:=by
 refine⟨_,?_,h _ rfl⟩
 show(if b<0 then none else some (Value.int k (a.fdiv (2^ (min b.toNat k.bits)))))=_
 rw[if_neg (by omega)]
theorem ArW.shlW(h:∀v,v=k.wrap (a*2^min b.toNat k.bits)→K v)(h0:0≤b:=by omega):ArW .shl k k' a b K:=by
 refine⟨_,?_,h _ rfl⟩
 show(if b<0 then none else some (Value.int k (k.wrap (a*2^ (min b.toNat k.bits)))))=_
 rw[if_neg (by omega)]
theorem NegW.go(h:∀v,v= -a→K v)(hr: -9223372036854775808<a∧a≤9223372036854775808:=by omega):NegW .i64 a K:=⟨-a,by rw[Nc (by omega)];omega,h _ rfl⟩
theorem WrapW.go(h:∀v,v=k.wrap a→K v):WrapW k a K:=⟨_,rfl,h _ rfl⟩
theorem WrapW.id(h:∀v,v=a→K v)(hr: -9223372036854775808≤a∧a<9223372036854775808:=by omega):WrapW .i64 a K:=⟨a,(Nc hr).symm,h _ rfl⟩
theorem MaxW.go(h:∀v,v=max a b→K v):MaxW a b K:=⟨_,rfl,h _ (by omega)⟩
theorem MinW.go(h:∀v,v=min a b→K v):MinW a b K:=⟨_,rfl,h _ (by omega)⟩
end
section
variable {K:Bool→Prop} {k:IntKind} {a b:Int}
theorem CmpW.of{op:BinOp}(v:Bool)(h:Q4 op k a b=some (.bool v))(hs:op≠.shl∧op≠.shr)(hk:K v):CmpW op k k a b K:=by
 refine⟨v,?_,hk⟩
 have:Kg op false (.int k a) (.int k b)=(if k=k then Q4 op k a b else none):=by
  cases op<;>first|rfl|simp at hs
 rw[this,if_pos rfl,h]
theorem CmpW.lss(t:a<b→K true)(f:b≤a→K false):CmpW .lss k k a b K:=by
 refine .of (decide (a<b)) rfl (by simp) ?_
 by_cases h:a<b
 ·rw[decide_eq_true h];exact t h
 ·rw[decide_eq_false h];exact f (by omega)
theorem CmpW.leq(t:a≤b→K true)(f:b<a→K false):CmpW .leq k k a b K:=by
 refine .of (decide (a≤b)) rfl (by simp) ?_
 by_cases h:a≤b
 ·rw[decide_eq_true h];exact t h
 ·rw[decide_eq_false h];exact f (by omega)
theorem CmpW.gtr(t:b<a→K true)(f:a≤b→K false):CmpW .gtr k k a b K:=by
 refine .of (decide (b<a)) rfl (by simp) ?_
 by_cases h:b<a
 ·rw[decide_eq_true h];exact t h
 ·rw[decide_eq_false h];exact f (by omega)
theorem CmpW.geq(t:b≤a→K true)(f:a<b→K false):CmpW .geq k k a b K:=by
 refine .of (decide (b≤a)) rfl (by simp) ?_
 by_cases h:b≤a
 ·rw[decide_eq_true h];exact t h
 ·rw[decide_eq_false h];exact f (by omega)
theorem CmpW.eql(t:a=b→K true)(f:a≠b→K false):CmpW .eql k k a b K:=by
 refine .of (a==b) rfl (by simp) ?_
 by_cases h:a=b
 ·rw[show(a==b)=true by simpa using h];exact t h
 ·rw[show(a==b)=false by simpa using h];exact f h
theorem CmpW.neq(t:a≠b→K true)(f:a=b→K false):CmpW .neq k k a b K:=by
 refine .of (a !=b) rfl (by simp) ?_
 by_cases h:a=b
 ·rw[show(a !=b)=false by simpa using h];exact f h
 ·rw[show(a !=b)=true by simpa using h];exact t h
end
section
variable {K:Bool→Prop} {a b:ByteArray}
theorem SCmpW.eql(t:a=b→K true)(f:a≠b→K false):SCmpW .eql a b K:=by
 refine⟨a.toList==b.toList,rfl,?_⟩
 by_cases h:a=b
 ·rw[show(a.toList==b.toList)=true by simpa using congrArg _ h];exact t h
 ·rw[show(a.toList==b.toList)=false by simpa using fun e=>h (N0 e)];exact f h
theorem SCmpW.neq(t:a≠b→K true)(f:a=b→K false):SCmpW .neq a b K:=by
 refine⟨!(a.toList==b.toList),rfl,?_⟩
 by_cases h:a=b
 ·rw[show(a.toList==b.toList)=true by simpa using congrArg _ h];exact f h
 ·rw[show(a.toList==b.toList)=false by simpa using fun e=>h (N0 e)];exact t h
def ltB(a b:ByteArray):Bool:=Op.bytesLess a.toList b.toList
theorem SCmpW.leq(h:∀v,v=(ltB a b||decide (a=b))→K v):SCmpW .leq a b K:=⟨_,rfl,h _ (by rw[show(a.toList==b.toList)=decide (a=b)from Yx];rfl)⟩
theorem SCmpW.gtr(h:∀v,v= !(ltB a b||decide (a=b))→K v):SCmpW .gtr a b K:=⟨_,rfl,h _ (by rw[show(a.toList==b.toList)=decide (a=b)from Yx];rfl)⟩
theorem SCmpW.geq(h:∀v,v= !(ltB a b)→K v):SCmpW .geq a b K:=⟨_,rfl,h _ rfl⟩
theorem EmpW.go{xs:List (List D)}(h:∀v,v=xs.isEmpty→K v):EmpW xs K:=⟨_,rfl,h _ rfl⟩
end
section
variable {s a b:ByteArray}
theorem CatW.go{K:ByteArray→Prop}(h:∀v,v=a++b→v.size=a.size+b.size→K v)(hs:a.size+b.size<9223372036854775808:=by omega):CatW a b K:=by
 refine⟨a++b,?_,h _ rfl ByteArray.size_append⟩
 show(if _ then none else _)=_
 rw[if_neg (by show¬(((a.size+b.size:Nat):Int)>9223372036854775807);omega)]
theorem CatW.litL{K:ByteArray→Prop}(n:Nat)(h:∀v,v=a++b→v.size=n+b.size→K v)(hn:a.size=n:=by rfl)(hs:n+b.size<9223372036854775808:=by omega):CatW a b K:=by
 subst hn
 exact CatW.go h hs
theorem CatW.litR{K:ByteArray→Prop}(n:Nat)(h:∀v,v=a++b→v.size=a.size+n→K v)(hn:b.size=n:=by rfl)(hs:a.size+n<9223372036854775808:=by omega):CatW a b K:=by
 subst hn
 exact CatW.go h hs
theorem SLenW.go{K:Int→Prop}(h:∀v,v=(s.size:Int)→K v):SLenW s K:=⟨_,rfl,h _ rfl⟩
theorem SIdxW.go{K:Int→Prop}{i:Int}(j:Nat)(h:∀(hj:j<s.size) v,v=((s[j]).toNat:Int)→0≤v∧v<256→K v)(hi:i=(j:Int):=by omega)(hj:j<s.size:=by omega):SIdxW s i K:=by
 subst hi
 exact⟨((s[j].toNat:Nat):Int),by omega,hj,rfl,h hj _ rfl ⟨Int.natCast_nonneg _,Int.ofNat_lt.2 (s[j]).toNat_lt⟩⟩
theorem SSubW.lohi{K:ByteArray→Prop}{lo hi:Int}(h:∀v,v=s.extract lo.toNat hi.toNat→K v)(h0:0≤lo:=by omega)(h1:lo≤hi:=by omega)(h2:hi≤(s.size:Int):=by omega):SSubW s (some lo) (some hi) K:=⟨_,h0,h1,h2,rfl,h _ rfl⟩
theorem SSubW.lo{K:ByteArray→Prop}{lo:Int}(h:∀v,v=s.extract lo.toNat s.size→K v)(h0:0≤lo:=by omega)(h1:lo≤(s.size:Int):=by omega):SSubW s (some lo) none K:=⟨_,h0,h1,Int.le_refl _,rfl,h _ (by simp)⟩
theorem SSubW.hi{K:ByteArray→Prop}{hi:Int}(h:∀v,v=s.extract 0 hi.toNat→K v)(h1:0≤hi:=by omega)(h2:hi≤(s.size:Int):=by omega):SSubW s none (some hi) K:=⟨_,Int.le_refl _,h1,h2,rfl,h _ rfl⟩
end
section
variable {α:Type} {c:α→List D} {l:List α} {xs:List (List D)}
theorem LenW.go{K:Int→Prop}(hx:l.map c=xs)(h:∀v,v=(l.length:Int)→K v):LenW xs K:=⟨_,rfl,h _ (by rw[←hx,List.length_map])⟩
theorem NLenW.go{K:Int→Prop}{n:Nat}(h:∀v,v=(n:Int)→K v):NLenW n K:=⟨_,rfl,h _ rfl⟩
theorem IdxW.go{K:List D→Prop}{i:Int}(j:Nat)(hx:l.map c=xs)(h:∀(hj:j<l.length) x,x=l[j]→K (c x))(hi:i=(j:Int):=by omega)(hj:j<l.length:=by omega):IdxW xs i K:=by
 subst hi hx
 exact⟨_,by omega,by simp[hj],h hj _ rfl⟩
theorem RowW.goX{K:List D→Prop}{i:Nat}(hx:l.map c=xs)(h:∀(hj:i<l.length) x (f:List D),x=l[i]→c x=f→K f)(hj:i<l.length:=by first|omega|(simp only[List.length_append,List.length_cons,List.length_nil,List.length_set,List.length_replicate];omega)):RowW xs i K:=by
 subst hx
 exact⟨_,by simp[hj],h hj _ _ rfl rfl⟩
theorem RowW.go{K:List D→Prop}{i:Nat}(hx:l.map c=xs)(h:∀(hj:i<l.length) x,x=l[i]→K (c x))(hj:i<l.length:=by first|omega|(simp only[List.length_append,List.length_cons,List.length_nil,List.length_set,List.length_replicate];omega)):RowW xs i K:=by
 subst hx
 exact⟨_,by simp[hj],h hj _ rfl⟩
theorem RIdxW.go{K:Nat→Prop}{len:Nat}{i:Int}(j:Nat)(h:∀p,p=j→p<len→K p)(hi:i=(j:Int):=by omega)(hj:j<len:=by omega):RIdxW 0 len i K:=by
 subst hi
 exact⟨j,by omega,by omega,by omega,h j rfl hj⟩
theorem RSubW.hi{K:List (List D)→Prop}{hi:Int}(hx:l.map c=xs)(h:∀v,(l.take hi.toNat).map c=v→K v)(h1:0≤hi:=by omega)(h2:hi≤(l.length:Int):=by omega):RSubW xs none (some hi) K:=by
 subst hx
 refine⟨_,Int.le_refl _,h1,by simpa using h2,rfl,h _ ?_⟩
 rw[List.map_take]
 rfl
theorem RSetW.go{K:List (List D)→Prop}{i j:Nat}{ds:List D}(x':α)(hx:l.map c=xs)(hj:i<l.length)(hp:Kt (c l[i]) j ds=c x')(hd:j+ds.length≤(c l[i]).length)(h:∀v,(l.set i x').map c=v→K v):RSetW xs i j ds K:=by
 subst hx
 refine⟨_,c l[i],by simp[hj],hd,rfl,h _ ?_⟩
 rw[hp,List.map_set]
theorem RSetW.all{K:List (List D)→Prop}{i:Nat}{ds:List D}(x':α)(hx:l.map c=xs)(hd:ds=c x')(h:∀v,(l.set i x').map c=v→K v)(hj:i<l.length:=by omega)(hl:(c l[i]).length=(c x').length:=by rfl):RSetW xs i 0 ds K:=by
 subst hd
 exact RSetW.go x' hx hj (Xbp hl) (by rw[hl];omega) h
theorem MakeW.go{K:Nat→List (List D)→Prop}{n:Int}{bytes:Nat}(x:α)(h:∀v l,l=n.toNat→(List.replicate n.toNat x).map c=v→K l v)(h0:0≤n:=by omega)(h2:bytes*n≤2^48:=by omega)(h3:n<2^63:=by omega):MakeW n n bytes (c x) K:=
 ⟨_,_,h0,Int.le_refl _,h2,h3,rfl,rfl,h _ _ rfl (by rw[List.map_replicate])⟩
theorem AppW.one{K:Nat→List (List D)→Prop}{len bytes:Nat}{ds:List D}(x:α)(hx:l.map c=xs)(hd:ds=c x)(h:∀n v,n=l.length+1→(l++[x]).map c=v→K n v)(hl:len=l.length:=by first|omega|(simp only[List.length_append,List.length_cons,List.length_nil,List.length_set,List.length_replicate];omega))(hb:(2*(l.length+1)+1024)*bytes≤2^48:=by first|omega|(simp only[List.length_append,List.length_cons,List.length_nil,List.length_set,List.length_replicate];omega))(hb2:l.length+1<2^62:=by first|omega|(simp only[List.length_append,List.length_cons,List.length_nil,List.length_set,List.length_replicate];omega)):
  AppW 0 len xs (.sub [ds] 0 1) bytes K:=by
 subst hx hd hl
 exact⟨_,_,[c x],rfl,rfl,by simp,by simpa using hb,by simpa using hb2,rfl,rfl,h _ _ (by simp) (by simp)⟩
end
theorem RBytesW.go{K:ByteArray→Prop}{xs:List (List D)}{n:Nat}{l:List UInt8}(hx:l.map cB=xs)(h:∀v,v=tx l→K v)(hn:n=l.length:=by first|omega|(simp only[List.length_append,List.length_cons,List.length_nil,List.length_set,List.length_replicate];omega)):RBytesW xs 0 n K:=by
 subst hx hn
 refine⟨_,l.map fun b=>(b.toNat:Int),by simp,?_,rfl,h _ ?_⟩
 ·rw[List.drop_zero,show l.length=(l.map cB).length by simp,List.take_length]
  exact Iq l
 ·rw[←Uy];show _=(match G1 (l.map cB)with|some ns=>Et ns|none=>default);rw[Iq]
open Go
section
variable {P:Program} {ops:Array Oper} {i nb:Nat} {o:Oper} {sl:Nat→AV} {rt:Nat→Option Root} {o0 out:Out} {cl:Call}
theorem OpSem.callB{x:Operand}{f:FuncId}{caps ys as0:List AV}{π X:List Nat}{r0:List Root}(ho:ops[i]? =some o)(hg:Ey ops o sl=some true)(hop:o.op= .call cl)(hc:cl.callee= .value x)(hx:Cm sl x= .clo f caps)
  (ha:ArgR sl cl.args.toList ys)(he:Dp P f)(has:AV.rens (Bo π nb o0.new.length) as0=some (ys++caps))(hcall:CallOk P f as0 r0 o0)
  (hren:o0.ren (Bo π nb o0.new.length)=some out)(hlen:π.length=r0.length)(hnd:π.Nodup)(hlt:∀r∈π,r<nb)(hin:∀r∈π,r∈AV.idss (ys++caps)++X)
  (hX:∀r∈X,∃q∈AV.idss (ys++caps),∃t l,rt q=some (.box t l)∧r∈AV.idss l)
  (hrt:∀(j:Nat) r R,π[j]? =some r→r0[j]? =some R→∃R',rt r=some R'∧R≠.dead∧R.ren (Bo π nb o0.new.length)=some R'):
  OpSem P ops i (AV.idss (ys++caps)++X) sl rt nb ⟨out.av,out.new,out.g⟩:=by
 refine⟨o,ho,?_⟩
 intro c E a hM hlk hT hnb hF K Q k
 unfold wpOp
 rw[ho]
 simp only[C4 hlk hg,if_true]
 left
 have hz':=(LendsR.refl (rt:=rt) (ys++caps)).agr (hT.sub fun r hr=>by simp[hr])
 obtain⟨us,hus,hargs,hex⟩:=Vz hM hlk hop hc hx ha hz'
 have hEq:∀r∈AV.idss (ys++caps)++X,(∃R,rt r=some R)→E.rt r=rt r:=by
  rintro r hr ⟨R,hR⟩
  rcases hT r hr with h|h
  ·rw[h]at hR;cases hR
  ·exact h
 have hpr1:∀r∈AV.idss (ys++caps),∀R,E.rt r=some R→R≠.dead→E.pres r:=by
  intro r hr R hR hd
  obtain⟨j,y,hy,hmem⟩:=T7 hr
  obtain⟨v,hv⟩:=hex j y hy
  exact Mm hv hmem hR hd
 have hpr:∀r∈AV.idss (ys++caps)++X,∀R,E.rt r=some R→R≠.dead→E.pres r:=by
  intro r hr R hR hd
  rcases List.mem_append.1 hr with hr|hr
  ·exact hpr1 r hr R hR hd
  ·obtain⟨q,hq,t,l,hql,hrl⟩:=hX r hr
   have h1:E.rt q=some (.box t l):=(hEq q (by simp[hq]) ⟨_,hql⟩).trans hql
   obtain⟨b,cs,fr,_,_,_,h4,_⟩:=hM.roots q _ (hpr1 q hq _ h1 (by simp)) h1
   obtain⟨j,y,hy,hmem⟩:=T7 hrl
   obtain⟨u,_,_,hu⟩:=h4 j y hy
   exact Mm hu hmem hR hd
 have hrows:∀r∈([]:List Nat),Ga E r:=by simp
 have hM':=Mi hM hrows
 have hF':Fresh c (E.lent []) nb out.new:=by
  refine⟨hF.m,?_,hF.np⟩
  intro k R hk
  show(if nb+k∈[]then(E.rt (nb+k)).map X3 else E.rt (nb+k))=some R
  rw[if_neg (by simp)]
  exact hF.rt k R hk
 have hnew:Fl (Bo π nb o0.new.length) o0.new=some out.new:=by
  unfold Out.ren at hren
  obtain⟨av,_,hren⟩:=Option.bind_eq_some_iff.1 hren
  obtain⟨new,hnew,hren⟩:=Option.bind_eq_some_iff.1 hren
  obtain⟨g,_,rfl⟩:=Option.map_eq_some_iff.1 hren
  exact hnew
 have H:Handed (E.lent []) π nb r0 o0.new out.new:=by
  refine⟨hlen,hnd,hlt,?_,?_,hnew⟩
  ·intro r hr
   obtain⟨j,hj,hgj⟩:=List.getElem_of_mem hr
   have hlt0:j<r0.length:=by rw[←hlen];exact hj
   obtain⟨R',h1,hd,h2⟩:=hrt j r r0[j] (List.getElem?_eq_some_iff.2 ⟨hj,hgj⟩) (List.getElem?_eq_getElem hlt0)
   have h3:E.rt r=some R':=(hEq r (hin r hr) ⟨_,h1⟩).trans h1
   exact hpr r (hin r hr) R' h3 (fun e=>hd ((Hg h2).1 e))
  ·intro j r R hj hR
   obtain⟨R',h1,_,h2⟩:=hrt j r R hj hR
   have hr:=List.mem_of_getElem? hj
   refine⟨R',?_,h2⟩
   show(if r∈[]then(E.rt r).map X3 else E.rt r)=some R'
   rw[if_neg (by simp)]
   exact(hEq r (hin r hr) ⟨_,h1⟩).trans h1
 have key:=CallOk.at hM' hcall hF' H hren has hargs
 unfold Oper.wp
 rw[Z3 hop hc hus he]
 show Calls P f _ E.w _
 refine Calls.mono key ?_
 rintro e w' ⟨v,E1,rfl,rfl,hO,_⟩
 refine k v E1 ⟨hO.mem,lent_step.trans hO.step,?_,hO.pres,hO.size,hO.rel⟩
 rw[hO.rt]
 have:=V6 (E:=E) (rt:=rt) [] (fun r hr=>by simp at hr)
 rw[←this]
 rfl
end
def bxX(rt:List Root)(ids:List Nat)(r:Nat):Bool:=ids.any fun q=>match rt[q]? with|some (.box _ l)=>(AV.idss l).contains r|_=>false
def ndB:Root→Bool
 | .dead=>false
 |_=>true
theorem CallW.bx{P P':Program}{f:FuncId}{ys as0:List AV}{rt r0 rs:List Root}{K:Out→List Nat→Prop}{o0 out:Out}(π X:List Nat)(hP:P'=P)(h:Fn P f as0 r0 o0)
  (has:AV.rens (Bo π rt.length o0.new.length) as0=some ys)(hren:o0.ren (Bo π rt.length o0.new.length)=some out)(hrs:Fl (Bo π rt.length o0.new.length) r0=some rs)
  (hrt:π.map (fun r=>rt[r]?)=rs.map some)(k:K ⟨out.av,out.new,out.g⟩ (AV.idss ys++X))(hnd0:r0.all ndB=true:=by rfl)(hlen:π.length=r0.length:=by rfl)(hnd:π.Nodup:=by decide)
  (hlt:(π.all fun r=>Nat.blt r rt.length)=true:=by rfl)(hin:(π.all fun r=>(AV.idss ys++X).contains r)=true:=by rfl)(hX:X.all (bxX rt (AV.idss ys))=true:=by rfl)
  (hg:(out.g.all fun p=>Nat.blt p.1 (rt.length+out.new.length))=true:=by rfl):CallW P' f ys rt K:=by
 subst hP
 refine⟨fun o st hst hc=>?_⟩
 subst hst
 obtain⟨cl,x,caps,ys0,hgd,hop,hcl,hx,ha,rfl⟩:=hc
 refine .mk ⟨out.av,out.new,out.g⟩ _ (OpSem.callB (X:=X) (π:=π) rfl (Pm hgd) hop hcl hx ha h.ent has h.ok hren hlen hnd ?_ ?_ ?_ ?_) ?_ k
 ·intro r hr
  simpa[Nat.blt_eq]using List.all_eq_true.1 hlt r hr
 ·intro r hr
  simpa using List.all_eq_true.1 hin r hr
 ·intro r hr
  have:=List.all_eq_true.1 hX r hr
  unfold bxX at this
  obtain⟨q,hq,h'⟩:=List.any_eq_true.1 this
  split at h'
  ·rename_i t l e
   exact⟨q,hq,t,l,e,by simpa using h'⟩
  ·cases h'
 ·intro j r R hj hR
  obtain⟨hl,hg'⟩:=Gp hrs
  obtain⟨R',h1,h2⟩:=hg' j R hR
  refine⟨R',?_,?_,h2⟩
  ·have:=congrArg (·[j]?) hrt
   simp only[List.getElem?_map,hj,h1,Option.map_some,Option.some.injEq]at this
   exact this
  ·rintro rfl
   have:=List.all_eq_true.1 hnd0 _ (List.mem_of_getElem? hR)
   cases this
 ·intro p hp
  simpa[Nat.blt_eq]using List.all_eq_true.1 hg p hp
theorem StrBW.go{s:ByteArray}{K:Nat→List (List D)→Prop}(h:∀n v,n=s.data.toList.length→s.data.toList.map cB=v→K n v):StrBW s K:=⟨_,_,rfl,rfl,h _ _ (by rw[Array.length_toList];rfl) rfl⟩
theorem AppBW.go{P P':Program}{t e len:Nat}{bs:List UInt8}{s:ByteArray}{K:Nat→List UInt8→Prop}(hP:P'=P)(hu:P.underlying t=some (.slice e))(h:∀n v,n=bs.length+s.size→v=bs++s.data.toList→K n v)(hl:len=bs.length:=by omega)(hb:bs.length+s.size<2^46:=by omega):AppBW P' t e 1 len bs s K:=by
 subst hP
 exact⟨_,_,hu,hl,by omega,by omega,rfl,rfl,h _ _ rfl rfl⟩
theorem Y7{c:Ctx}{E:Env}{vs:Array Value}{T:TypeId}{l:List AV}(hM:Mem c E)(hA:XcC E [.ptr 0 0 0] vs)(hr:E.rt 0=some (.box T l)):
  ∃b cs fr,vs= #[.pointer (some ⟨b,0,none⟩)]∧E.pres 0∧E.β 0=some b∧E.w.heap[b]? =some (.cells cs T fr)∧cs.size=l.length∧(∀(j:Nat) y,l[j]? =some y→∃u,cs[j]? =some u∧u.oneCell'=true∧RelAV E y u)∧¬E.S b∧I1 cs.size fr:=by
 obtain⟨hs,h⟩:=hA
 have h0:=h 0 _ rfl
 have hvs:vs= #[vs.getD 0 undef]:=by
  match vs,hs with
  |⟨[v]⟩,_=>rfl
 rw[hvs]
 generalize vs.getD 0 undef=v at h0
 cases h0 with
 |dptr _ _ _ _ h1 _=>rw[hr]at h1;cases h1
 |ptr _ _ _ R b h1 h2 h3=>
  rw[hr]at h1
  obtain rfl:=Option.some.inj h1
  obtain⟨b',cs,fr,g1,g2,g3,g4,g5,g6⟩:=hM.roots 0 _ h2 hr
  rw[h3]at g1
  obtain rfl:=Option.some.inj g1
  exact⟨b,cs,fr,by simp[Root.kind],h2,h3,g2,g3,g4,g5,g6⟩
theorem V7{p:Prop}{n x:Nat}:p↔p∨(n≤x∧x<n+0):=⟨.inl,fun h=>h.elim id (fun h=>by omega)⟩
theorem XlV{P:Program}{f:FuncId}{T:TypeId}{y:AV}{R1:Root}
  (hraw:∀(b:Nat) (w:World),w.cell? ⟨b,0,none⟩=some (.pointer none)→w.shape? b=some (T,2)→w.frozen? ⟨b,0,none⟩=false→Calls P f #[.pointer (some ⟨b,0,none⟩)] w fun e w'=>e= .returned (.tuple #[])∧w'=w.setCell ⟨b,0,none⟩ (.pointer (some ⟨b,0,none⟩))):
  CallOk P f [.ptr 0 0 0] [.box T [.d (.sc (.pointer none)),y],R1] ⟨.tup [],[],[(0,.box T [.ptr 0 0 0,y])]⟩:=by
 intro w S β vs hM hA
 have hr:(B1 w S β [.box T [.d (.sc (.pointer none)),y],R1] []).rt 0=some (.box T [.d (.sc (.pointer none)),y]):=rfl
 obtain⟨b,cs,fr,rfl,hp,hb,hh,hsz,hcs,hnS,hfr⟩:=Y7 hM hA hr
 generalize hE:B1 w S β [.box T [.d (.sc (.pointer none)),y],R1] []=E at*
 have hw:E.w=w:=by rw[←hE];rfl
 subst hw
 have hsz:cs.size=2:=hsz
 obtain⟨u0,aa,_,hrel0⟩:=hcs 0 _ rfl
 obtain⟨u1,ab,ac,hrel1⟩:=hcs 1 _ rfl
 have e0:u0= .pointer none:=P1 hrel0
 subst e0
 refine(hraw b E.w (by simp[World.cell?,hh,aa]) (by simp[World.shape?,hh,hsz]) (Gy hh hfr (by omega))).mono ?_
 rintro e w' ⟨rfl,rfl⟩
 obtain⟨cs',hW,hget⟩:=Dd b T fr [.pointer (some ⟨b,0,none⟩)] 0 E.w cs hh (by simp;omega)
 have hW':Wrote E.w (E.w.setCell ⟨b,0,none⟩ (.pointer (some ⟨b,0,none⟩))) b cs cs' T fr:=hW
 have st:Step E (E.upd 0 (.box T [.ptr 0 0 0,y]) (E.w.setCell ⟨b,0,none⟩ (.pointer (some ⟨b,0,none⟩)))):=Step.upd hr (.inr rfl) (fun x hx=>hW'.others x (fun e=>hnS (e▸hx))) (hW'.shape hh)
 have hrt0:(E.upd 0 (.box T [.ptr 0 0 0,y]) (E.w.setCell ⟨b,0,none⟩ (.pointer (some ⟨b,0,none⟩)))).rt 0=some (.box T [.ptr 0 0 0,y]):=by simp[Env.upd]
 obtain⟨hM',st'⟩:=hM.upd (R:=.box T [.d (.sc (.pointer none)),y]) (R':=.box T [.ptr 0 0 0,y]) hp hr (by simp) rfl hb hnS hh hW' (by
  refine⟨b,cs',fr,hb,hW'.at_,by rw[hW'.size];exact hsz,?_,hnS,by rw[hW'.size];exact hfr⟩
  intro j z hz
  rw[hget]
  match j,hz with
  |0,hz=>
   simp only[List.getElem?_cons_zero,Option.some.injEq]at hz
   subst hz
   refine⟨_,by simp;rfl,rfl,?_⟩
   have:=RelAV.ptr 0 0 0 _ b hrt0 hp hb
   simpa[Root.kind]using this
  |1,hz=>
   simp at hz
   subst hz
   exact⟨u1,by simpa using ab,ac,hrel1.step st⟩
  |j+2,hz=>simp at hz)
 refine⟨_,_,rfl,?_,hM',st',?_,?_,?_,.tup [] #[] rfl (by simp)⟩
 ·rfl
 ·funext x;rfl
 ·exact fun x=>V7
 ·show _≤(E.w.setCell _ _).heap.size
  rw[hW'.hsize];exact Nat.le_refl _
theorem Xk1{P:Program}{f:FuncId}{T:TypeId}{y:AV}{R1:Root}
  (hraw:∀(b:Nat) (w:World),w.cell? ⟨b,0,none⟩=some (.pointer (some ⟨b,0,none⟩))→Calls P f #[.pointer (some ⟨b,0,none⟩)] w fun e w'=>e= .returned (.tuple #[])∧w'=w):
  CallOk P f [.ptr 0 0 0] [.box T [.ptr 0 0 0,y],R1] ⟨.tup [],[],[]⟩:=by
 intro w S β vs hM hA
 have hr:(B1 w S β [.box T [.ptr 0 0 0,y],R1] []).rt 0=some (.box T [.ptr 0 0 0,y]):=rfl
 obtain⟨b,cs,fr,rfl,hp,hb,hh,hsz,hcs,hnS,hfr⟩:=Y7 hM hA hr
 generalize hE:B1 w S β [.box T [.ptr 0 0 0,y],R1] []=E at*
 have hw:E.w=w:=by rw[←hE];rfl
 subst hw
 obtain⟨u0,aa,_,hrel0⟩:=hcs 0 _ rfl
 have e0:u0= .pointer (some ⟨b,0,none⟩):=by
  cases hrel0 with
  |dptr _ _ _ _ h1 _=>rw[hr]at h1;cases h1
  |ptr _ _ _ R b' h1 h2 h3=>
   rw[hb]at h3
   obtain rfl:=Option.some.inj h3
   rw[hr]at h1
   obtain rfl:=Option.some.inj h1
   simp[Root.kind]
 subst e0
 refine(hraw b E.w (by simp[World.cell?,hh,aa])).mono ?_
 rintro e w' ⟨rfl,rfl⟩
 refine⟨_,E,rfl,rfl,hM,Step.refl E,rfl,?_,Nat.le_refl _,.tup [] #[] rfl (by simp)⟩
 exact fun x=>V7
theorem Xbr{w:World}{g n:Nat}{cs:Array Value}{t:TypeId}{fr:Nat×Nat}(hn:n≠0)(h:w.heap[g]? =some (.cells cs t fr)):∃fr',Wrote w (w.freeze ⟨g,0,none⟩ n) g cs cs t fr':=by
 obtain⟨lo,hi⟩:=fr
 refine⟨if lo==hi then(0,0+n)else(min lo 0,max hi (0+n)),⟨?_,rfl,?_,?_,?_,?_,?_⟩⟩
 ·simp only[World.freeze,if_neg hn,Array.getElem?_modify,if_true,h,Option.map_some]
 ·intro x hx
  simp only[World.freeze,if_neg hn,Array.getElem?_modify]
  rw[if_neg (fun e=>hx e.symm)]
 ·simp[World.freeze,if_neg hn]
 ·simp[World.freeze,if_neg hn]
 ·simp[World.freeze,if_neg hn]
 ·simp[World.freeze,if_neg hn]
theorem XfK{P:Program}{f:FuncId}{T e:TypeId}{x:AV}{bs:List UInt8}{n:Nat}(hn:n=bs.length)(h0:bs≠[])
  (hraw:∀(b g cap cells:Nat) (w:World),w.cell? ⟨b,1,none⟩=some (.slice (some ⟨g,0,none⟩) bs.length cap)→bs.length≤cap→w.shape? g=some (e,cells)→bs.length≤cells→
   (∀(j:Nat) u,bs[j]? =some u→w.cell? ((⟨g,0,none⟩:Addr).add j)=some (.int .u8 u.toNat))→Calls P f #[.pointer (some ⟨b,0,none⟩)] w fun en w'=>en= .returned (.string ⟨bs.toArray⟩)∧w'=w.drew.freeze ⟨g,0,none⟩ bs.length):
  CallOk P f [.ptr 0 0 0] [.box T [x,.ref 1 0 n],.buf e false bs] ⟨.d (.sc (.string ⟨bs.toArray⟩)),[],[(1,.buf e true bs)]⟩:=by
 subst hn
 have ab:bs.length≠0:=by simpa using h0
 intro w S β vs hM hA
 have hr:(B1 w S β [.box T [x,.ref 1 0 bs.length],.buf e false bs] []).rt 0=some (.box T [x,.ref 1 0 bs.length]):=rfl
 have aa:(B1 w S β [.box T [x,.ref 1 0 bs.length],.buf e false bs] []).rt 1=some (.buf e false bs):=rfl
 obtain⟨b,cs,fr,rfl,hp,hb,hh,hsz,hcs,hnS,hfr⟩:=Y7 hM hA hr
 have ac:(B1 w S β [.box T [x,.ref 1 0 bs.length],.buf e false bs] []).pres 1:=by show 1<2;omega
 generalize hE:B1 w S β [.box T [x,.ref 1 0 bs.length],.buf e false bs] []=E at*
 have hw:E.w=w:=by rw[←hE];rfl
 subst hw
 obtain⟨u1,ad,ae,hrel1⟩:=hcs 1 _ rfl
 rcases hM.roots 1 _ ac aa with⟨_,h2⟩|⟨g,cs1,fr1,g1,g2,g3,g4,g5,g6⟩
 ·exact absurd h2 h0
 have key:∃cap,u1= .slice (some ⟨g,0,none⟩) bs.length cap∧bs.length≤cap:=by
  generalize hl:bs.length=ln at hrel1
  cases hrel1 with
  |dref _ _ _ _ h1 _=>rw[aa]at h1;cases h1
  |refz _ _ R sz a h1 hk h2=>exact absurd hl ab
  |ref _ _ _ R sz g' cap t nn h1 hk h2 h3 h4 h5 h6=>
   rw[g1]at h3
   obtain rfl:=Option.some.inj h3
   exact⟨cap,by simp,h5⟩
 obtain⟨cap,rfl,hcap⟩:=key
 refine(hraw b g cap cs1.size E.w (by simp[World.cell?,hh,ad]) hcap (by simp[World.shape?,g2]) g3 (by
  intro j u hj
  have:=g4 j u hj
  rw[show((⟨g,0,none⟩:Addr).add j)=⟨g,j,none⟩by simp[He]]
  simp[World.cell?,g2,this])).mono ?_
 rintro en w' ⟨rfl,rfl⟩
 obtain⟨fr',hW⟩:=Xbr (w:=E.w.drew) (n:=bs.length) ab g2
 obtain⟨hM',st'⟩:=hM.drew.upd (E:=E.drew) (R:=.buf e false bs) (R':=.buf e true bs) ac aa (by simp) rfl g1 g5 g2 hW (.inr ⟨g,cs1,fr',g1,hW.at_,g3,g4,g5,fun h=>by cases h⟩)
 refine⟨_,_,rfl,?_,hM',(Step.drew E).trans st',?_,?_,?_,.d _ _ (.sc _ rfl)⟩
 ·rfl
 ·funext x;rfl
 ·exact fun x=>V7
 ·show _≤(E.w.drew.freeze _ _).heap.size
  rw[hW.hsize];exact Nat.le_refl _
theorem EndQ.of{P:Program}{rs:Array ResultVar}{r0:List Root}{o:Out}{st:St}{e:Exit}{l:List AV}(ids:List Nat)(he:e= .ret∨e= .normal)(h:Hw P st rs.toList=some l)(hav:(Wz l).ren (Ee r0.length ids)=some o.av)
  (hnew:ids.map (fun i=>(st.rt[i]?).bind (Root.ren (Ee r0.length ids)))=o.new.map some)(h1:(List.range r0.length).map (fun r=>(st.rt[r]?).bind (Root.ren (Ee r0.length ids)))=(List.range r0.length).map (fun r=>Lz o.g (fun r=>r0[r]?) r))
  (h2:((List.range r0.length).all fun r=>(Lz o.g (fun r=>r0[r]?) r).isSome)=true:=by rfl)(hids:(ids.all fun i=>Nat.ble r0.length i)=true:=by rfl)(hnd:ids.Nodup:=by decide)(hg:(o.g.all fun p=>Nat.blt p.1 r0.length)=true:=by rfl):EndQ P rs r0 o e st:=by
 have key:XjC P rs r0 o st:=by
  refine⟨ids,l,h,hav,?_,hnd,?_,?_,?_,?_⟩
  ·intro i hi
   exact Nat.le_of_ble_eq_true (List.all_eq_true.1 hids i hi)
  ·simpa using congrArg List.length hnew
  ·intro k i R hk hR
   have:=congrArg (·[k]?) hnew
   simp only[List.getElem?_map,hk,hR,Option.map_some,Option.some.injEq]at this
   obtain⟨R0,g1,g2⟩:=Option.bind_eq_some_iff.1 this
   exact⟨R0,g1,g2⟩
  ·intro r R hr
   have hlt:r<r0.length:=(List.getElem?_eq_some_iff.1 hr).1
   have a1:=congrArg (·[r]?) h1
   have a2:=List.all_eq_true.1 h2 r (List.mem_range.2 hlt)
   simp only[List.getElem?_map,List.getElem?_range hlt,Option.map_some,Option.some.injEq]at a1
   obtain⟨R1,hx⟩:=Option.isSome_iff_exists.1 a2
   rw[hx]at a1
   obtain⟨R0,g1,g2⟩:=Option.bind_eq_some_iff.1 a1
   exact⟨R0,R1,g1,g2,hx⟩
  ·intro p hp
   simpa[Nat.blt_eq]using List.all_eq_true.1 hg p hp
 rcases he with rfl|rfl<;>exact key
theorem EndQ.o{P:Program}{rs:Array ResultVar}{r0:List Root}{o:Out}{st:St}{e:Exit}{l:List AV}(ids:List Nat)(h:Hw P st rs.toList=some l)(he:e= .ret∨e= .normal:=by exact .inl rfl)(hav:(Wz l).ren (Ee r0.length ids)=some o.av:=by rfl)(hnew:ids.map (fun i=>(st.rt[i]?).bind (Root.ren (Ee r0.length ids)))=o.new.map some:=by rfl)(h1:(List.range r0.length).map (fun r=>(st.rt[r]?).bind (Root.ren (Ee r0.length ids)))=(List.range r0.length).map (fun r=>Lz o.g (fun r=>r0[r]?) r):=by rfl)(h2:((List.range r0.length).all fun r=>(Lz o.g (fun r=>r0[r]?) r).isSome)=true:=by rfl)(hids:(ids.all fun i=>Nat.ble r0.length i)=true:=by rfl)(hnd:ids.Nodup:=by decide)(hg:(o.g.all fun p=>Nat.blt p.1 r0.length)=true:=by rfl):EndQ P rs r0 o e st:=.of ids he h hav hnew h1 h2 hids hnd hg
theorem AppW.str{K:Nat→List (List D)→Prop}{len bytes:Nat}{xs:List (List D)}{l:List UInt8}{s:ByteArray}(hx:l.map cB=xs)(h:∀n v,n=l.length+s.size→(l++s.data.toList).map cB=v→K n v)(hl:len=l.length:=by first|omega|(simp only[List.length_append,List.length_cons,List.length_nil,List.length_set,List.length_replicate];omega))
  (hb:(2*(l.length+s.size)+1024)*bytes≤2^48:=by first|omega|(simp only[List.length_append,List.length_cons,List.length_nil,List.length_set,List.length_replicate];omega))(hb2:l.length+s.size<2^62:=by first|omega|(simp only[List.length_append,List.length_cons,List.length_nil,List.length_set,List.length_replicate];omega)):
  AppW 0 len xs (.str s) bytes K:=by
 subst hx hl
 have e:strRow s=s.data.toList.map cB:=rfl
 have el:(strRow s).length=s.size:=by rw[e,List.length_map];exact Array.length_toList
 exact⟨_,_,strRow s,rfl,rfl,by simp,by rw[el];simpa using hb,by rw[el];simpa using hb2,rfl,rfl,h _ _ (by simp[el]) (by rw[e];simp)⟩
theorem AllAW.go{P P':Program}{t:TypeId}{K:List (List D)→Prop}(n:Nat)(hP:P'=P)(hz:Kd P t=some (List.replicate n (.int .u8 0,0)))(h:∀v,(List.replicate n (0:UInt8)).map cB=v→K v):AllAW P' t K:=by
 subst hP
 exact⟨n,.u8,_,hz,rfl,h _ (by rw[List.map_replicate];rfl)⟩
theorem AIdxW.go{P P':Program}{t n e:Nat}{j:Int}{K:Nat→Prop}(hP:P'=P)(hu:P.underlying t=some (.array n e))(hs:szT P e=some 1)(h:∀p,p=j.toNat→K p)(h0:0≤j:=by omega)(h1:j<(n:Int):=by omega):AIdxW P' t j K:=by
 subst hP
 exact⟨n,e,_,hu,hs,h0,h1,rfl,h _ rfl⟩
theorem ASlcW.lo{α:Type}{c:α→List D}{l:List α}{P P':Program}{t n e:Nat}{lo:Int}{xs:List (List D)}{K:Nat→Nat→Prop}(hP:P'=P)(hx:l.map c=xs)(hu:P.underlying t=some (.array n e))(hs:szT P e=some 1)
  (h:∀o m,o=lo.toNat→m=n - lo.toNat→K o m)(hn:l.length=n:=by first|omega|(simp;omega))(h0:0≤lo:=by omega)(h1:lo≤(n:Int):=by omega):ASlcW P' t xs (some lo) none K:=by
 subst hP hx
 exact⟨n,e,_,_,hu,hs,by simpa using hn,h0,h1,Int.le_refl _,rfl,rfl,h _ _ rfl (by simp)⟩
theorem RBytesW.off{K:ByteArray→Prop}{xs:List (List D)}{o n:Nat}{l:List UInt8}(hx:l.map cB=xs)(h:∀v,v=tx ((l.drop o).take n)→K v)(hn:o+n≤l.length:=by first|omega|(simp;omega)):RBytesW xs o n K:=by
 subst hx
 refine⟨_,((l.drop o).take n).map fun b=>(b.toNat:Int),by simpa using hn,?_,rfl,h _ ?_⟩
 ·rw[←List.map_drop,←List.map_take]
  exact Iq _
 ·have h2:=Uy (l:=(l.drop o).take n)
  rw[←h2]
  show _=(match G1 (((l.drop o).take n).map cB)with|some ns=>Et ns|none=>default)
  rw[Iq]
theorem AClrW.goN{α:Type}{c:α→List D}{l:List α}{P P':Program}{t e sz off len:Nat}{xs:List (List D)}{K:List (List D)→Prop}(z0:α){zz:List (Value×Nat)}(hP:P'=P)(hx:l.map c=xs)(hu:P.underlying t=some (.slice e))(hz:Kd P e=some zz)(hc:c z0=(zz.map (·.1)).map D.sc)(hsz:sz=(zz.map (·.1)).length)(h0:0<(zz.map (·.1)).length)
  (h:∀v,(l.take off++(List.replicate len z0++l.drop (off+len))).map c=v→K v)(hn:off+len≤l.length:=by omega):AClrW P' t sz xs off len K:=by
 subst hP hx
 refine⟨e,_,_,_,hu,hz,rfl,h0,hsz,by simpa using hn,rfl,?_⟩
 have e1:Hp (l.map c) off len ((zz.map (·.1)).map D.sc)=(l.take off++(List.replicate len z0++l.drop (off+len))).map c:=by
  unfold Hp
  rw[←hc]
  simp
 rw[e1]
 exact h _ rfl
end
section
open Go Go.Proofs Go.Shelf Go.RowKit
section
variable {P:Program} {ρ:Ren}
end
open Go
theorem NSubW.lo{off len:Nat}{lo:Int}{K:Nat→Nat→Prop}(h:∀o n,o=off+lo.toNat→n=len - lo.toNat→K o n)(h0:0≤lo:=by omega)(h1:lo≤(len:Int):=by omega):NSubW off len (some lo) none K:=⟨_,_,h0,h1,Int.le_refl _,rfl,rfl,h _ _ rfl (by simp)⟩
theorem NSubW.hi{off len:Nat}{hi:Int}{K:Nat→Nat→Prop}(h:∀o n,o=off→n=hi.toNat→K o n)(h1:0≤hi:=by omega)(h2:hi≤(len:Int):=by omega):NSubW off len none (some hi) K:=⟨_,_,Int.le_refl _,h1,h2,rfl,rfl,h _ _ (by simp) (by simp)⟩
theorem MapGW.go{P P':Program}{t kt et:TypeId}{ks:List Int}{n:Int}{K:Bool→Prop}(hP:P'=P)(hu:P.underlying t=some (.map kt et))(hkt:P.underlying kt=some (.int .i64))(hz:Kd P et=some [(.bool false,0)])(aa:(P.info? et).bind (·.zero)=some (.bool false))(h:∀v,v=decide (n∈ks)→K v):MapGW P' t ks n K:=by
 subst hP
 exact⟨_,_,_,hu,hkt,hz,aa,rfl,h _ rfl⟩
theorem MapSW.go{P P':Program}{t kt et:TypeId}{ks:List Int}{n:Int}{K:List Int→Prop}(hP:P'=P)(hu:P.underlying t=some (.map kt et))(hkt:P.underlying kt=some (.int .i64))(h:∀v,v=Pf ks n→K v):MapSW P' t ks n K:=by
 subst hP
 exact⟨_,_,_,hu,hkt,rfl,h _ rfl⟩
def XkM(l:List Oper):Nat→Nat→Nat→Bool
 |0,_,_=>false
 |fuel+1,j,i=>match l[j]? with
  |none=>false
  |some o=>o.after.toList.any fun e=>Region.binds .any e&&(e.on==i||XkM l fuel e.on i)
theorem XhU{ops:Array Oper}:∀{fuel j i:Nat},XkM ops.toList fuel j i=Ph ops fuel j i
 |0,_,_=>rfl
 |fuel+1,j,i=>by
  unfold XkM Ph
  rw[Array.getElem?_toList]
  cases ops[j]? with
  |none=>rfl
  |some o=>
   simp only[Array.any_toList]
   congr 1
   funext e
   rw[XhU (fuel:=fuel)]
def XkN(ops:List Oper)(N nb:Nat)(eff:List Eff):Bool:=
 (List.range ops.length).all fun j=>match ops[j]? with
  |none=>false
  |some o=>o.after.toList.all (fun e=>!Region.binds .any e||e.on<j)&&(match o.dst with|some d=>d<N|none=>true)&&
   (List.range ops.length).all fun i=>(i==j)||(match ops[i]? with
    |none=>false
    |some o'=>(match o'.dst with
      |none=>true
      |some d=>(o.dst !=some d)&&(!(o.looksAt ⟨ops⟩).contains d||(if i<j then XkM ops ops.length j i else XkM ops ops.length i j)))&&
     (XkM ops ops.length i j||XkM ops ops.length j i||K8 nb eff i j))
theorem drawC_eq{ops:Array Oper}{N nb:Nat}{eff:List Eff}:XkN ops.toList N nb eff=N3 ops N nb eff:=by
 unfold XkN N3
 simp only[XhU,Array.length_toList,Array.getElem?_toList,Array.all_toList]
 rfl
theorem DrawW.go2{ops:Array Oper}{N nb:Nat}{eff:List Eff}{K:Unit→Prop}(h:XkN ops.toList N nb eff=true)(k:K ()):DrawW (fun _=>N3 ops N nb eff) K:=⟨drawC_eq.symm.trans h,k⟩
theorem B8.mark{P:Program}{tab:List (Nat×TyRow)}(n:Nat)(h:B8 P tab):B8 P ((n,Fp P n)::tab):=by
 intro t r hr
 simp only[Di]at hr
 split at hr
 ·rename_i e
  subst e
  exact(Option.some.inj hr).symm
 ·exact h _ _ hr
theorem Setup.mark{P:Program}{tab:List (Nat×TyRow)}(n:Nat)(h:Setup P tab):Setup P ((n,Fp P n)::tab):=⟨h.1.mark n,h.2⟩
open Go
theorem Grow.wrote{w w1 w2:World}{cs cs':Array Value}{t:TypeId}{fr:Nat×Nat}(g:Grow w w1 (.cells cs t fr))(h:Wrote w1 w2 w.heap.size cs cs' t fr):Grow w w2 (.cells cs' t fr) where
 heap:=by
  apply Array.ext_getElem?
  intro i
  by_cases e:i=w.heap.size
  ·subst e;rw[h.at_];simp
  ·rw[h.others i e,g.heap,Array.getElem?_push,Array.getElem?_push,if_neg e,if_neg e]
 os:=h.os.trans g.os
 output:=h.output.trans g.output
 tape:=h.tape.trans g.tape
section
variable {c:Ctx} {E:Env}
theorem Xjt{nb r:Nat}{R:Root}(hF:Fresh c E nb [R])(hp:E.pres r):nb≠r:=by
 rintro rfl
 have:=hF.np 0 (by simp)
 simp at this
 exact this hp
theorem XeY{nb r:Nat}{R:Root}(hF:Fresh c E nb [R])(hp:E.pres r):(E.kill r).rt nb=some R:=by
 have:=hF.rt 0 _ rfl
 simp only[Nat.add_zero]at this
 simpa[Env.kill,Xjt hF hp]using this
theorem XdM{nb r:Nat}{R:Root}(hF:Fresh c E nb [R]):¬(E.kill r).pres nb:=by
 show¬E.pres nb
 simpa using hF.np 0 (by simp)
theorem Xe8(hM:Mem c E){r nb sz b cap:Nat}{xs ys:List (List D)}{cs cs':Array Value}{t:TypeId}{fr:Nat×Nat}{w':World}(hr:E.rt r=some (.row sz false xs))(hp:E.pres r)(hF:Fresh c E nb [.row sz false ys])
  (hb:E.β r=some b)(hh:E.w.heap[b]? =some (.cells cs t fr))(hw:Wrote E.w w' b cs cs' t fr)(hl:∀(i:Nat) x,ys[i]? =some x→x.length=sz)(hcap:cap*sz≤cs.size)(hlen:ys.length≤cap)
  (hc:∀(i:Nat) x (j:Nat) y,ys[i]? =some x→x[j]? =some y→∃u,cs'[i*sz+j]? =some u∧RelD E.w E.S y u):
  ∃E',E'.w=w'∧OutRel c E nb ⟨.ref nb 0 ys.length,[.row sz false ys],[(r,.dead)]⟩ (.slice (some ⟨b,0,none⟩) ys.length cap) E':=by
 rcases hM.roots r _ hp hr with⟨hb',_⟩|⟨b',cs0,t0,fr0,hb',hh',hxl,hxs,hxr,hfz⟩
 ·rw[hb]at hb';cases hb'
 rw[hb]at hb'
 obtain rfl:=Option.some.inj hb'
 rw[hh]at hh'
 have hh'':=Option.some.inj hh'
 simp only[Obj.cells.injEq]at hh''
 obtain⟨rfl,rfl,rfl⟩:=hh''
 rcases hfz with⟨hf,_⟩|⟨_,hnS,hfr⟩
 ·cases hf
 have hM1:Mem c (E.kill r):=hM.kill hr
 have hrt:=XeY hF hp
 have hnp:=XdM (r:=r) hF
 have st2:Step (E.kill r) ((E.kill r).adopt nb b w'):=Step.adopt hnp hnS hh hw
 have hroot:RootRel ((E.kill r).adopt nb b w') nb (.row sz false ys):=by
  refine .inr ⟨b,cs',t,fr,Ea _ _ _,hw.at_,hl,?_,?_,.inr ⟨rfl,hnS,by rw[hw.size];exact hfr⟩⟩
  ·rw[hw.size]
   exact Nat.le_trans (Nat.mul_le_mul_right _ hlen) hcap
  ·intro k x j y hk hy
   obtain⟨u,hu,hrel⟩:=hc k x j y hk hy
   exact⟨u,hu,(hrel.step (Step.kill hr).S (Step.kill hr).heap).step st2.S st2.heap⟩
 have hM2:Mem c ((E.kill r).adopt nb b w'):=hM1.adopt hrt hnp hF.m hnS (by
   intro x R hxp hxR hd hxb
   obtain⟨hxne,hxR'⟩:=Ps hxR hd
   exact hxne (hM.inj x r R _ b hxp hp hxR' hd hr (by simp) hxb hb)) (hM.bown r _ b hp hr (by simp) hb) hh hw hroot
 have hsh:w'.shape? b=some (t,cs'.size):=by
  unfold World.shape?;rw[hw.at_]
 refine⟨(E.kill r).adopt nb b w',rfl,hM2,(Step.kill hr).trans st2,rfl,?_,?_,?_⟩
 ·intro x
  show(E.pres x∨x=nb)↔E.pres x∨(nb≤x∧x<nb+1)
  constructor
  ·rintro(h|h)
   ·exact .inl h
   ·exact .inr (by omega)
  ·rintro(h|h)
   ·exact .inl h
   ·exact .inr (by omega)
 ·show E.w.heap.size≤w'.heap.size
  rw[hw.hsize];exact Nat.le_refl _
 ·have:=RelAV.ref (E:=(E.kill r).adopt nb b w') nb 0 ys.length _ sz b cap t cs'.size hrt rfl (Or.inr rfl) (Ea _ _ _) hsh hlen (by rw[hw.size,Nat.zero_add];exact hcap)
  rw[Nat.zero_mul]at this
  exact this
theorem Xkb(hM:Mem c E){r nb sz cap:Nat}{xs ys:List (List D)}{cs':Array Value}{t:TypeId}{w':World}(hr:E.rt r=some (.row sz false xs))(hp:E.pres r)(hF:Fresh c E nb [.row sz false ys])
  (g:Grow E.w w' (.cells cs' t (0,0)))(hl:∀(i:Nat) x,ys[i]? =some x→x.length=sz)(hcap:cap*sz≤cs'.size)(hlen:ys.length≤cap)
  (hc:∀(i:Nat) x (j:Nat) y,ys[i]? =some x→x[j]? =some y→∃u,cs'[i*sz+j]? =some u∧RelD E.w E.S y u):
  ∃E',E'.w=w'∧OutRel c E nb ⟨.ref nb 0 ys.length,[.row sz false ys],[(r,.dead)]⟩ (.slice (some ⟨E.w.heap.size,0,none⟩) ys.length cap) E':=by
 have hM1:Mem c (E.kill r):=hM.kill hr
 obtain⟨q,hrel⟩:=Xgi (E:=E.kill r) hM1 (r:=nb) (sz:=sz) (xs:=ys) (t:=t) (cs:=cs') (fr:=(0,0)) (w':=w') (XeY hF hp) (XdM hF) hF.m g ⟨Gx _,.inr rfl⟩ hl
  (Nat.le_trans (Nat.mul_le_mul_right _ hlen) hcap) (by
   intro k x j y hk hy
   obtain⟨u,hu,h⟩:=hc k x j y hk hy
   exact⟨u,hu,h.step (Step.kill hr).S (Step.kill hr).heap⟩)
 refine⟨(E.kill r).withBlk nb w',rfl,q.mem,(Step.kill hr).trans q.step,?_,?_,q.size,hrel ys.length cap hlen hcap⟩
 ·exact q.rt
 ·intro x
  rw[q.pres]
  exact Iff.rfl
end
theorem AppW.row0{α:Type}{c:α→List D}{K:Nat→List (List D)→Prop}{bytes:Nat}{ys:List (List D)}{m:List α}(hy:m.map c=ys)(h:∀n v,n=m.length→m.map c=v→K n v)(hb:(2*m.length+1024)*bytes≤2^48:=by omega)(hb2:m.length<2^62:=by omega):AppW 0 0 [] (.row ys) bytes K:=by
 subst hy
 exact⟨_,_,_,rfl,rfl,rfl,by simpa using hb,by simpa using hb2,rfl,rfl,h _ _ (by simp) (by simp)⟩
open Go
section
variable {P:Program} {N:Nat} {Q:Exit→St→Prop} {st:St}
def Uk(x:AV)(sl:Nat→AV):List Nat→Nat→AV
 |[]=>sl
 |t::l=>Vg (Uk x sl l) t x
theorem Holds.frz{c:Ctx}{Ei:Env}{a:Act}{w:World}{r sz n:Nat}{xs:List (List D)}(h:Holds c Ei N st a w)(hr:st.rt[r]? =some (.row sz false xs))(hn:n=xs.length)(ts:List Nat)(hts:∀t∈ts,st.sl t= .ref r 0 n):
  Holds c Ei N ⟨Uk (.d (.row sz xs)) st.sl ts,st.rt.set r (.row sz true xs)⟩ a w:=by
 obtain⟨E,rfl,hM,hSt,hrt,hpr,hsl,hdef,hsz,hm⟩:=h
 have hlt:r<st.rt.length:=(List.getElem?_eq_some_iff.1 hr).1
 have hER:E.rt r=some (.row sz false xs):=by rw[hrt];exact hr
 have hrows:∀q∈[r],Ga E q:=by
  intro q hq
  rw[List.mem_singleton]at hq
  subst hq
  exact⟨(hpr q).2 hlt,sz,false,xs,hER⟩
 refine⟨E.lent [r],rfl,Mi hM hrows,hSt.trans lent_step,?_,?_,?_,hdef,hsz,by rw[List.length_set];exact hm⟩
 ·funext x
  show(if x∈[r]then(E.rt x).map X3 else E.rt x)=(st.rt.set r (.row sz true xs))[x]?
  rw[List.getElem?_set]
  by_cases e:r=x
  ·subst e
   rw[if_pos (by simp),if_pos rfl,if_pos hlt,hER]
   rfl
  ·rw[if_neg (by simpa using fun h=>e h.symm),if_neg e,hrt]
   rfl
 ·intro x
  rw[List.length_set]
  exact hpr x
 ·intro t
  have old:RelAV (E.lent [r]) (st.sl t) (a.eval (.tmp t)):=(hsl t).step lent_step
  have key:∀l:List Nat,(∀q∈l,st.sl q= .ref r 0 n)→RelAV (E.lent [r]) (Uk (.d (.row sz xs)) st.sl l t) (a.eval (.tmp t)):=by
   intro l
   induction l with
   |nil=>intro _;exact old
   |cons q l ih=>
    intro hl
    show RelAV _ (Vg (Uk (.d (.row sz xs)) st.sl l) q (.d (.row sz xs)) t) _
    unfold Vg
    split
    ·rename_i e
     subst e
     refine D3 (L:=[r]) (L':=[r]) hM (hsl t) ?_ (fun _ h=>h)
     rw[hl t (by simp)]
     simp only[AV.lendA,hER]
     rw[if_pos (by omega),hn,List.drop_zero,List.take_length]
     rfl
    ·exact ih fun q hq=>hl q (List.mem_cons_of_mem _ hq)
  exact key ts hts
theorem LoopW.frz{body:Code}(r:Nat)(ts:List Nat){sz n:Nat}{xs:List (List D)}(hr:st.rt[r]? =some (.row sz false xs))(hts:ts.map st.sl=ts.map fun _=>.ref r 0 n)(hn:n=xs.length)(h:LoopW P N body Q ⟨Uk (.d (.row sz xs)) st.sl ts,st.rt.set r (.row sz true xs)⟩):LoopW P N body Q st:=by
 obtain⟨⟨h⟩⟩:=h
 refine⟨⟨fun c Ei a w hH=>h c Ei a w (hH.frz hr hn ts ?_)⟩⟩
 intro t ht
 obtain⟨i,hi⟩:=List.getElem?_of_mem ht
 have:=congrArg (·[i]?) hts
 simpa only[List.getElem?_map,hi,Option.map_some,Option.some.injEq]using this
end
inductive LendF (rt:Nat→Option Root):List AV→List AV→List Nat→Prop
 |nil:LendF rt [] [] []
 |d {x:AV} {ys zs:List AV} {L:List Nat} (h:x.isD=true) (t:LendF rt ys zs L):LendF rt (x::ys) (x::zs) L
 |ref {r n sz:Nat} {xs:List (List D)} {ys zs:List AV} {L:List Nat} (h:rt r=some (.row sz false xs)) (hn:n=xs.length) (t:LendF rt ys zs L):LendF rt (.ref r 0 n::ys) (.d (.row sz xs)::zs) (r::L)
 |sub {r o n sz:Nat} {xs us:List (List D)} {ys zs:List AV} {L:List Nat} (h:rt r=some (.row sz false xs)) (hn:o+n≤xs.length) (e:(xs.drop o).take n=us) (t:LendF rt ys zs L):LendF rt (.ref r o n::ys) (.d (.row sz us)::zs) (r::L)
 |fz {r n sz:Nat} {xs:List (List D)} {ys zs:List AV} {L:List Nat} (h:rt r=some (.row sz true xs)) (hn:n=xs.length) (t:LendF rt ys zs L):LendF rt (.ref r 0 n::ys) (.d (.row sz xs)::zs) L
 |agg {l l' ys zs:List AV} {L1 L2:List Nat} (h:LendF rt l l' L1) (t:LendF rt ys zs L2):LendF rt (.agg l::ys) (.agg l'::zs) (L1++L2)
theorem LendF.get{rt:Nat→Option Root}{ys zs:List AV}{L:List Nat}(h:LendF rt ys zs L):AV.lendAs rt ys=some (zs,L)∧∀r∈L,∃sz xs,rt r=some (.row sz false xs):=by
 induction h with
 |nil=>exact⟨rfl,by simp⟩
 |d h _ ih=>exact⟨by simp[AV.lendAs,(Js rt h).1,ih.1],ih.2⟩
 | @ref r n sz xs ys zs L h hn _ ih=>
   subst hn
   refine⟨by simp[AV.lendAs,AV.lendA,h,ih.1],?_⟩
   intro q hq
   rcases List.mem_cons.1 hq with rfl|hq
   ·exact⟨_,_,h⟩
   ·exact ih.2 q hq
 | @sub r o n sz xs us ys zs L h hn e _ ih=>
   subst e
   refine⟨by simp[AV.lendAs,AV.lendA,h,ih.1,hn],?_⟩
   intro q hq
   rcases List.mem_cons.1 hq with rfl|hq
   ·exact⟨_,_,h⟩
   ·exact ih.2 q hq
 | @fz r n sz xs ys zs L h hn _ ih=>
   subst hn
   exact⟨by simp[AV.lendAs,AV.lendA,h,ih.1],ih.2⟩
 |agg _ _ ih1 ih2=>
  refine⟨by simp[AV.lendAs,AV.lendA,ih1.1,ih2.1],?_⟩
  intro q hq
  rcases List.mem_append.1 hq with hq|hq
  ·exact ih1.2 q hq
  ·exact ih2.2 q hq
section
variable {P P':Program} {f:FuncId} {ys as0:List AV} {rt:List Root} {K:Out→List Nat→Prop}
theorem CallW.lntD{av:AV}{L:List Nat}(hP:P'=P)(h:Fn P f as0 [] ⟨av,[],[]⟩)(hl:LendF (fun r=>rt[r]?) ys as0 L)(k:K ⟨av,[],XdJ (fun r=>rt[r]?) L⟩ (AV.idss ys))(hL:(L.all fun r=>(AV.idss ys).contains r)=true:=by rfl)(hav:av.isDT=true:=by rfl):CallW P' f ys rt K:=by
 subst hP
 obtain⟨ab,aa⟩:=hl.get
 refine⟨fun o st hst hc=>?_⟩
 subst hst
 obtain⟨cl,x,caps,ys0,hgd,hop,hcl,hx,ha,rfl⟩:=hc
 refine ClW.data hgd hop hcl hx ha ab (fun r hr=>⟨by simpa using List.all_eq_true.1 hL r hr,aa r hr⟩) h.ent h.ok (Yr _ hav) ?_ k
 intro p hp
 obtain⟨r,hr,rfl⟩:=List.mem_map.1 hp
 obtain⟨sz,xs,hx⟩:=aa r hr
 exact(List.getElem?_eq_some_iff.1 hx).1
end
open Go
section
variable {P P':Program} {f:FuncId} {ys:List AV} {rt:List Root} {K:Out→List Nat→Prop}
theorem CallW.ddN{o0:Out}{av:AV}{nw:List Root}(hP:P'=P)(h:Fn P f ys [] o0)(hren:o0.ren (Bo [] rt.length o0.new.length)=some ⟨av,nw,[]⟩)(k:K ⟨av,nw,[]⟩ [])(hd:AV.isDs ys=true:=by rfl):CallW P' f ys rt K:=by
 subst hP
 refine⟨fun o st hst hc=>?_⟩
 subst hst
 obtain⟨cl,x,caps,ys0,hgd,hop,hcl,hx,ha,rfl⟩:=hc
 have hl:=Jz st.look hd
 refine ClW.call (out:=⟨av,nw,[]⟩) (L:=[]) (π:=[]) (r0:=[]) hgd hop hcl hx ha (LendsR.refl _) (by simp) h.ent (In _ hl.1) h.ok hren rfl .nil (by simp) (by simp) (by simp) (by simp) ?_ ?_
 ·intro p hp
  exact absurd hp (by simp[XdJ])
 ·rw[hl.2]
  simpa[XdJ]using k
end
theorem Af{α β:Type}{c:α→β}{l:List α}{x:List β}{n:Nat}(h:l.map c=x)(e:n=l.length:=by first|omega|(simp;omega)):n=x.length:=by rw[←h,List.length_map];exact e
theorem C3{α β:Type}{c:α→β}{l:List α}{x y:List β}(h:l.map c=x)(k:l.map c=y):x=y:=h.symm.trans k
theorem AppW.sub0{α:Type}{c:α→List D}{K:Nat→List (List D)→Prop}{bytes n:Nat}{ys:List (List D)}{m:List α}(hy:m.map c=ys)(h:∀n v,n=m.length→m.map c=v→K n v)(hn:n=m.length:=by omega)(hb:(2*m.length+1024)*bytes≤2^48:=by omega)(hb2:m.length<2^62:=by omega):AppW 0 0 [] (.sub ys 0 n) bytes K:=by
 subst hy hn
 exact⟨_,_,m.map c,by simp[Src.val,←List.map_take],rfl,rfl,by simpa using hb,by simpa using hb2,rfl,rfl,h _ _ (by simp) (by simp)⟩
open Go
theorem CallW.lntN{P P':Program}{f:FuncId}{ys as0:List AV}{rt:List Root}{K:Out→List Nat→Prop}{o0 out:Out}(hP:P'=P)(h:Fn P f as0 [] o0)(hl:LendL (fun r=>rt[r]?) ys as0)(hren:o0.ren (Bo [] rt.length o0.new.length)=some out)
  (hog:out.g=[])(hfa:out.av.flat=true)(hfn:out.new.all Root.flat=true)(k:K out (AV.idss ys)):CallW P' f ys rt K:=by
 subst hP
 refine⟨fun o st hst hc=>?_⟩
 subst hst
 obtain⟨cl,x,caps,ys0,hgd,hop,hcl,hx,ha,rfl⟩:=hc
 obtain⟨L,hL⟩:=hl.get
 exact ClW.pure hgd hop hcl hx ha hL h.ent h.ok hren hog hfa hfn k
open Go
section
variable {P:Program} {N:Nat} {tab:List (Nat×TyRow)} {Q:Exit→St→Prop} {st:St}
theorem LoopW.lp1{κ:Type}{body:Code}(su:B8 P tab∧P.follows .mixedOrders=true){P':Program}(hP:P'=P)(mvs keep live:List Nat)(ext:List Root)(mods:κ→List (Nat×AV))(rts:κ→List (Nat×Root))(inv:κ→Prop)(μ:κ→Nat)(M:Nat)
  (hfir:∀J:κ→Prop,(∀k',inv k'→μ k'<M→J k')→wc P' tab N body (Exit.thenQ (fun st'=>NextW st.rt.length (Sn (Hx mvs st).sl keep) ((Hx mvs st).rt++ext) mods rts J st') Q) ⟨look (Sn (Hx mvs st).sl live),(Hx mvs st).rt⟩)
  (round:∀k (J:κ→Prop),inv k→(∀k',inv k'→μ k'<μ k→J k')→wc P' tab N body (Exit.thenQ (fun st'=>NextW st.rt.length (Sn (Hx mvs st).sl keep) ((Hx mvs st).rt++ext) mods rts J st') Q) ⟨look (mods k++Sn (Hx mvs st).sl keep),Xcd (rts k) ((Hx mvs st).rt++ext)⟩):LoopW P' N body Q st:=by
 subst hP
 refine⟨LpW.ofR (κ:=Option κ) (st:=Hx mvs st) (fun o=>match o with|none=>True|some k=>inv k) (fun o=>match o with|none=>M|some k=>μ k) (fun o=>match o with|none=>Sn (Hx mvs st).sl live|some k=>mods k++Sn (Hx mvs st).sl keep) (fun o=>match o with|none=>(Hx mvs st).rt|some k=>Xcd (rts k) ((Hx mvs st).rt++ext)) none st.rt.length trivial (Sq _ _) rfl (Nat.le_refl _) rfl (fun c Ei a w h=>Mj mvs h) ?_⟩
 intro o ho
 cases o with
 |none=>
  refine(XcJ su.1 su.2 (hfir (fun k'=>inv k'∧μ k'<M) (fun k' h1 h2=>⟨h1,h2⟩))).mono ?_
  intro e st' he
  cases e with
  |normal=>
   obtain⟨k',⟨h1,h2⟩,h3⟩:=he
   exact⟨some k',h1,h2,h3⟩
  |_=>exact he
 |some k=>
  refine(XcJ su.1 su.2 (round k (fun k'=>inv k'∧μ k'<μ k) ho (fun k' h1 h2=>⟨h1,h2⟩))).mono ?_
  intro e st' he
  cases e with
  |normal=>
   obtain⟨k',⟨h1,h2⟩,h3⟩:=he
   exact⟨some k',h1,h2,h3⟩
  |_=>exact he
end
theorem RootRel.shr{E:Env}{r sz:Nat}{xs ys:List (List D)}(h:RootRel E r (.row sz false (xs++ys))):RootRel E r (.row sz false xs):=by
 rcases h with⟨h1,h2⟩|⟨b,cs,t,fr,h1,h2,h3,h4,h5,h6⟩
 ·exact .inl ⟨h1,(List.append_eq_nil_iff.1 h2).1⟩
 ·have hx:∀(i:Nat) x,xs[i]? =some x→(xs++ys)[i]? =some x:=fun i x hi=>by
   rw[List.getElem?_append_left (List.getElem?_eq_some_iff.1 hi).1];exact hi
  refine .inr ⟨b,cs,t,fr,h1,h2,fun i x hi=>h3 i x (hx i x hi),?_,fun i x j y hi hy=>h5 i x j y (hx i x hi) hy,h6⟩
  refine Nat.le_trans (Nat.mul_le_mul_right _ ?_) h4
  rw[List.length_append];exact Nat.le_add_right _ _
def Xls(E:Env)(k:Nat)(R:Root):Env:=⟨fun r=>if r=k then some R else E.rt r,E.pres,E.β,E.S,E.w⟩
theorem Step.shr{E:Env}{k sz:Nat}{xs ys:List (List D)}(hk:E.rt k=some (.row sz false (xs++ys))):Step E (Xls E k (.row sz false xs)):=by
 refine⟨?_,fun _ h=>h,fun _ _=>rfl,fun _ h=>h,fun _ _=>rfl,fun _ _ h=>h⟩
 intro r R hr
 by_cases e:r=k
 ·subst e
  rw[hk]at hr
  obtain rfl:=Option.some.inj hr
  exact⟨_,if_pos rfl,.inr rfl⟩
 ·exact⟨R,(if_neg e).trans hr,.inr rfl⟩
theorem Mem.shr{c:Ctx}{E:Env}{k sz:Nat}{xs ys:List (List D)}(h:Mem c E)(hk:E.rt k=some (.row sz false (xs++ys))):Mem c (Xls E k (.row sz false xs)):=by
 have src:∀{r R},(Xls E k (.row sz false xs)).rt r=some R→R≠.dead→∃R',E.rt r=some R'∧R'≠.dead:=by
  intro r R hr hd
  by_cases e:r=k
  ·subst e
   exact⟨_,hk,by intro h;cases h⟩
  ·exact⟨R,(if_neg e).symm.trans hr,hd⟩
 exact{
  os:=h.os
  output:=h.output
  tape:=h.tape
  size:=h.size
  keep:=h.keep
  shape:=h.shape
  s0:=h.s0
  slt:=h.slt
  snew:=h.snew
  blt:=h.blt
  bown:=by
   intro r R b hp hr hd hb
   obtain⟨R',h1,h2⟩:=src hr hd
   exact h.bown r R' b hp h1 h2 hb
  bkeep:=by
   intro r R hm hp hr hd
   obtain⟨R',h1,h2⟩:=src hr hd
   exact h.bkeep r R' hm hp h1 h2
  inj:=by
   intro r r' R R' b hp hp' hr hd hr' hd' hb hb'
   obtain⟨S,h1,h2⟩:=src hr hd
   obtain⟨S',h1',h2'⟩:=src hr' hd'
   exact h.inj r r' S S' b hp hp' h1 h2 h1' h2' hb hb'
  roots:=by
   intro r R hp hr
   by_cases e:r=k
   ·subst e
    obtain rfl:=Option.some.inj ((if_pos rfl).symm.trans hr)
    exact(h.roots r _ hp hk).shr.step (Step.shr hk) hp (fun _ _=>rfl) (fun _ _ h=>h)
   ·exact(h.roots r R hp ((if_neg e).symm.trans hr)).step (Step.shr hk) hp (fun _ _=>rfl) (fun _ _ h=>h)
  glob:=h.glob}
theorem CallOk.shr{P:Program}{f:FuncId}{as0:List AV}{r0:List Root}{av:AV}{new:List Root}{B:Root}{k sz:Nat}{xs ys:List (List D)}(h:CallOk P f as0 r0 ⟨av,new,[(0,B),(k,.row sz false (xs++ys))]⟩)(hk:k≠0):
  CallOk P f as0 r0 ⟨av,new,[(0,B),(k,.row sz false xs)]⟩:=by
 intro w S β vs hM hA
 refine(h w S β vs hM hA).mono ?_
 rintro e w' ⟨v,E',rfl,rfl,ho⟩
 have hr:E'.rt k=some (.row sz false (xs++ys)):=by rw[ho.rt];show(if k=0 then _ else if k=k then _ else _)=_;rw[if_neg hk,if_pos rfl]
 refine⟨v,Xls E' k (.row sz false xs),rfl,rfl,ho.mem.shr hr,ho.step.trans (.shr hr),?_,ho.pres,ho.size,ho.rel.step (.shr hr)⟩
 funext r
 show(if r=k then _ else E'.rt r)=_
 rw[ho.rt]
 show _=(if r=0 then _ else if r=k then _ else _)
 by_cases e:r=k
 ·subst e;rw[if_pos rfl,if_neg hk,if_pos rfl]
 ·rw[if_neg e]
  show(if r=0 then _ else if r=k then _ else _)=_
  rw[if_neg e,if_neg e]
theorem Fn.shr{P:Program}{f:FuncId}{as0:List AV}{r0:List Root}{av:AV}{new:List Root}{B:Root}{k sz:Nat}{xs ys:List (List D)}(h:Fn P f as0 r0 ⟨av,new,[(0,B),(k,.row sz false (xs++ys))]⟩)(hk:k≠0:=by decide):
  Fn P f as0 r0 ⟨av,new,[(0,B),(k,.row sz false xs)]⟩:=⟨h.ent,h.ok.shr hk⟩
theorem CallOk.shr0{P:Program}{f:FuncId}{as0:List AV}{r0:List Root}{av:AV}{new:List Root}{k sz:Nat}{xs ys:List (List D)}(h:CallOk P f as0 r0 ⟨av,new,[(k,.row sz false (xs++ys))]⟩):
  CallOk P f as0 r0 ⟨av,new,[(k,.row sz false xs)]⟩:=by
 intro w S β vs hM hA
 refine(h w S β vs hM hA).mono ?_
 rintro e w' ⟨v,E',rfl,rfl,ho⟩
 have hr:E'.rt k=some (.row sz false (xs++ys)):=by rw[ho.rt];show(if k=k then _ else _)=_;rw[if_pos rfl]
 refine⟨v,Xls E' k (.row sz false xs),rfl,rfl,ho.mem.shr hr,ho.step.trans (.shr hr),?_,ho.pres,ho.size,ho.rel.step (.shr hr)⟩
 funext r
 show(if r=k then _ else E'.rt r)=_
 rw[ho.rt]
 show _=(if r=k then _ else _)
 by_cases e:r=k
 ·subst e;rw[if_pos rfl,if_pos rfl]
 ·rw[if_neg e]
  show(if r=k then _ else _)=_
  rw[if_neg e,if_neg e]
theorem Fn.shr0{P:Program}{f:FuncId}{as0:List AV}{r0:List Root}{av:AV}{new:List Root}{k sz:Nat}{xs ys:List (List D)}(h:Fn P f as0 r0 ⟨av,new,[(k,.row sz false (xs++ys))]⟩):
  Fn P f as0 r0 ⟨av,new,[(k,.row sz false xs)]⟩:=⟨h.ent,h.ok.shr0⟩
theorem AClrW.goZ{α:Type}{c:α→List D}{l:List α}{P P':Program}{t e sz off len:Nat}{xs:List (List D)}{K:List (List D)→Prop}(zc:List D){zz:List (Value×Nat)}(hP:P'=P)(hx:l.map c=xs)(hu:P.underlying t=some (.slice e))(hz:Kd P e=some zz)(hc:zc=(zz.map (·.1)).map D.sc)(hsz:sz=(zz.map (·.1)).length)(h0:0<(zz.map (·.1)).length)
  (h:∀v,(l.take off).map c++List.replicate len zc=v→K v)(hn:off+len=l.length:=by omega):AClrW P' t sz xs off len K:=by
 subst hP hx
 refine⟨e,_,_,_,hu,hz,rfl,h0,hsz,by simpa using Nat.le_of_eq hn,rfl,?_⟩
 have e1:Hp (l.map c) off len ((zz.map (·.1)).map D.sc)=(l.take off).map c++List.replicate len zc:=by
  unfold Hp
  rw[←hc,List.drop_of_length_le (by rw[List.length_map];omega),List.append_nil,List.map_take]
 rw[e1]
 exact h _ rfl
end
end Go.Proofs.YtjbmpmmffjgedaaGreatDoor.Ab
