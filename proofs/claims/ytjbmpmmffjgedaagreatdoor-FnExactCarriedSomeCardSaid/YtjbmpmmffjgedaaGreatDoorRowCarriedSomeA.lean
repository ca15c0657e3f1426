/- For all arguments, the law FnExactCarriedSome answers true, the listed package-level variables holding what the program's text lays: the tied card of the given statement FnExactCarriedSomeCardSaid. Conditions: none beyond the given statement. -/
import Derived.Test.YtjbmpmmffjgedaaGreatDoorRows
import Derived.Test.YtjbmpmmffjgedaaGreatDoorCards
import Derived.Test.YtjbmpmmffjgedaaGreatDoorTie
import Derived.Test.YtjbmpmmffjgedaaGreatDoorCschQ
import Derived.KernelRfl
import Derived.ProofKit
import Derived.LaidMore
import Derived.LaidLaws
import Derived.MakeChecks
import Derived.SevenTiedAt
import Derived.Lib.LaidTab
set_option linter.unusedVariables false
set_option linter.unusedSimpArgs false
namespace Go.Proofs.YtjbmpmmffjgedaaGreatDoor.Ab
open Go Go.Proofs
theorem U0{H:Type}{enc:TypeId×Value→H}{P:Program}{W:World}{base:Nat}{sp:Nat→Bool}{fuel t:Nat}{ms:Array (String×TypeId)}{cs:List Value}{n:String}{d:DataW H}{p:List MemPlace}(ht:P.underlying t=some (.interface ms))(h:DataW.trod enc P W base sp false fuel t cs=some (.iface n d,p)):∃u v,cs=[.iface u v]:=by
 cases fuel with
 |zero=>cases h
 |succ k=>
  unfold DataW.trod at h
  rw[ht]at h
  match cs,h with
  |[.iface u v],_=>exact⟨u,v,rfl⟩
  |[.nilIface],h=>cases h
theorem XbF{P:Program}{W:World}{g:Nat}{nm:String}{cs:Array Value}(hg:P.globalNamed nm=some g)(hv:W.var? P nm=some cs)(h:∃u v,cs.toList=[.iface u v]):g<W.heap.size∧Io W g:=by
 unfold World.var? at hv
 rw[hg,Option.bind_some]at hv
 obtain⟨u,v,e⟩:=h
 have e2:cs[0]? =some (.iface u v):=by rw[←Array.getElem?_toList,e];rfl
 split at hv
 ·rename_i cs' t fr hh
  obtain rfl:=Option.some.inj hv
  refine⟨?_,.iface u v,?_,.inr ⟨u,v,rfl⟩⟩
  ·exact(Array.getElem?_eq_some_iff.1 hh).1
  ·unfold World.cell?
   simp only[hh]
   simpa using e2
 ·cases hv
theorem Xl1{xs:List D}(h:ShD Tryz.prog 181 xs):∃w:Bg,xs=Bi w∧XeA w∧Xhj w:=by
 replace h:=h.inv_st Tryz.underlying181
 obtain _|⟨h0,h⟩:=h
 obtain _|⟨h1,h⟩:=h
 obtain _|⟨h2,h⟩:=h
 obtain _|_:=h
 obtain⟨v0,rfl,w0⟩:=h0.inv_int Tryz.underlying3
 obtain⟨v1,rfl,k1⟩:=h1.inv_str Tryz.underlying9
 obtain⟨v2,rfl,w2⟩:=h2.inv_int Tryz.underlying3
 exact⟨⟨v0,v1,v2⟩,rfl,Nat.lt_of_le_of_lt k1 O1,⟨Xi w0,Xi w2⟩⟩
theorem inv57{xs:List D}(h:ShD Tryz.prog 57 xs):∃a:List Bg,xs=[.row 3 (a.map Bi)]∧Xaj a∧Xht a:=by
 obtain⟨ys,rfl,hl,hx⟩:=h.inv_sl Tryz.underlying57
 obtain⟨zs,rfl,hl',hp⟩:=Zj (c:=Bi) (p:=fun x:Bg=>(XeA x)∧(Xhj x)) (ys:=ys) (fun x hxm=>by
  obtain⟨w,rfl,hs,hs2⟩:=Xl1 (hx x hxm)
  exact⟨w,rfl,hs,hs2⟩)
 have:=O1
 rw[show Tryz.prog.bytesOf 181=32 by kernel_rfl]at hl
 rw[List.length_map]at hl
 exact⟨zs,by rw[show Tryz.prog.cellsOf 181=3 by kernel_rfl],⟨by omega,fun x hx=>(hp x hx).1⟩,fun x hx=>(hp x hx).2⟩
theorem Xl2{xs:List D}(h:ShD Tryz.prog 183 xs):∃w:Ad,xs=Ac w∧Xat w∧XcD w:=by
 replace h:=h.inv_st Tryz.underlying183
 obtain _|⟨h0,h⟩:=h
 obtain _|⟨h1,h⟩:=h
 obtain _|_:=h
 obtain⟨v0,rfl,k0⟩:=h0.inv_str Tryz.underlying9
 obtain⟨v1,rfl,w1⟩:=h1.inv_int Tryz.underlying3
 exact⟨⟨v0,v1⟩,rfl,Nat.lt_of_le_of_lt k0 O1,Xi w1⟩
theorem XlF{xs:List D}(h:ShD Tryz.prog 58 xs):∃a:List Ad,xs=[.row 2 (a.map Ac)]∧O2 a∧Y8 a:=by
 obtain⟨ys,rfl,hl,hx⟩:=h.inv_sl Tryz.underlying58
 obtain⟨zs,rfl,hl',hp⟩:=Zj (c:=Ac) (p:=fun x:Ad=>(Xat x)∧(XcD x)) (ys:=ys) (fun x hxm=>by
  obtain⟨w,rfl,hs,hs2⟩:=Xl2 (hx x hxm)
  exact⟨w,rfl,hs,hs2⟩)
 have:=O1
 rw[show Tryz.prog.bytesOf 183=24 by kernel_rfl]at hl
 rw[List.length_map]at hl
 exact⟨zs,by rw[show Tryz.prog.cellsOf 183=2 by kernel_rfl],⟨by omega,fun x hx=>(hp x hx).1⟩,fun x hx=>(hp x hx).2⟩
theorem inv26{xs:List D}(h:ShD Tryz.prog 26 xs):∃a:List ByteArray,xs=[.row 1 (a.map cS)]∧Qx a∧True:=by
 obtain⟨ys,rfl,hl,hx⟩:=h.inv_sl Tryz.underlying26
 obtain⟨zs,rfl,hl',hp⟩:=Zj (c:=cS) (p:=fun x:ByteArray=>(x.size<2^47)∧(True)) (ys:=ys) (fun x hxm=>by
  obtain⟨s,rfl,hs⟩:=(hx x hxm).inv_str Tryz.underlying9
  exact⟨s,rfl,Nat.lt_of_le_of_lt hs O1,trivial⟩)
 have:=O1
 rw[show Tryz.prog.bytesOf 9=16 by kernel_rfl]at hl
 rw[List.length_map]at hl
 exact⟨zs,by rw[show Tryz.prog.cellsOf 9=1 by kernel_rfl],⟨by omega,fun x hx=>(hp x hx).1⟩,trivial⟩
theorem inv60{xs:List D}(h:ShD Tryz.prog 60 xs):∃w:Aa,xs=Xlo w∧Xej w∧XjZ w:=by
 replace h:=h.inv_st Tryz.underlying60
 obtain _|⟨h0,h⟩:=h
 obtain _|⟨h1,h⟩:=h
 obtain _|⟨h2,h⟩:=h
 obtain _|⟨h3,h⟩:=h
 obtain _|⟨h4,h⟩:=h
 obtain _|⟨h5,h⟩:=h
 obtain _|_:=h
 obtain⟨v0,rfl,k0,w0⟩:=inv57 h0
 obtain⟨v1,rfl,k1,w1⟩:=XlF h1
 obtain⟨v2,rfl,k2,w2⟩:=XlF h2
 obtain⟨v3,rfl,k3,w3⟩:=inv26 h3
 obtain⟨v4,rfl,w4⟩:=h4.inv_int Tryz.underlying3
 obtain⟨v5,rfl,w5⟩:=h5.inv_int Tryz.underlying3
 exact⟨⟨v0,v1,v2,v3,v4,v5⟩,rfl,⟨k0,k1,k2,k3⟩,⟨w0,w1,w2,Xi w4,Xi w5⟩⟩
theorem Uu:∀yss,ShAll Tryz.prog Tryz.f6.params.toList yss→CallOk Tryz.prog 6 (L0 Tryz.prog Tryz.f6.params.toList yss) [] ⟨.d (.sc (.bool true)),[],[]⟩:=by
 rw[Tryz.params6]
 intro yss h
 obtain _|⟨h0,h⟩:=h
 obtain _|⟨h1,h⟩:=h
 obtain _|_:=h
 obtain⟨w0,rfl,ok_aD,wf_aD⟩:=inv60 h0
 obtain⟨aD_nodes,aD_entries,aD_old,aD_steps,aD_room,aD_next⟩:=w0
 obtain⟨aMany,rfl,wf_aMany'⟩:=h1.inv_int Tryz.underlying3
 have wf_aMany:=Xi wf_aMany'
 have e:L0 Tryz.prog [60,3] [(Xlo ⟨aD_nodes,aD_entries,aD_old,aD_steps,aD_room,aD_next⟩),[.sc (.int .i64 aMany)]]=[.agg [.d (.row 3 (aD_nodes.map Bi)),.d (.row 2 (aD_entries.map Ac)),.d (.row 2 (aD_old.map Ac)),.d (.row 1 (aD_steps.map cS)),.d (.sc (.int .i64 aD_room)),.d (.sc (.int .i64 aD_next))],.d (.sc (.int .i64 aMany))]:=by
  simp only[L0,Xdo,Tryz.underlying3,Tryz.underlying60]
  try rfl
 show CallOk Tryz.prog 6 (L0 Tryz.prog [60,3] _) [] _
 rw[e]
 exact T6 rfl rfl rfl rfl ok_aD wf_aD wf_aMany
end Go.Proofs.YtjbmpmmffjgedaaGreatDoor.Ab
namespace Go.Proofs.YtjbmpmmffjgedaaGreatDoor.fnExactCarriedSome
open Go.ChangeShapes Go.WideShapes Go.ChangeAt Go.RowKit
open Go.Proofs.YtjbmpmmffjgedaaGreatDoor.Ab
theorem own:ownKnob Tryz.prog.godebug=none:=by kernel_rfl
theorem XhI:laidOutB Tryz.prog=true:=by kernel_rfl
theorem XiP(os:Os)(args:Array Value):laidMetH Tryz.prog Rows.fnExactCarriedSomeRow.laid ((World.doorLaid Tryz.prog 62 os).forCall (fun _ _=>0) ⟨#[],args,[]⟩).memory:=
 laidMetH_of_parts3 (fuel:=8) (laidMet_of_run' 8 (by kernel_rfl) (by kernel_rfl)) (by kernel_rfl) (by kernel_rfl)
set_option maxRecDepth 100000 in
theorem met{W:World}(h:laidMetH Tryz.prog Rows.fnExactCarriedSomeRow.laid W):Globs.ok W fun b=>b<W.heap.size:=by
 rw[MakeChecks.laidMetH_plain _ _ _ (by kernel_rfl)]at h
 obtain⟨ps,⟨g0,t0,cs0,f0,p0,q0,hg0,ht0,hv0,hd0,⟨g1,t1,cs1,f1,p1,q1,hg1,ht1,hv1,hd1,⟨g2,t2,cs2,f2,p2,q2,hg2,ht2,hv2,hd2,⟨g3,t3,cs3,f3,p3,q3,hg3,ht3,hv3,hd3,⟨g4,t4,cs4,f4,p4,q4,hg4,ht4,hv4,hd4,_,_⟩,_⟩,_⟩,_⟩,_⟩,_⟩:=h
 obtain rfl:=Option.some.inj (gn4.symm.trans hg0)
 obtain rfl:=Option.some.inj ((show(Tryz.prog.globals[4]?).map (·.type)=some 287 by kernel_rfl).symm.trans ht0)
 have c0:=Lib.cells_of_tab (k:=.u8) (zs:=XbQ) Tryz.underlying287 Tryz.underlying5 (by kernel_rfl) (by kernel_rfl) (show DataW.trod _ Tryz.prog W 0 _ false f0 287 cs0.toList=some (Lib.tabData .u8 XbQ,p0)from hd0)
 have s0:4<W.heap.size:=by
  unfold World.var? at hv0
  rw[gn4,Option.bind_some]at hv0
  rcases Nat.lt_or_ge 4 W.heap.size with hl|hl
  ·exact hl
  ·rw[Array.getElem?_eq_none hl]at hv0
   cases hv0
 have m0:Lib.TabIs Tryz.prog W "math/bits.deBruijn32tab" .u8 XbQ:=by
  unfold Lib.TabIs
  rw[hv0,←c0]
 obtain rfl:=Option.some.inj (gn5.symm.trans hg1)
 obtain rfl:=Option.some.inj ((show(Tryz.prog.globals[5]?).map (·.type)=some 288 by kernel_rfl).symm.trans ht1)
 have c1:=Lib.cells_of_tab (k:=.u8) (zs:=Th) Tryz.underlying288 Tryz.underlying5 (by kernel_rfl) (by kernel_rfl) (show DataW.trod _ Tryz.prog W 0 _ false f1 288 cs1.toList=some (Lib.tabData .u8 Th,p1)from hd1)
 have s1:5<W.heap.size:=by
  unfold World.var? at hv1
  rw[gn5,Option.bind_some]at hv1
  rcases Nat.lt_or_ge 5 W.heap.size with hl|hl
  ·exact hl
  ·rw[Array.getElem?_eq_none hl]at hv1
   cases hv1
 have m1:Lib.TabIs Tryz.prog W "math/bits.deBruijn64tab" .u8 Th:=by
  unfold Lib.TabIs
  rw[hv1,←c1]
 obtain rfl:=Option.some.inj (gn2.symm.trans hg2)
 obtain rfl:=Option.some.inj ((show(Tryz.prog.globals[2]?).map (·.type)=some 274 by kernel_rfl).symm.trans ht2)
 have c2:=Lib.cells_of_tab (k:=.u64) (zs:=Xp) Tryz.underlying274 Tryz.underlying205 (by kernel_rfl) (by kernel_rfl) (show DataW.trod _ Tryz.prog W 0 _ false f2 274 cs2.toList=some (Lib.tabData .u64 Xp,p2)from hd2)
 have s2:2<W.heap.size:=by
  unfold World.var? at hv2
  rw[gn2,Option.bind_some]at hv2
  rcases Nat.lt_or_ge 2 W.heap.size with hl|hl
  ·exact hl
  ·rw[Array.getElem?_eq_none hl]at hv2
   cases hv2
 have m2:Lib.TabIs Tryz.prog W "internal/strconv.uint64pow10" .u64 Xp:=by
  unfold Lib.TabIs
  rw[hv2,←c2]
 obtain rfl:=Option.some.inj ((show Tryz.prog.globalNamed "strconv.ErrRange"=some 1 by kernel_rfl).symm.trans hg3)
 obtain rfl:=Option.some.inj ((show(Tryz.prog.globals[1]?).map (·.type)=some 207 by kernel_rfl).symm.trans ht3)
 have c3:=U0 Tryz.underlying207 (show DataW.trod _ Tryz.prog W 0 _ false f3 207 cs3.toList=some (.iface _ _,p3)from hd3)
 have m3:1<W.heap.size∧Io W 1:=XbF (show Tryz.prog.globalNamed "strconv.ErrRange"=some 1 by kernel_rfl) hv3 c3
 obtain rfl:=Option.some.inj ((show Tryz.prog.globalNamed "strconv.ErrSyntax"=some 0 by kernel_rfl).symm.trans hg4)
 obtain rfl:=Option.some.inj ((show(Tryz.prog.globals[0]?).map (·.type)=some 207 by kernel_rfl).symm.trans ht4)
 have c4:=U0 Tryz.underlying207 (show DataW.trod _ Tryz.prog W 0 _ false f4 207 cs4.toList=some (.iface _ _,p4)from hd4)
 have m4:0<W.heap.size∧Io W 0:=XbF (show Tryz.prog.globalNamed "strconv.ErrSyntax"=some 0 by kernel_rfl) hv4 c4
 exact(show(4<W.heap.size∧Lib.TabIs Tryz.prog W "math/bits.deBruijn32tab" .u8 XbQ)∧(5<W.heap.size∧Lib.TabIs Tryz.prog W "math/bits.deBruijn64tab" .u8 Th)∧(2<W.heap.size∧Lib.TabIs Tryz.prog W "internal/strconv.uint64pow10" .u64 Xp)∧(1<W.heap.size∧Io W 1)∧(0<W.heap.size∧Io W 0)from⟨⟨s0,m0⟩,⟨s1,m1⟩,⟨s2,m2⟩,m3,m4⟩)
set_option maxRecDepth 100000 in
theorem lifted(os:Os)(started:os.Started)(H:Type)(enc:TypeId×Value→H):
  ReturnsInHanded {} Tryz.checked os 6 .any (fun w args=>(Rows.fnExactCarriedSomeSpec.pre enc Tryz.prog Tryz.f6 [] false w args∧laidMetH Tryz.prog Rows.fnExactCarriedSomeRow.laid w)∧sizedMet enc Tryz.prog Tryz.f6 (OpenSpec.ofChange Rows.fnExactCarriedSomeSpec) false w args)
   (Rows.fnExactCarriedSomeSpec.post enc Tryz.prog Tryz.f6 false true false false):=by
 refine returnsInHanded_of_change_and (C:=Tryz.checked) (X:=fun w _=>laidMetH Tryz.prog Rows.fnExactCarriedSomeRow.laid w) (fun _ _ _ hh h=>h.of_heap hh) own started (by kernel_rfl) Tryz.func6
  (ChangeSpec.witness_shaped (enc:=enc) (C:=Tryz.checked) (os:=os) (X:=fun w _=>laidMetH Tryz.prog Rows.fnExactCarriedSomeRow.laid w) false (World.doorLaid Tryz.prog 62 os) #[.agg #[.slice none 0 0,.slice none 0 0,.slice none 0 0,.slice none 0 0,.int .i64 0,.int .i64 0],.int .i64 0] 8 rfl (World.shaped_of_RefB (by kernel_rfl) (by kernel_rfl)) (by kernel_rfl) (by kernel_rfl) (by kernel_rfl) (XiP os _)) ?_
 intro W base args ds gs before hval0 hW hcnd hsz0 hL _
 have hsz:(DataW.weightsEach Tryz.prog (Tryz.f6.params.toList++[]) (ds++gs)).all (·≤reachBytes)=true:=hsz0
 have hval:∀(j:Nat) t v,Tryz.f6.params[j]? =some t→args[j]? =some v→Value.okWide Tryz.prog W .any base t v:=hval0
 have hW':=hW
 obtain⟨p,q,hA0,hV,rfl,hfz,hnd⟩:=hW
 have hA:DataW.TrodAll enc Tryz.prog W 0 (fun _=>true) true Tryz.f6.params.toList args.toList ds p:=hA0
 obtain⟨rfl,rfl⟩:=trodVars_none hV
 have hw:∀m∈DataW.weightsEach Tryz.prog Tryz.f6.params.toList ds,m≤reachBytes:=by
  intro m hm
  have:=List.all_eq_true.1 hsz m (by simpa using hm)
  simpa using this
 have run:=XhZ (g:=9) (ts:=Tryz.f6.params.toList) (by kernel_rfl) Uu (fun j t v h1 h2=>hval j t v (by simpa using h1) (by simpa using h2)) hA hw (met hL)
 rw[Tryz.params6]at hA
 obtain⟨v0,vs0,d0,ds0,p0,q0,h0l,rfl,rfl,k0,r0⟩:=trodAll_cons hA
 have lt0:∀x∈p0,x.block<W.heap.size:=by obtain⟨m,hm⟩:=k0;exact DataW.trod_lt m _ _ _ hm
 obtain⟨v1,vs1,d1,ds1,p1,q1,h1l,rfl,rfl,k1,r1⟩:=trodAll_cons r0
 have lt1:∀x∈p1,x.block<W.heap.size:=by obtain⟨m,hm⟩:=k1;exact DataW.trod_lt m _ _ _ hm
 subst h1l
 obtain⟨rfl,rfl,rfl⟩:=trodAll_nil r1
 obtain rfl:args= #[v0,v1]:=by cases args;simp_all
 refine run.mono fun e W' ⟨he,bel⟩=>?_
 subst he
 exact⟨_,rfl,_,_,_,[],_,[],hW',trodAll_mk1 (shut_bool Tryz.underlying4 _),(trodAll_cons_mk (Below.trod XhI (by kernel_rfl) (of_decide_eq_true (by kernel_rfl)) k0 bel lt0) (trodAll_cons_mk (Below.trod XhI (by kernel_rfl) (of_decide_eq_true (by kernel_rfl)) k1 bel lt1) trodAll_mk0)),rfl,bel.frame _,fun h=>by cases h⟩
end Go.Proofs.YtjbmpmmffjgedaaGreatDoor.fnExactCarriedSome
