/- For all arguments, the law FnExactFullRow answers true, the listed package-level variables holding what the program's text lays: the tied card of the given statement FnExactFullRowCardSaid. Conditions: none beyond the given statement. -/
import Derived.Test.YtgdmjbcllgmepaaGreatDoorRows
import Derived.Test.YtgdmjbcllgmepaaGreatDoorCards
import Derived.Test.YtgdmjbcllgmepaaGreatDoorTie
import Derived.Test.YtgdmjbcllgmepaaGreatDoorFrlFullRow
import Derived.KernelRfl
import Derived.ProofKit
import Derived.LaidMore
import Derived.LaidLaws
import Derived.MakeChecks
import Derived.SevenTiedAt
import Derived.Lib.LaidTab
set_option linter.unusedVariables false
set_option linter.unusedSimpArgs false
namespace Go.Proofs.YtgdmjbcllgmepaaGreatDoor.Ab
open Go Go.Proofs
theorem Tc{H:Type}{enc:TypeId×Value→H}{P:Program}{W:World}{base:Nat}{sp:Nat→Bool}{fuel t:Nat}{ms:Array (String×TypeId)}{cs:List Value}{n:String}{d:DataW H}{p:List MemPlace}(ht:P.underlying t=some (.interface ms))(h:DataW.trod enc P W base sp false fuel t cs=some (.iface n d,p)):∃u v,cs=[.iface u v]:=by
 cases fuel with
 |zero=>cases h
 |succ k=>
  unfold DataW.trod at h
  rw[ht]at h
  match cs,h with
  |[.iface u v],_=>exact⟨u,v,rfl⟩
  |[.nilIface],h=>cases h
theorem Zv{P:Program}{W:World}{g:Nat}{nm:String}{cs:Array Value}(hg:P.globalNamed nm=some g)(hv:W.var? P nm=some cs)(h:∃u v,cs.toList=[.iface u v]):g<W.heap.size∧Hr W g:=by
 unfold World.var? at hv
 rw[hg,Option.bind_some]at hv
 obtain⟨u,v,e⟩:=h
 have e2:cs[0]? =some (.iface u v):=by rw[←Array.getElem?_toList,e];rfl
 split at hv
 ·rename_i cs' t fr hh
  obtain rfl:=Option.some.inj hv
  refine⟨?_,.iface u v,?_,.inr ⟨u,v,rfl⟩⟩
  ·exact(Array.getElem?_eq_some_iff.1 hh).1
  ·unfold World.cell?
   simp only[hh]
   simpa using e2
 ·cases hv
theorem inv26{xs:List D}(h:ShD Tryz.prog 26 xs):∃a:List ByteArray,xs=[.row 1 (a.map cS)]∧Tx a∧True:=by
 obtain⟨ys,rfl,hl,hx⟩:=h.inv_sl Tryz.underlying26
 obtain⟨zs,rfl,hl',hp⟩:=XeM (c:=cS) (p:=fun x:ByteArray=>(x.size<2^47)∧(True)) (ys:=ys) (fun x hxm=>by
  obtain⟨s,rfl,hs⟩:=(hx x hxm).inv_str Tryz.underlying9
  exact⟨s,rfl,Nat.lt_of_le_of_lt hs XcM,trivial⟩)
 have:=XcM
 rw[show Tryz.prog.bytesOf 9=16 by kernel_rfl]at hl
 rw[List.length_map]at hl
 exact⟨zs,by rw[show Tryz.prog.cellsOf 9=1 by kernel_rfl],⟨by omega,fun x hx=>(hp x hx).1⟩,trivial⟩
theorem Xb6:∀yss,ShAll Tryz.prog Tryz.f8.params.toList yss→CallOk Tryz.prog 8 (Ko Tryz.prog Tryz.f8.params.toList yss) [] ⟨.d (.sc (.bool true)),[],[]⟩:=by
 rw[Tryz.params8]
 intro yss h
 obtain _|⟨h0,h⟩:=h
 obtain _|⟨h1,h⟩:=h
 obtain _|⟨h2,h⟩:=h
 obtain _|⟨h3,h⟩:=h
 obtain _|⟨h4,h⟩:=h
 obtain _|_:=h
 obtain⟨aRoom,rfl,wf_aRoom'⟩:=h0.inv_int Tryz.underlying3
 have wf_aRoom:=XcH wf_aRoom'
 obtain⟨aVersion,rfl,wf_aVersion'⟩:=h1.inv_int Tryz.underlying3
 have wf_aVersion:=XcH wf_aVersion'
 obtain⟨aStride,rfl,wf_aStride'⟩:=h2.inv_int Tryz.underlying3
 have wf_aStride:=XcH wf_aStride'
 obtain⟨aRoll,rfl,wf_aRoll'⟩:=h3.inv_int Tryz.underlying3
 have wf_aRoll:=XcH wf_aRoll'
 obtain⟨aRecords,rfl,ok_aRecords,wf_aRecords⟩:=inv26 h4
 have e:Ko Tryz.prog [3,3,3,3,26] [[.sc (.int .i64 aRoom)],[.sc (.int .i64 aVersion)],[.sc (.int .i64 aStride)],[.sc (.int .i64 aRoll)],[.row 1 (aRecords.map cS)]]=[.d (.sc (.int .i64 aRoom)),.d (.sc (.int .i64 aVersion)),.d (.sc (.int .i64 aStride)),.d (.sc (.int .i64 aRoll)),.d (.row 1 (aRecords.map cS))]:=by
  simp only[Ko,XbD,Tryz.underlying26,Tryz.underlying3]
  try rfl
 show CallOk Tryz.prog 8 (Ko Tryz.prog [3,3,3,3,26] _) [] _
 rw[e]
 exact T8 rfl wf_aRoom wf_aVersion wf_aStride wf_aRoll ok_aRecords
end Go.Proofs.YtgdmjbcllgmepaaGreatDoor.Ab
namespace Go.Proofs.YtgdmjbcllgmepaaGreatDoor.fnExactFullRow
open Go.ChangeShapes Go.WideShapes Go.ChangeAt Go.RowKit
open Go.Proofs.YtgdmjbcllgmepaaGreatDoor.Ab
theorem own:ownKnob Tryz.prog.godebug=none:=by kernel_rfl
theorem Sr:laidOutB Tryz.prog=true:=by kernel_rfl
theorem Xhd(os:Os)(args:Array Value):laidMetH Tryz.prog Rows.fnExactFullRowRow.laid ((World.doorLaid Tryz.prog 62 os).forCall (fun _ _=>0) ⟨#[],args,[]⟩).memory:=
 laidMetH_of_parts3 (fuel:=8) (laidMet_of_run' 8 (by kernel_rfl) (by kernel_rfl)) (by kernel_rfl) (by kernel_rfl)
set_option maxRecDepth 100000 in
theorem met{W:World}(h:laidMetH Tryz.prog Rows.fnExactFullRowRow.laid W):Globs.ok W fun b=>b<W.heap.size:=by
 rw[MakeChecks.laidMetH_plain _ _ _ (by kernel_rfl)]at h
 obtain⟨ps,⟨g0,t0,cs0,f0,p0,q0,hg0,ht0,hv0,hd0,⟨g1,t1,cs1,f1,p1,q1,hg1,ht1,hv1,hd1,⟨g2,t2,cs2,f2,p2,q2,hg2,ht2,hv2,hd2,⟨g3,t3,cs3,f3,p3,q3,hg3,ht3,hv3,hd3,⟨g4,t4,cs4,f4,p4,q4,hg4,ht4,hv4,hd4,_,_⟩,_⟩,_⟩,_⟩,_⟩,_⟩:=h
 obtain rfl:=Option.some.inj (gn4.symm.trans hg0)
 obtain rfl:=Option.some.inj ((show(Tryz.prog.globals[4]?).map (·.type)=some 295 by kernel_rfl).symm.trans ht0)
 have c0:=Lib.cells_of_tab (k:=.u8) (zs:=Zj) Tryz.underlying295 Tryz.underlying5 (by kernel_rfl) (by kernel_rfl) (show DataW.trod _ Tryz.prog W 0 _ false f0 295 cs0.toList=some (Lib.tabData .u8 Zj,p0)from hd0)
 have s0:4<W.heap.size:=by
  unfold World.var? at hv0
  rw[gn4,Option.bind_some]at hv0
  rcases Nat.lt_or_ge 4 W.heap.size with hl|hl
  ·exact hl
  ·rw[Array.getElem?_eq_none hl]at hv0
   cases hv0
 have m0:Lib.TabIs Tryz.prog W "math/bits.deBruijn32tab" .u8 Zj:=by
  unfold Lib.TabIs
  rw[hv0,←c0]
 obtain rfl:=Option.some.inj (gn5.symm.trans hg1)
 obtain rfl:=Option.some.inj ((show(Tryz.prog.globals[5]?).map (·.type)=some 296 by kernel_rfl).symm.trans ht1)
 have c1:=Lib.cells_of_tab (k:=.u8) (zs:=Q9) Tryz.underlying296 Tryz.underlying5 (by kernel_rfl) (by kernel_rfl) (show DataW.trod _ Tryz.prog W 0 _ false f1 296 cs1.toList=some (Lib.tabData .u8 Q9,p1)from hd1)
 have s1:5<W.heap.size:=by
  unfold World.var? at hv1
  rw[gn5,Option.bind_some]at hv1
  rcases Nat.lt_or_ge 5 W.heap.size with hl|hl
  ·exact hl
  ·rw[Array.getElem?_eq_none hl]at hv1
   cases hv1
 have m1:Lib.TabIs Tryz.prog W "math/bits.deBruijn64tab" .u8 Q9:=by
  unfold Lib.TabIs
  rw[hv1,←c1]
 obtain rfl:=Option.some.inj (gn1.symm.trans hg2)
 obtain rfl:=Option.some.inj ((show(Tryz.prog.globals[1]?).map (·.type)=some 282 by kernel_rfl).symm.trans ht2)
 have c2:=Lib.cells_of_tab (k:=.u64) (zs:=Wo) Tryz.underlying282 Tryz.underlying228 (by kernel_rfl) (by kernel_rfl) (show DataW.trod _ Tryz.prog W 0 _ false f2 282 cs2.toList=some (Lib.tabData .u64 Wo,p2)from hd2)
 have s2:1<W.heap.size:=by
  unfold World.var? at hv2
  rw[gn1,Option.bind_some]at hv2
  rcases Nat.lt_or_ge 1 W.heap.size with hl|hl
  ·exact hl
  ·rw[Array.getElem?_eq_none hl]at hv2
   cases hv2
 have m2:Lib.TabIs Tryz.prog W "internal/strconv.uint64pow10" .u64 Wo:=by
  unfold Lib.TabIs
  rw[hv2,←c2]
 obtain rfl:=Option.some.inj ((show Tryz.prog.globalNamed "strconv.ErrRange"=some 3 by kernel_rfl).symm.trans hg3)
 obtain rfl:=Option.some.inj ((show(Tryz.prog.globals[3]?).map (·.type)=some 221 by kernel_rfl).symm.trans ht3)
 have c3:=Tc Tryz.underlying221 (show DataW.trod _ Tryz.prog W 0 _ false f3 221 cs3.toList=some (.iface _ _,p3)from hd3)
 have m3:3<W.heap.size∧Hr W 3:=Zv (show Tryz.prog.globalNamed "strconv.ErrRange"=some 3 by kernel_rfl) hv3 c3
 obtain rfl:=Option.some.inj ((show Tryz.prog.globalNamed "strconv.ErrSyntax"=some 2 by kernel_rfl).symm.trans hg4)
 obtain rfl:=Option.some.inj ((show(Tryz.prog.globals[2]?).map (·.type)=some 221 by kernel_rfl).symm.trans ht4)
 have c4:=Tc Tryz.underlying221 (show DataW.trod _ Tryz.prog W 0 _ false f4 221 cs4.toList=some (.iface _ _,p4)from hd4)
 have m4:2<W.heap.size∧Hr W 2:=Zv (show Tryz.prog.globalNamed "strconv.ErrSyntax"=some 2 by kernel_rfl) hv4 c4
 exact(show(4<W.heap.size∧Lib.TabIs Tryz.prog W "math/bits.deBruijn32tab" .u8 Zj)∧(5<W.heap.size∧Lib.TabIs Tryz.prog W "math/bits.deBruijn64tab" .u8 Q9)∧(1<W.heap.size∧Lib.TabIs Tryz.prog W "internal/strconv.uint64pow10" .u64 Wo)∧(3<W.heap.size∧Hr W 3)∧(2<W.heap.size∧Hr W 2)from⟨⟨s0,m0⟩,⟨s1,m1⟩,⟨s2,m2⟩,m3,m4⟩)
set_option maxRecDepth 100000 in
theorem lifted(os:Os)(started:os.Started)(H:Type)(enc:TypeId×Value→H):
  ReturnsInHanded {} Tryz.checked os 8 .any (fun w args=>(Rows.fnExactFullRowSpec.pre enc Tryz.prog Tryz.f8 [] false w args∧laidMetH Tryz.prog Rows.fnExactFullRowRow.laid w)∧sizedMet enc Tryz.prog Tryz.f8 (OpenSpec.ofChange Rows.fnExactFullRowSpec) false w args)
   (Rows.fnExactFullRowSpec.post enc Tryz.prog Tryz.f8 false true false false):=by
 refine returnsInHanded_of_change_and (C:=Tryz.checked) (X:=fun w _=>laidMetH Tryz.prog Rows.fnExactFullRowRow.laid w) (fun _ _ _ hh h=>h.of_heap hh) own started (by kernel_rfl) Tryz.func8
  (ChangeSpec.witness_shaped (enc:=enc) (C:=Tryz.checked) (os:=os) (X:=fun w _=>laidMetH Tryz.prog Rows.fnExactFullRowRow.laid w) false (World.doorLaid Tryz.prog 62 os) #[.int .i64 0,.int .i64 0,.int .i64 0,.int .i64 0,.slice none 0 0] 8 rfl (World.shaped_of_RefB (by kernel_rfl) (by kernel_rfl)) (by kernel_rfl) (by kernel_rfl) (by kernel_rfl) (Xhd os _)) ?_
 intro W base args ds gs before hval0 hW hcnd hsz0 hL _
 have hsz:(DataW.weightsEach Tryz.prog (Tryz.f8.params.toList++[]) (ds++gs)).all (·≤reachBytes)=true:=hsz0
 have hval:∀(j:Nat) t v,Tryz.f8.params[j]? =some t→args[j]? =some v→Value.okWide Tryz.prog W .any base t v:=hval0
 have hW':=hW
 obtain⟨p,q,hA0,hV,rfl,hfz,hnd⟩:=hW
 have hA:DataW.TrodAll enc Tryz.prog W 0 (fun _=>true) true Tryz.f8.params.toList args.toList ds p:=hA0
 obtain⟨rfl,rfl⟩:=trodVars_none hV
 have hw:∀m∈DataW.weightsEach Tryz.prog Tryz.f8.params.toList ds,m≤reachBytes:=by
  intro m hm
  have:=List.all_eq_true.1 hsz m (by simpa using hm)
  simpa using this
 have run:=Xge (g:=9) (ts:=Tryz.f8.params.toList) (by kernel_rfl) Xb6 (fun j t v h1 h2=>hval j t v (by simpa using h1) (by simpa using h2)) hA hw (met hL)
 rw[Tryz.params8]at hA
 obtain⟨v0,vs0,d0,ds0,p0,q0,h0l,rfl,rfl,k0,r0⟩:=trodAll_cons hA
 have lt0:∀x∈p0,x.block<W.heap.size:=by obtain⟨m,hm⟩:=k0;exact DataW.trod_lt m _ _ _ hm
 obtain⟨v1,vs1,d1,ds1,p1,q1,h1l,rfl,rfl,k1,r1⟩:=trodAll_cons r0
 have lt1:∀x∈p1,x.block<W.heap.size:=by obtain⟨m,hm⟩:=k1;exact DataW.trod_lt m _ _ _ hm
 subst h1l
 obtain⟨v2,vs2,d2,ds2,p2,q2,h2l,rfl,rfl,k2,r2⟩:=trodAll_cons r1
 have lt2:∀x∈p2,x.block<W.heap.size:=by obtain⟨m,hm⟩:=k2;exact DataW.trod_lt m _ _ _ hm
 subst h2l
 obtain⟨v3,vs3,d3,ds3,p3,q3,h3l,rfl,rfl,k3,r3⟩:=trodAll_cons r2
 have lt3:∀x∈p3,x.block<W.heap.size:=by obtain⟨m,hm⟩:=k3;exact DataW.trod_lt m _ _ _ hm
 subst h3l
 obtain⟨v4,vs4,d4,ds4,p4,q4,h4l,rfl,rfl,k4,r4⟩:=trodAll_cons r3
 have lt4:∀x∈p4,x.block<W.heap.size:=by obtain⟨m,hm⟩:=k4;exact DataW.trod_lt m _ _ _ hm
 subst h4l
 obtain⟨rfl,rfl,rfl⟩:=trodAll_nil r4
 obtain rfl:args= #[v0,v1,v2,v3,v4]:=by cases args;simp_all
 refine run.mono fun e W' ⟨he,bel⟩=>?_
 subst he
 exact⟨_,rfl,_,_,_,[],_,[],hW',trodAll_mk1 (shut_bool Tryz.underlying4 _),(trodAll_cons_mk (Below.trod Sr (by kernel_rfl) (of_decide_eq_true (by kernel_rfl)) k0 bel lt0) (trodAll_cons_mk (Below.trod Sr (by kernel_rfl) (of_decide_eq_true (by kernel_rfl)) k1 bel lt1) (trodAll_cons_mk (Below.trod Sr (by kernel_rfl) (of_decide_eq_true (by kernel_rfl)) k2 bel lt2) (trodAll_cons_mk (Below.trod Sr (by kernel_rfl) (of_decide_eq_true (by kernel_rfl)) k3 bel lt3) (trodAll_cons_mk (Below.trod Sr (by kernel_rfl) (of_decide_eq_true (by kernel_rfl)) k4 bel lt4) trodAll_mk0))))),rfl,bel.frame _,fun h=>by cases h⟩
end Go.Proofs.YtgdmjbcllgmepaaGreatDoor.fnExactFullRow
