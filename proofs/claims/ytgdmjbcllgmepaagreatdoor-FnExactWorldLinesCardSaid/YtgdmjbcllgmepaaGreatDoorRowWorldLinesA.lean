/- For all arguments, the law FnExactWorldLines answers true, the listed package-level variables holding what the program's text lays: the tied card of the given statement FnExactWorldLinesCardSaid. Conditions: none beyond the given statement. -/
import Derived.Test.YtgdmjbcllgmepaaGreatDoorRows
import Derived.Test.YtgdmjbcllgmepaaGreatDoorCards
import Derived.Test.YtgdmjbcllgmepaaGreatDoorTie
import Derived.Test.YtgdmjbcllgmepaaGreatDoorWllWorldLines
import Derived.KernelRfl
import Derived.ProofKit
import Derived.LaidMore
import Derived.LaidLaws
import Derived.MakeChecks
import Derived.SevenTiedAt
import Derived.Lib.LaidTab
set_option linter.unusedVariables false
set_option linter.unusedSimpArgs false
namespace Go.Proofs.YtgdmjbcllgmepaaGreatDoor.Ab
open Go Go.Proofs
theorem Qx{H:Type}{enc:TypeId×Value→H}{P:Program}{W:World}{base:Nat}{sp:Nat→Bool}{fuel t:Nat}{ms:Array (String×TypeId)}{cs:List Value}{n:String}{d:DataW H}{p:List MemPlace}(ht:P.underlying t=some (.interface ms))(h:DataW.trod enc P W base sp false fuel t cs=some (.iface n d,p)):∃u v,cs=[.iface u v]:=by
 cases fuel with
 |zero=>cases h
 |succ k=>
  unfold DataW.trod at h
  rw[ht]at h
  match cs,h with
  |[.iface u v],_=>exact⟨u,v,rfl⟩
  |[.nilIface],h=>cases h
theorem W7{P:Program}{W:World}{g:Nat}{nm:String}{cs:Array Value}(hg:P.globalNamed nm=some g)(hv:W.var? P nm=some cs)(h:∃u v,cs.toList=[.iface u v]):g<W.heap.size∧G1 W g:=by
 unfold World.var? at hv
 rw[hg,Option.bind_some]at hv
 obtain⟨u,v,e⟩:=h
 have e2:cs[0]? =some (.iface u v):=by rw[←Array.getElem?_toList,e];rfl
 split at hv
 ·rename_i cs' t fr hh
  obtain rfl:=Option.some.inj hv
  refine⟨?_,.iface u v,?_,.inr ⟨u,v,rfl⟩⟩
  ·exact(Array.getElem?_eq_some_iff.1 hh).1
  ·unfold World.cell?
   simp only[hh]
   simpa using e2
 ·cases hv
theorem inv23{xs:List D}(h:ShD Tryz.prog 23 xs):∃w:Po,xs=XaA w∧True∧W9 w:=by
 replace h:=h.inv_st Tryz.underlying23
 obtain _|⟨h0,h⟩:=h
 obtain _|⟨h1,h⟩:=h
 obtain _|⟨h2,h⟩:=h
 obtain _|⟨h3,h⟩:=h
 obtain _|_:=h
 obtain⟨v0,rfl,w0⟩:=h0.inv_int Tryz.underlying3
 obtain⟨v1,rfl,w1⟩:=h1.inv_int Tryz.underlying3
 obtain⟨v2,rfl,w2⟩:=h2.inv_int Tryz.underlying3
 obtain⟨v3,rfl,w3⟩:=h3.inv_int Tryz.underlying3
 exact⟨⟨v0,v1,v2,v3⟩,rfl,trivial,⟨Gp w0,Gp w1,Gp w2,Gp w3⟩⟩
theorem XhC{xs:List D}(h:ShD Tryz.prog 168 xs):∃w:Cm,xs=Cs w∧Xa0 w∧Xdg w:=by
 replace h:=h.inv_st Tryz.underlying168
 obtain _|⟨h0,h⟩:=h
 obtain _|⟨h1,h⟩:=h
 obtain _|⟨h2,h⟩:=h
 obtain _|_:=h
 obtain⟨v0,rfl,w0⟩:=h0.inv_int Tryz.underlying3
 obtain⟨v1,rfl,k1⟩:=h1.inv_str Tryz.underlying9
 obtain⟨v2,rfl,w2⟩:=h2.inv_int Tryz.underlying3
 exact⟨⟨v0,v1,v2⟩,rfl,Nat.lt_of_le_of_lt k1 Kf,⟨Gp w0,Gp w2⟩⟩
theorem inv24{xs:List D}(h:ShD Tryz.prog 24 xs):∃a:List Cm,xs=[.row 3 (a.map Cs)]∧U7 a∧Xde a:=by
 obtain⟨ys,rfl,hl,hx⟩:=h.inv_sl Tryz.underlying24
 obtain⟨zs,rfl,hl',hp⟩:=Q7 (c:=Cs) (p:=fun x:Cm=>(Xa0 x)∧(Xdg x)) (ys:=ys) (fun x hxm=>by
  obtain⟨w,rfl,hs,hs2⟩:=XhC (hx x hxm)
  exact⟨w,rfl,hs,hs2⟩)
 have:=Kf
 rw[show Tryz.prog.bytesOf 168=32 by kernel_rfl]at hl
 rw[List.length_map]at hl
 exact⟨zs,by rw[show Tryz.prog.cellsOf 168=3 by kernel_rfl],⟨by omega,fun x hx=>(hp x hx).1⟩,fun x hx=>(hp x hx).2⟩
theorem XhJ{xs:List D}(h:ShD Tryz.prog 170 xs):∃w:A3,xs=A2 w∧Ur w∧Y9 w:=by
 replace h:=h.inv_st Tryz.underlying170
 obtain _|⟨h0,h⟩:=h
 obtain _|⟨h1,h⟩:=h
 obtain _|_:=h
 obtain⟨v0,rfl,k0⟩:=h0.inv_str Tryz.underlying9
 obtain⟨v1,rfl,w1⟩:=h1.inv_int Tryz.underlying3
 exact⟨⟨v0,v1⟩,rfl,Nat.lt_of_le_of_lt k0 Kf,Gp w1⟩
theorem Xhd{xs:List D}(h:ShD Tryz.prog 25 xs):∃a:List A3,xs=[.row 2 (a.map A2)]∧Lr a∧Uh a:=by
 obtain⟨ys,rfl,hl,hx⟩:=h.inv_sl Tryz.underlying25
 obtain⟨zs,rfl,hl',hp⟩:=Q7 (c:=A2) (p:=fun x:A3=>(Ur x)∧(Y9 x)) (ys:=ys) (fun x hxm=>by
  obtain⟨w,rfl,hs,hs2⟩:=XhJ (hx x hxm)
  exact⟨w,rfl,hs,hs2⟩)
 have:=Kf
 rw[show Tryz.prog.bytesOf 170=24 by kernel_rfl]at hl
 rw[List.length_map]at hl
 exact⟨zs,by rw[show Tryz.prog.cellsOf 170=2 by kernel_rfl],⟨by omega,fun x hx=>(hp x hx).1⟩,fun x hx=>(hp x hx).2⟩
theorem Xhh{xs:List D}(h:ShD Tryz.prog 26 xs):∃a:List ByteArray,xs=[.row 1 (a.map cS)]∧Jk a∧True:=by
 obtain⟨ys,rfl,hl,hx⟩:=h.inv_sl Tryz.underlying26
 obtain⟨zs,rfl,hl',hp⟩:=Q7 (c:=cS) (p:=fun x:ByteArray=>(x.size<2^47)∧(True)) (ys:=ys) (fun x hxm=>by
  obtain⟨s,rfl,hs⟩:=(hx x hxm).inv_str Tryz.underlying9
  exact⟨s,rfl,Nat.lt_of_le_of_lt hs Kf,trivial⟩)
 have:=Kf
 rw[show Tryz.prog.bytesOf 9=16 by kernel_rfl]at hl
 rw[List.length_map]at hl
 exact⟨zs,by rw[show Tryz.prog.cellsOf 9=1 by kernel_rfl],⟨by omega,fun x hx=>(hp x hx).1⟩,trivial⟩
theorem inv28{xs:List D}(h:ShD Tryz.prog 28 xs):∃w:As,xs=Xhv w∧Xbb w∧Xdm w:=by
 replace h:=h.inv_st Tryz.underlying28
 obtain _|⟨h0,h⟩:=h
 obtain _|⟨h1,h⟩:=h
 obtain _|⟨h2,h⟩:=h
 obtain _|⟨h3,h⟩:=h
 obtain _|⟨h4,h⟩:=h
 obtain _|⟨h5,h⟩:=h
 obtain _|_:=h
 obtain⟨v0,rfl,k0,w0⟩:=inv24 h0
 obtain⟨v1,rfl,k1,w1⟩:=Xhd h1
 obtain⟨v2,rfl,k2,w2⟩:=Xhd h2
 obtain⟨v3,rfl,k3,w3⟩:=Xhh h3
 obtain⟨v4,rfl,w4⟩:=h4.inv_int Tryz.underlying3
 obtain⟨v5,rfl,w5⟩:=h5.inv_int Tryz.underlying3
 exact⟨⟨v0,v1,v2,v3,v4,v5⟩,rfl,⟨k0,k1,k2,k3⟩,⟨w0,w1,w2,Gp w4,Gp w5⟩⟩
theorem inv29{xs:List D}(h:ShD Tryz.prog 29 xs):∃a:List Int,xs=[.row 1 (a.map cI)]∧Xbg a∧Xff a:=by
 obtain⟨ys,rfl,hl,hx⟩:=h.inv_sl Tryz.underlying29
 obtain⟨zs,rfl,hl',hp⟩:=Q7 (c:=cI) (p:=fun x:Int=>(True)∧(wfI x)) (ys:=ys) (fun x hxm=>by
  obtain⟨n,rfl,hs⟩:=(hx x hxm).inv_int Tryz.underlying3
  exact⟨n,rfl,trivial,Gp hs⟩)
 have:=Kf
 rw[show Tryz.prog.bytesOf 3=8 by kernel_rfl]at hl
 rw[List.length_map]at hl
 exact⟨zs,by rw[show Tryz.prog.cellsOf 3=1 by kernel_rfl],(show zs.length<2^44 by omega),fun x hx=>(hp x hx).2⟩
theorem inv31{xs:List D}(h:ShD Tryz.prog 31 xs):∃w:C0,xs=Xdd w∧Px w∧Xao w:=by
 replace h:=h.inv_st Tryz.underlying31
 obtain _|⟨h0,h⟩:=h
 obtain _|⟨h1,h⟩:=h
 obtain _|⟨h2,h⟩:=h
 obtain _|⟨h3,h⟩:=h
 obtain _|⟨h4,h⟩:=h
 obtain _|⟨h5,h⟩:=h
 obtain _|⟨h6,h⟩:=h
 obtain _|⟨h7,h⟩:=h
 obtain _|⟨h8,h⟩:=h
 obtain _|_:=h
 obtain⟨v0,rfl,w0⟩:=h0.inv_int Tryz.underlying3
 obtain⟨v1,rfl,w1⟩:=h1.inv_int Tryz.underlying3
 obtain⟨v2,rfl,w2⟩:=h2.inv_int Tryz.underlying3
 obtain⟨v3,rfl,w3⟩:=h3.inv_int Tryz.underlying3
 obtain⟨v4,rfl,w4⟩:=h4.inv_int Tryz.underlying3
 obtain⟨v5,rfl,k5,w5⟩:=inv29 h5
 obtain⟨v6,rfl,w6⟩:=h6.inv_int Tryz.underlying3
 obtain⟨v7,rfl⟩:=h7.inv_bool Tryz.underlying4
 obtain⟨v8,rfl,w8⟩:=h8.inv_int Tryz.underlying3
 exact⟨⟨v0,v1,v2,v3,v4,v5,v6,v7,v8⟩,rfl,k5,⟨Gp w0,Gp w1,Gp w2,Gp w3,Gp w4,w5,Gp w6,Gp w8⟩⟩
theorem inv33{xs:List D}(h:ShD Tryz.prog 33 xs):∃w:Gc,xs=Xfg w∧Zo w∧Mu w:=by
 replace h:=h.inv_st Tryz.underlying33
 obtain _|⟨h0,h⟩:=h
 obtain _|⟨h1,h⟩:=h
 obtain _|⟨h2,h⟩:=h
 obtain _|⟨h3,h⟩:=h
 obtain _|⟨h4,h⟩:=h
 obtain _|⟨h5,h⟩:=h
 obtain _|_:=h
 obtain⟨v0,rfl,k0,w0⟩:=inv23 h0
 obtain⟨v1,rfl,k1,w1⟩:=inv28 h1
 obtain⟨v2,rfl,k2,w2⟩:=inv31 h2
 obtain⟨v3,rfl,k3,w3⟩:=Xhh h3
 obtain⟨v4,rfl,w4⟩:=h4.inv_int Tryz.underlying3
 obtain⟨v5,rfl,w5⟩:=h5.inv_int Tryz.underlying3
 exact⟨⟨v0,v1,v2,v3,v4,v5⟩,rfl,⟨k1,k2,k3⟩,⟨w0,w1,w2,Gp w4,Gp w5⟩⟩
theorem Sa:∀yss,ShAll Tryz.prog Tryz.f3.params.toList yss→CallOk Tryz.prog 3 (Jv Tryz.prog Tryz.f3.params.toList yss) [] ⟨.d (.sc (.bool true)),[],[]⟩:=by
 rw[Tryz.params3]
 intro yss h
 obtain _|⟨h0,h⟩:=h
 obtain _|_:=h
 obtain⟨w0,rfl,ok_aW,wf_aW⟩:=inv33 h0
 obtain⟨⟨aW_set_room,aW_set_version,aW_set_stride,aW_set_roll⟩,⟨aW_disk_nodes,aW_disk_entries,aW_disk_old,aW_disk_steps,aW_disk_room,aW_disk_next⟩,⟨aW_writer_version,aW_writer_stride,aW_writer_roll,aW_writer_base,aW_writer_link,aW_writer_offsets,aW_writer_end,aW_writer_open,aW_writer_code⟩,aW_told,aW_sure,aW_falls⟩:=w0
 have e:Jv Tryz.prog [33] [(Xfg ⟨⟨aW_set_room,aW_set_version,aW_set_stride,aW_set_roll⟩,⟨aW_disk_nodes,aW_disk_entries,aW_disk_old,aW_disk_steps,aW_disk_room,aW_disk_next⟩,⟨aW_writer_version,aW_writer_stride,aW_writer_roll,aW_writer_base,aW_writer_link,aW_writer_offsets,aW_writer_end,aW_writer_open,aW_writer_code⟩,aW_told,aW_sure,aW_falls⟩)]=[.agg [.d (.sc (.int .i64 aW_set_room)),.d (.sc (.int .i64 aW_set_version)),.d (.sc (.int .i64 aW_set_stride)),.d (.sc (.int .i64 aW_set_roll)),.d (.row 3 (aW_disk_nodes.map Cs)),.d (.row 2 (aW_disk_entries.map A2)),.d (.row 2 (aW_disk_old.map A2)),.d (.row 1 (aW_disk_steps.map cS)),.d (.sc (.int .i64 aW_disk_room)),.d (.sc (.int .i64 aW_disk_next)),.d (.sc (.int .i64 aW_writer_version)),.d (.sc (.int .i64 aW_writer_stride)),.d (.sc (.int .i64 aW_writer_roll)),.d (.sc (.int .i64 aW_writer_base)),.d (.sc (.int .i64 aW_writer_link)),.d (.row 1 (aW_writer_offsets.map cI)),.d (.sc (.int .i64 aW_writer_end)),.d (.sc (.bool aW_writer_open)),.d (.sc (.int .i64 aW_writer_code)),.d (.row 1 (aW_told.map cS)),.d (.sc (.int .i64 aW_sure)),.d (.sc (.int .i64 aW_falls))]]:=by
  simp only[Jv,Yf,Tryz.underlying33]
  try rfl
 show CallOk Tryz.prog 3 (Jv Tryz.prog [33] _) [] _
 rw[e]
 exact T3 rfl rfl rfl rfl rfl rfl ok_aW wf_aW
end Go.Proofs.YtgdmjbcllgmepaaGreatDoor.Ab
namespace Go.Proofs.YtgdmjbcllgmepaaGreatDoor.fnExactWorldLines
open Go.ChangeShapes Go.WideShapes Go.ChangeAt Go.RowKit
open Go.Proofs.YtgdmjbcllgmepaaGreatDoor.Ab
theorem own:ownKnob Tryz.prog.godebug=none:=by kernel_rfl
theorem XfT:laidOutB Tryz.prog=true:=by kernel_rfl
theorem Xeu(os:Os)(args:Array Value):laidMetH Tryz.prog Rows.fnExactWorldLinesRow.laid ((World.doorLaid Tryz.prog 62 os).forCall (fun _ _=>0) ⟨#[],args,[]⟩).memory:=
 laidMetH_of_parts3 (fuel:=8) (laidMet_of_run' 8 (by kernel_rfl) (by kernel_rfl)) (by kernel_rfl) (by kernel_rfl)
set_option maxRecDepth 100000 in
theorem met{W:World}(h:laidMetH Tryz.prog Rows.fnExactWorldLinesRow.laid W):Globs.ok W fun b=>b<W.heap.size:=by
 rw[MakeChecks.laidMetH_plain _ _ _ (by kernel_rfl)]at h
 obtain⟨ps,⟨g0,t0,cs0,f0,p0,q0,hg0,ht0,hv0,hd0,⟨g1,t1,cs1,f1,p1,q1,hg1,ht1,hv1,hd1,⟨g2,t2,cs2,f2,p2,q2,hg2,ht2,hv2,hd2,⟨g3,t3,cs3,f3,p3,q3,hg3,ht3,hv3,hd3,⟨g4,t4,cs4,f4,p4,q4,hg4,ht4,hv4,hd4,_,_⟩,_⟩,_⟩,_⟩,_⟩,_⟩:=h
 obtain rfl:=Option.some.inj (gn4.symm.trans hg0)
 obtain rfl:=Option.some.inj ((show(Tryz.prog.globals[4]?).map (·.type)=some 295 by kernel_rfl).symm.trans ht0)
 have c0:=Lib.cells_of_tab (k:=.u8) (zs:=Vu) Tryz.underlying295 Tryz.underlying5 (by kernel_rfl) (by kernel_rfl) (show DataW.trod _ Tryz.prog W 0 _ false f0 295 cs0.toList=some (Lib.tabData .u8 Vu,p0)from hd0)
 have s0:4<W.heap.size:=by
  unfold World.var? at hv0
  rw[gn4,Option.bind_some]at hv0
  rcases Nat.lt_or_ge 4 W.heap.size with hl|hl
  ·exact hl
  ·rw[Array.getElem?_eq_none hl]at hv0
   cases hv0
 have m0:Lib.TabIs Tryz.prog W "math/bits.deBruijn32tab" .u8 Vu:=by
  unfold Lib.TabIs
  rw[hv0,←c0]
 obtain rfl:=Option.some.inj (gn5.symm.trans hg1)
 obtain rfl:=Option.some.inj ((show(Tryz.prog.globals[5]?).map (·.type)=some 296 by kernel_rfl).symm.trans ht1)
 have c1:=Lib.cells_of_tab (k:=.u8) (zs:=O7) Tryz.underlying296 Tryz.underlying5 (by kernel_rfl) (by kernel_rfl) (show DataW.trod _ Tryz.prog W 0 _ false f1 296 cs1.toList=some (Lib.tabData .u8 O7,p1)from hd1)
 have s1:5<W.heap.size:=by
  unfold World.var? at hv1
  rw[gn5,Option.bind_some]at hv1
  rcases Nat.lt_or_ge 5 W.heap.size with hl|hl
  ·exact hl
  ·rw[Array.getElem?_eq_none hl]at hv1
   cases hv1
 have m1:Lib.TabIs Tryz.prog W "math/bits.deBruijn64tab" .u8 O7:=by
  unfold Lib.TabIs
  rw[hv1,←c1]
 obtain rfl:=Option.some.inj (gn1.symm.trans hg2)
 obtain rfl:=Option.some.inj ((show(Tryz.prog.globals[1]?).map (·.type)=some 282 by kernel_rfl).symm.trans ht2)
 have c2:=Lib.cells_of_tab (k:=.u64) (zs:=Tk) Tryz.underlying282 Tryz.underlying228 (by kernel_rfl) (by kernel_rfl) (show DataW.trod _ Tryz.prog W 0 _ false f2 282 cs2.toList=some (Lib.tabData .u64 Tk,p2)from hd2)
 have s2:1<W.heap.size:=by
  unfold World.var? at hv2
  rw[gn1,Option.bind_some]at hv2
  rcases Nat.lt_or_ge 1 W.heap.size with hl|hl
  ·exact hl
  ·rw[Array.getElem?_eq_none hl]at hv2
   cases hv2
 have m2:Lib.TabIs Tryz.prog W "internal/strconv.uint64pow10" .u64 Tk:=by
  unfold Lib.TabIs
  rw[hv2,←c2]
 obtain rfl:=Option.some.inj ((show Tryz.prog.globalNamed "strconv.ErrRange"=some 3 by kernel_rfl).symm.trans hg3)
 obtain rfl:=Option.some.inj ((show(Tryz.prog.globals[3]?).map (·.type)=some 221 by kernel_rfl).symm.trans ht3)
 have c3:=Qx Tryz.underlying221 (show DataW.trod _ Tryz.prog W 0 _ false f3 221 cs3.toList=some (.iface _ _,p3)from hd3)
 have m3:3<W.heap.size∧G1 W 3:=W7 (show Tryz.prog.globalNamed "strconv.ErrRange"=some 3 by kernel_rfl) hv3 c3
 obtain rfl:=Option.some.inj ((show Tryz.prog.globalNamed "strconv.ErrSyntax"=some 2 by kernel_rfl).symm.trans hg4)
 obtain rfl:=Option.some.inj ((show(Tryz.prog.globals[2]?).map (·.type)=some 221 by kernel_rfl).symm.trans ht4)
 have c4:=Qx Tryz.underlying221 (show DataW.trod _ Tryz.prog W 0 _ false f4 221 cs4.toList=some (.iface _ _,p4)from hd4)
 have m4:2<W.heap.size∧G1 W 2:=W7 (show Tryz.prog.globalNamed "strconv.ErrSyntax"=some 2 by kernel_rfl) hv4 c4
 exact(show(4<W.heap.size∧Lib.TabIs Tryz.prog W "math/bits.deBruijn32tab" .u8 Vu)∧(5<W.heap.size∧Lib.TabIs Tryz.prog W "math/bits.deBruijn64tab" .u8 O7)∧(1<W.heap.size∧Lib.TabIs Tryz.prog W "internal/strconv.uint64pow10" .u64 Tk)∧(3<W.heap.size∧G1 W 3)∧(2<W.heap.size∧G1 W 2)from⟨⟨s0,m0⟩,⟨s1,m1⟩,⟨s2,m2⟩,m3,m4⟩)
set_option maxRecDepth 100000 in
theorem lifted(os:Os)(started:os.Started)(H:Type)(enc:TypeId×Value→H):
  ReturnsInHanded {} Tryz.checked os 3 .any (fun w args=>(Rows.fnExactWorldLinesSpec.pre enc Tryz.prog Tryz.f3 [] false w args∧laidMetH Tryz.prog Rows.fnExactWorldLinesRow.laid w)∧sizedMet enc Tryz.prog Tryz.f3 (OpenSpec.ofChange Rows.fnExactWorldLinesSpec) false w args)
   (Rows.fnExactWorldLinesSpec.post enc Tryz.prog Tryz.f3 false true false false):=by
 refine returnsInHanded_of_change_and (C:=Tryz.checked) (X:=fun w _=>laidMetH Tryz.prog Rows.fnExactWorldLinesRow.laid w) (fun _ _ _ hh h=>h.of_heap hh) own started (by kernel_rfl) Tryz.func3
  (ChangeSpec.witness_shaped (enc:=enc) (C:=Tryz.checked) (os:=os) (X:=fun w _=>laidMetH Tryz.prog Rows.fnExactWorldLinesRow.laid w) false (World.doorLaid Tryz.prog 62 os) #[.agg #[.int .i64 0,.int .i64 0,.int .i64 0,.int .i64 0,.slice none 0 0,.slice none 0 0,.slice none 0 0,.slice none 0 0,.int .i64 0,.int .i64 0,.int .i64 0,.int .i64 0,.int .i64 0,.int .i64 0,.int .i64 0,.slice none 0 0,.int .i64 0,.bool false,.int .i64 0,.slice none 0 0,.int .i64 0,.int .i64 0]] 8 rfl (World.shaped_of_RefB (by kernel_rfl) (by kernel_rfl)) (by kernel_rfl) (by kernel_rfl) (by kernel_rfl) (Xeu os _)) ?_
 intro W base args ds gs before hval0 hW hcnd hsz0 hL _
 have hsz:(DataW.weightsEach Tryz.prog (Tryz.f3.params.toList++[]) (ds++gs)).all (·≤reachBytes)=true:=hsz0
 have hval:∀(j:Nat) t v,Tryz.f3.params[j]? =some t→args[j]? =some v→Value.okWide Tryz.prog W .any base t v:=hval0
 have hW':=hW
 obtain⟨p,q,hA0,hV,rfl,hfz,hnd⟩:=hW
 have hA:DataW.TrodAll enc Tryz.prog W 0 (fun _=>true) true Tryz.f3.params.toList args.toList ds p:=hA0
 obtain⟨rfl,rfl⟩:=trodVars_none hV
 have hw:∀m∈DataW.weightsEach Tryz.prog Tryz.f3.params.toList ds,m≤reachBytes:=by
  intro m hm
  have:=List.all_eq_true.1 hsz m (by simpa using hm)
  simpa using this
 have run:=XcP (g:=9) (ts:=Tryz.f3.params.toList) (by kernel_rfl) Sa (fun j t v h1 h2=>hval j t v (by simpa using h1) (by simpa using h2)) hA hw (met hL)
 rw[Tryz.params3]at hA
 obtain⟨v0,vs0,d0,ds0,p0,q0,h0l,rfl,rfl,k0,r0⟩:=trodAll_cons hA
 have lt0:∀x∈p0,x.block<W.heap.size:=by obtain⟨m,hm⟩:=k0;exact DataW.trod_lt m _ _ _ hm
 obtain⟨rfl,rfl,rfl⟩:=trodAll_nil r0
 obtain rfl:args= #[v0]:=by cases args;simp_all
 refine run.mono fun e W' ⟨he,bel⟩=>?_
 subst he
 exact⟨_,rfl,_,_,_,[],_,[],hW',trodAll_mk1 (shut_bool Tryz.underlying4 _),(trodAll_cons_mk (Below.trod XfT (by kernel_rfl) (of_decide_eq_true (by kernel_rfl)) k0 bel lt0) trodAll_mk0),rfl,bel.frame _,fun h=>by cases h⟩
end Go.Proofs.YtgdmjbcllgmepaaGreatDoor.fnExactWorldLines
