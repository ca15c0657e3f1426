/- What functions of the program come to, for all arguments in the given bounds. -/
import Derived.Test.YtgdmjbcllgmepaaGreatDoorTich17
import Derived.Test.YtgdmjbcllgmepaaGreatDoorTiHsz
set_option linter.unusedVariables false
set_option linter.unusedSimpArgs false
namespace Go.Proofs.YtgdmjbcllgmepaaGreatDoor.Ab
section
open Go Go.Proofs
set_option maxRecDepth 20000
set_option maxHeartbeats 4000000
end
section
open Go Go.Proofs
set_option maxRecDepth 20000
set_option maxHeartbeats 4000000
end
section
open Go Go.Proofs
set_option maxRecDepth 20000
set_option maxHeartbeats 4000000
theorem ent24:Ea Tryz.prog 24:=⟨_,Tryz.func24,rfl,rfl⟩
theorem T24{aRoom aVersion aStride aRoll:Int}{aRecords:List ByteArray}{xaRecords:List (List D)}(haRecords:aRecords.map cS=xaRecords)(hb:Ct aRecords≤1048576)(w0:wfI aRoom)(w1:wfI aVersion)(w2:wfI aStride)(w3:wfI aRoll):CallOk Tryz.prog 24 [.d (.sc (.int .i64 aRoom)),.d (.sc (.int .i64 aVersion)),.d (.sc (.int .i64 aStride)),.d (.sc (.int .i64 aRoll)),.d (.row 1 xaRecords)] [] ⟨.d (.sc (.int .i64 (Dx aRoom aVersion aStride aRoll aRecords))),[],[]⟩:=by
 exact(Xfd haRecords rfl).ok
theorem ent26:Ea Tryz.prog 26:=⟨_,Tryz.func26,rfl,rfl⟩
theorem T26{aRoom aVersion aStride aRoll:Int}{aRecords:List ByteArray}{xaRecords:List (List D)}(haRecords:aRecords.map cS=xaRecords)(hb:Ct aRecords≤1048576)(w0:wfI aRoom)(w1:wfI aVersion)(w2:wfI aStride)(w3:wfI aRoll):CallOk Tryz.prog 26 [.d (.sc (.int .i64 aRoom)),.d (.sc (.int .i64 aVersion)),.d (.sc (.int .i64 aStride)),.d (.sc (.int .i64 aRoll)),.d (.row 1 xaRecords)] [] ⟨.d (.sc (.int .i64 (Dx aRoom aVersion aStride aRoll aRecords))),[],[]⟩:=by
 exact(XdR haRecords rfl).ok
noncomputable def c4:Code:=(Tryz.f4.body).getD .skip
theorem T4{aRoom:Int}{aVersion:Int}{aStride:Int}{aRoll:Int}{aRecords:List ByteArray}{xaRecords:List (List D)}(haRecords:aRecords.map cS=xaRecords)(wf_aRoom:wfI aRoom)(wf_aVersion:wfI aVersion)(wf_aStride:wfI aStride)(wf_aRoll:wfI aRoll)(ok_aRecords:Sn aRecords):CallOk Tryz.prog 4 [.d (.sc (.int .i64 aRoom)),.d (.sc (.int .i64 aVersion)),.d (.sc (.int .i64 aStride)),.d (.sc (.int .i64 aRoll)),.d (.row 1 xaRecords)] [] ⟨.d (.sc (.bool true)),[],[]⟩:=by
 have ent18_:=ent18
 have T18_:=@T18
 have ent23_:=ent23
 have T23_:=@T23
 have ent24_:=ent24
 have T24_:=@T24
 have ent25_:=ent25
 have T25_:=@T25
 have ent26_:=ent26
 have T26_:=@T26
 refine CallOk.of_bodyD (body:=c4) Tryz.func4 rfl (Nat.le_of_ble_eq_true (by kernel_rfl)) rfl ?_
 refine Xbo Qi mixed ?_
 have hT:=Qi
 have hm:=mixed
 generalize hP:Tryz.prog=P at*
 generalize hA:std=A
 obtain⟨qbin,qsh,qcmp,qscmp,qbcmp,qbnot,qneg,qwrap,qcat,qssize,qssub,qsget,qlen,qrsub,qapp,qelt,qset,qnth,qdrp,qstr,qint,qbool,qrow,qnat,qnadd,qnsub,qband,qofNat,qstrRow,qmkRow,qmx,qmn,qbytes,qemp⟩:=A
 have hE:=Ar.eqs hA
 dsimp only at hE
 generalize hQ:EndD P Tryz.f4.results _=Q
 have hself:(∀v:Int,qcmp .neq v v=false)∧(∀v:ByteArray,qscmp .neq v v=false)∧(∀v:Bool,qbnot (qbcmp v v)=false)∧qbnot true=false:=by
  refine⟨fun v=>?_,fun v=>?_,fun v=>?_,?_⟩<;>simp only[hE,Et,XcJ,Dr,Es]<;>simp
 obtain⟨hself1,hself2,hself3,hself4⟩:=hself
 have hn_aRecords:=rd_n haRecords
 cbv
 try simp only[nc]at*
 refine ClW.dd (f:=23) rfl rfl rfl rfl (.cons rfl (.cons rfl .nil)) rfl ent23_ (T23_ haRecords (by omega) (by omega) ok_aRecords) rfl ?_
 generalize aa:XeV (Ct aRecords) 1048576=left0
 cbv
 try simp only[nc]at*
 split
 ·cbv
  try simp only[nc]at*
  rw[←hQ]
  exact Je rfl rfl
 rename_i c1
 simp only[hE,List.length_map,Fv,Fs,Fp,Fr,Fd,Et,Eh,E9,D5,D4,C8,Es,D7,Dr,Fb,C7,D6,D1,Fq,IntKind.wrap_i64,decide_eq_true_eq,decide_eq_false_iff_not,Bool.not_eq_true',Bool.not_eq_false',Option.getD_none,Option.getD_some]at c1
 obtain⟨g0,g0'⟩:=XhK (t:=Ct aRecords) (left:=1048576) (by omega)
 have nn0:=Wh aRecords
 have bd_aRecords:Ct aRecords≤1048576:=by omega
 cbv
 try simp only[nc]at*
 refine ClW.dd (f:=25) rfl rfl rfl rfl (.cons rfl .nil) rfl ent25_ (T25_ haRecords bd_aRecords) rfl ?_
 cbv
 try simp only[nc]at*
 refine ClW.dd (f:=24) rfl rfl rfl rfl (.cons rfl (.cons rfl (.cons rfl (.cons rfl (.cons rfl .nil))))) rfl ent24_ (T24_ haRecords bd_aRecords wf_aRoom wf_aVersion wf_aStride wf_aRoll) rfl ?_
 generalize hr:Dx aRoom aVersion aStride aRoll aRecords=r
 cbv
 try simp only[nc]at*
 refine ClW.dd (f:=25) rfl rfl rfl rfl (.cons rfl .nil) rfl ent25_ (T25_ haRecords bd_aRecords) rfl ?_
 cbv
 try simp only[nc]at*
 refine ClW.dd (f:=26) rfl rfl rfl rfl (.cons rfl (.cons rfl (.cons rfl (.cons rfl (.cons rfl .nil))))) rfl ent26_ (T26_ haRecords bd_aRecords wf_aRoom wf_aVersion wf_aStride wf_aRoll) rfl ?_
 rw[hr]
 cbv
 try simp only[nc]at*
 rw[hself1]
 cbv
 try simp only[nc]at*
 refine ClW.dd (f:=25) rfl rfl rfl rfl (.cons rfl .nil) rfl ent25_ (T25_ haRecords bd_aRecords) rfl ?_
 cbv
 try simp only[nc]at*
 refine ClW.dd (f:=18) rfl rfl rfl rfl (.cons rfl (.cons rfl .nil)) rfl ent18_ (T18_ haRecords (by omega)) rfl ?_
 cbv
 try simp only[nc]at*
 rw[hself4]
 cbv
 try simp only[nc]at*
 rw[←hQ]
 exact Je rfl rfl
end
end Go.Proofs.YtgdmjbcllgmepaaGreatDoor.Ab
