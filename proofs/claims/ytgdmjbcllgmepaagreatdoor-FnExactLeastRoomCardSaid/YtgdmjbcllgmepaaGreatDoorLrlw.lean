/- What functions of the program come to, for all arguments in the given bounds. -/
import Derived.Test.YtgdmjbcllgmepaaGreatDoorLrch17
import Derived.Test.YtgdmjbcllgmepaaGreatDoorLrHsz
set_option linter.unusedVariables false
set_option linter.unusedSimpArgs false
namespace Go.Proofs.YtgdmjbcllgmepaaGreatDoor.Ab
section
open Go Go.Proofs
set_option maxRecDepth 20000
set_option maxHeartbeats 4000000
end
section
open Go Go.Proofs
set_option maxRecDepth 20000
set_option maxHeartbeats 4000000
end
section
open Go Go.Proofs
set_option maxRecDepth 20000
set_option maxHeartbeats 4000000
theorem ent33:Ej Tryz.prog 33:=⟨_,Tryz.func33,rfl,rfl⟩
theorem T33{aVersion aStride aRoll:Int}{aRecords:List ByteArray}{xaRecords:List (List D)}(haRecords:aRecords.map cS=xaRecords)(hb:Cv aRecords≤1048576)(w1:wfI aVersion)(w2:wfI aStride)(w3:wfI aRoll):CallOk Tryz.prog 33 [.d (.sc (.int .i64 aVersion)),.d (.sc (.int .i64 aStride)),.d (.sc (.int .i64 aRoll)),.d (.row 1 xaRecords)] [] ⟨.d (.sc (.int .i64 (Dr aVersion aStride aRoll aRecords))),[],[]⟩:=by
 exact(Xba haRecords rfl).ok
theorem ent34:Ej Tryz.prog 34:=⟨_,Tryz.func34,rfl,rfl⟩
theorem T34{aVersion aStride aRoll:Int}{aRecords:List ByteArray}{xaRecords:List (List D)}(haRecords:aRecords.map cS=xaRecords)(hb:Cv aRecords≤1048576)(w1:wfI aVersion)(w2:wfI aStride)(w3:wfI aRoll):CallOk Tryz.prog 34 [.d (.sc (.int .i64 aVersion)),.d (.sc (.int .i64 aStride)),.d (.sc (.int .i64 aRoll)),.d (.row 1 xaRecords)] [] ⟨.d (.sc (.int .i64 (Dr aVersion aStride aRoll aRecords))),[],[]⟩:=by
 exact(XbF haRecords rfl).ok
noncomputable def c7:Code:=(Tryz.f7.body).getD .skip
theorem T7{aVersion:Int}{aStride:Int}{aRoll:Int}{aRecords:List ByteArray}{xaRecords:List (List D)}(haRecords:aRecords.map cS=xaRecords)(wf_aVersion:wfI aVersion)(wf_aStride:wfI aStride)(wf_aRoll:wfI aRoll)(ok_aRecords:T3 aRecords):CallOk Tryz.prog 7 [.d (.sc (.int .i64 aVersion)),.d (.sc (.int .i64 aStride)),.d (.sc (.int .i64 aRoll)),.d (.row 1 xaRecords)] [] ⟨.d (.sc (.bool true)),[],[]⟩:=by
 have ent18_:=ent18
 have T18_:=@T18
 have ent23_:=ent23
 have T23_:=@T23
 have ent25_:=ent25
 have T25_:=@T25
 have ent33_:=ent33
 have T33_:=@T33
 have ent34_:=ent34
 have T34_:=@T34
 refine CallOk.of_bodyD (body:=c7) Tryz.func7 rfl (Nat.le_of_ble_eq_true (by kernel_rfl)) rfl ?_
 refine Xa9 Qo mixed ?_
 have hT:=Qo
 have hm:=mixed
 generalize hP:Tryz.prog=P at*
 generalize hA:std=A
 obtain⟨qbin,qsh,qcmp,qscmp,qbcmp,qbnot,qneg,qwrap,qcat,qssize,qssub,qsget,qlen,qrsub,qapp,qelt,qset,qnth,qdrp,qstr,qint,qbool,qrow,qnat,qnadd,qnsub,qband,qofNat,qstrRow,qmkRow,qmx,qmn,qbytes,qemp⟩:=A
 have hE:=Ar.eqs hA
 dsimp only at hE
 generalize hQ:EndD P Tryz.f7.results _=Q
 have hself:(∀v:Int,qcmp .neq v v=false)∧(∀v:ByteArray,qscmp .neq v v=false)∧(∀v:Bool,qbnot (qbcmp v v)=false)∧qbnot true=false:=by
  refine⟨fun v=>?_,fun v=>?_,fun v=>?_,?_⟩<;>simp only[hE,E3,Xb2,Dy,E4]<;>simp
 obtain⟨hself1,hself2,hself3,hself4⟩:=hself
 have hn_aRecords:=rd_n haRecords
 cbv
 try simp only[nc]at*
 refine ClW.dd (f:=23) rfl rfl rfl rfl (.cons rfl (.cons rfl .nil)) rfl ent23_ (T23_ haRecords (by omega) (by omega) ok_aRecords) rfl ?_
 generalize aa:Xfg (Cv aRecords) 1048576=left0
 cbv
 try simp only[nc]at*
 split
 ·cbv
  try simp only[nc]at*
  rw[←hQ]
  exact Jo rfl rfl
 rename_i c1
 simp only[hE,List.length_map,Fs,F0,F4,F2,E8,E3,Et,Fd,Ec,Ee,Dc,E4,Ed,Dy,Fc,Df,Eg,Ea,Fu,IntKind.wrap_i64,decide_eq_true_eq,decide_eq_false_iff_not,Bool.not_eq_true',Bool.not_eq_false',Option.getD_none,Option.getD_some]at c1
 obtain⟨g0,g0'⟩:=Xhh (t:=Cv aRecords) (left:=1048576) (by omega)
 have nn0:=Wm aRecords
 have bd_aRecords:Cv aRecords≤1048576:=by omega
 cbv
 try simp only[nc]at*
 refine ClW.dd (f:=25) rfl rfl rfl rfl (.cons rfl .nil) rfl ent25_ (T25_ haRecords bd_aRecords) rfl ?_
 cbv
 try simp only[nc]at*
 refine ClW.dd (f:=33) rfl rfl rfl rfl (.cons rfl (.cons rfl (.cons rfl (.cons rfl .nil)))) rfl ent33_ (T33_ haRecords bd_aRecords wf_aVersion wf_aStride wf_aRoll) rfl ?_
 generalize hr:Dr aVersion aStride aRoll aRecords=r
 cbv
 try simp only[nc]at*
 refine ClW.dd (f:=25) rfl rfl rfl rfl (.cons rfl .nil) rfl ent25_ (T25_ haRecords bd_aRecords) rfl ?_
 cbv
 try simp only[nc]at*
 refine ClW.dd (f:=34) rfl rfl rfl rfl (.cons rfl (.cons rfl (.cons rfl (.cons rfl .nil)))) rfl ent34_ (T34_ haRecords bd_aRecords wf_aVersion wf_aStride wf_aRoll) rfl ?_
 rw[hr]
 cbv
 try simp only[nc]at*
 rw[hself1]
 cbv
 try simp only[nc]at*
 refine ClW.dd (f:=25) rfl rfl rfl rfl (.cons rfl .nil) rfl ent25_ (T25_ haRecords bd_aRecords) rfl ?_
 cbv
 try simp only[nc]at*
 refine ClW.dd (f:=18) rfl rfl rfl rfl (.cons rfl (.cons rfl .nil)) rfl ent18_ (T18_ haRecords (by omega)) rfl ?_
 cbv
 try simp only[nc]at*
 rw[hself4]
 cbv
 try simp only[nc]at*
 rw[←hQ]
 exact Jo rfl rfl
end
end Go.Proofs.YtgdmjbcllgmepaaGreatDoor.Ab
