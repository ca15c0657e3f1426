/- What functions of the program come to, for all arguments in the given bounds. -/
import Derived.Test.YtgdmjbcllgmepaaGreatDoorch06s
import Derived.Test.YtgdmjbcllgmepaaGreatDoorHsz
set_option linter.unusedVariables false
set_option linter.unusedSimpArgs false
namespace Go.Proofs.YtgdmjbcllgmepaaGreatDoor.Ab
section
open Go Go.Proofs
set_option maxRecDepth 20000
set_option maxHeartbeats 4000000
theorem XlO{d:Aa}(hb:Hu d≤1000000000):okD d:=by
 have n1:=Iu d.nodes_
 have n2:=Dz d.entries_
 have n3:=Dz d.old_
 have n4:=Gy d.steps_
 have l1:=XcV d.nodes_
 have l2:=Nf d.entries_
 have l3:=Nf d.old_
 have l4:=Qd d.steps_
 unfold Hu at hb
 refine⟨by omega,?_,by omega,?_,by omega,by omega⟩
 ·intro n hn
  have:=F6 (fun x=>Dt x) Yh hn
  have h2:Dt n=(n.text_.size:Int):=rfl
  have h3:D0 d.nodes_=d.nodes_.length+Jt (fun x=>Dt x) d.nodes_:=rfl
  omega
 ·intro n hn
  have:=F6 (fun x=>Cz x) Qz hn
  have h2:Cz n=(n.name_.size:Int):=rfl
  have h3:Cp d.entries_=d.entries_.length+Jt (fun x=>Cz x) d.entries_:=rfl
  omega
end
section
open Go Go.Proofs
set_option maxRecDepth 20000
set_option maxHeartbeats 4000000
theorem Xio{d:Aa}(hb:Hu d≤1048576):I9 d∧d.entries_.length≤100000000∧d.steps_.length≤100000000:=by
 have n1:=Iu d.nodes_
 have n2:=Dz d.entries_
 have n3:=Dz d.old_
 have n4:=Gy d.steps_
 have l2:=Nf d.entries_
 have l4:=Qd d.steps_
 have hd:=XlO (d:=d) (by omega)
 unfold Hu at hb
 refine⟨⟨hd,?_,?_⟩,by omega,by omega⟩
 ·intro n hn
  have:=F6 (fun x=>Cz x) Qz hn
  have h2:Cz n=(n.name_.size:Int):=rfl
  have h3:Cp d.old_=d.old_.length+Jt (fun x=>Cz x) d.old_:=rfl
  omega
 ·intro n hn
  have:=F6 (fun x:ByteArray=>(x.size:Int)) (fun x=>by omega) hn
  have h3:C4 d.steps_=d.steps_.length+Jt (fun x:ByteArray=>(x.size:Int)) d.steps_:=rfl
  omega
end
section
open Go Go.Proofs
set_option maxRecDepth 20000
set_option maxHeartbeats 4000000
theorem ent48:Db Tryz.prog 48:=⟨_,Tryz.func48,rfl,rfl⟩
theorem T48{aD_nodes:List Ax}{xaD_nodes:List (List D)}(haD_nodes:aD_nodes.map A6=xaD_nodes){aD_entries:List Ad}{xaD_entries:List (List D)}(haD_entries:aD_entries.map Ac=xaD_entries){aD_old:List Ad}{xaD_old:List (List D)}(haD_old:aD_old.map Ac=xaD_old){aD_steps:List ByteArray}{xaD_steps:List (List D)}(haD_steps:aD_steps.map cS=xaD_steps){aD_room:Int}{aD_next:Int}{aVersion aN aNames:Int}{aKeeps:List Int}{xaKeeps:List (List D)}(haKeeps:aKeeps.map cI=xaKeeps)(hb:Hu ⟨aD_nodes,aD_entries,aD_old,aD_steps,aD_room,aD_next⟩≤1048576)(hb2:Nc aKeeps≤1048576)(w1:wfI aVersion)(w2:wfI aN)(w3:wfI aNames):CallOk Tryz.prog 48 [.agg [.d (.row 3 xaD_nodes),.d (.row 2 xaD_entries),.d (.row 2 xaD_old),.d (.row 1 xaD_steps),.d (.sc (.int .i64 aD_room)),.d (.sc (.int .i64 aD_next))],.d (.sc (.int .i64 aVersion)),.d (.sc (.int .i64 aN)),.d (.sc (.int .i64 aNames)),.d (.row 1 xaKeeps)] [] ⟨.d (.sc (.bool (Gv ⟨aD_nodes,aD_entries,aD_old,aD_steps,aD_room,aD_next⟩ aVersion aN aNames aKeeps))),[],[]⟩:=by
 have h:=Xio hb
 have hk:=Vx aKeeps
 exact(Xhw haD_nodes haD_entries haD_old haD_steps haKeeps h.1 h.2.1 h.2.2 (by omega) rfl).ok
theorem ent49:Db Tryz.prog 49:=⟨_,Tryz.func49,rfl,rfl⟩
theorem T49{aD_nodes:List Ax}{xaD_nodes:List (List D)}(haD_nodes:aD_nodes.map A6=xaD_nodes){aD_entries:List Ad}{xaD_entries:List (List D)}(haD_entries:aD_entries.map Ac=xaD_entries){aD_old:List Ad}{xaD_old:List (List D)}(haD_old:aD_old.map Ac=xaD_old){aD_steps:List ByteArray}{xaD_steps:List (List D)}(haD_steps:aD_steps.map cS=xaD_steps){aD_room:Int}{aD_next:Int}{aVersion aN aNames:Int}{aKeeps:List Int}{xaKeeps:List (List D)}(haKeeps:aKeeps.map cI=xaKeeps)(hb:Hu ⟨aD_nodes,aD_entries,aD_old,aD_steps,aD_room,aD_next⟩≤1048576)(hb2:Nc aKeeps≤1048576)(w1:wfI aVersion)(w2:wfI aN)(w3:wfI aNames):CallOk Tryz.prog 49 [.agg [.d (.row 3 xaD_nodes),.d (.row 2 xaD_entries),.d (.row 2 xaD_old),.d (.row 1 xaD_steps),.d (.sc (.int .i64 aD_room)),.d (.sc (.int .i64 aD_next))],.d (.sc (.int .i64 aVersion)),.d (.sc (.int .i64 aN)),.d (.sc (.int .i64 aNames)),.d (.row 1 xaKeeps)] [] ⟨.d (.sc (.bool (Gv ⟨aD_nodes,aD_entries,aD_old,aD_steps,aD_room,aD_next⟩ aVersion aN aNames aKeeps))),[],[]⟩:=by
 have h:=Xio hb
 have hk:=Vx aKeeps
 exact(XhL haD_nodes haD_entries haD_old haD_steps haKeeps h.1 h.2.1 h.2.2 (by omega) rfl).ok
noncomputable def c11:Code:=(Tryz.f11.body).getD .skip
theorem T11{aD_nodes:List Ax}{xaD_nodes:List (List D)}(haD_nodes:aD_nodes.map A6=xaD_nodes){aD_entries:List Ad}{xaD_entries:List (List D)}(haD_entries:aD_entries.map Ac=xaD_entries){aD_old:List Ad}{xaD_old:List (List D)}(haD_old:aD_old.map Ac=xaD_old){aD_steps:List ByteArray}{xaD_steps:List (List D)}(haD_steps:aD_steps.map cS=xaD_steps){aD_room:Int}{aD_next:Int}{aVersion:Int}{aN:Int}{aNames:Int}{aKeeps:List Int}{xaKeeps:List (List D)}(haKeeps:aKeeps.map cI=xaKeeps)(ok_aD:XhX ⟨aD_nodes,aD_entries,aD_old,aD_steps,aD_room,aD_next⟩)(wf_aD:Xkr ⟨aD_nodes,aD_entries,aD_old,aD_steps,aD_room,aD_next⟩)(wf_aVersion:wfI aVersion)(wf_aN:wfI aN)(wf_aNames:wfI aNames)(ok_aKeeps:Xkx aKeeps)(wf_aKeeps:XkJ aKeeps):CallOk Tryz.prog 11 [.agg [.d (.row 3 xaD_nodes),.d (.row 2 xaD_entries),.d (.row 2 xaD_old),.d (.row 1 xaD_steps),.d (.sc (.int .i64 aD_room)),.d (.sc (.int .i64 aD_next))],.d (.sc (.int .i64 aVersion)),.d (.sc (.int .i64 aN)),.d (.sc (.int .i64 aNames)),.d (.row 1 xaKeeps)] [] ⟨.d (.sc (.bool true)),[],[]⟩:=by
 have ent28_:=ent28
 have T28_:=@T28
 have ent30_:=ent30
 have T30_:=@T30
 have ent37_:=ent37
 have T37_:=@T37
 have ent39_:=ent39
 have T39_:=@T39
 have ent41_:=ent41
 have T41_:=@T41
 have ent48_:=ent48
 have T48_:=@T48
 have ent49_:=ent49
 have T49_:=@T49
 refine CallOk.of_bodyD (body:=c11) Tryz.func11 rfl (Nat.le_of_ble_eq_true (by kernel_rfl)) rfl ?_
 refine Hl Do mixed ?_
 have hT:=Do
 have hm:=mixed
 generalize hP:Tryz.prog=P at*
 generalize hA:std=A
 obtain⟨qbin,qsh,qcmp,qscmp,qbcmp,qbnot,qneg,qwrap,qcat,qssize,qssub,qsget,qlen,qrsub,qapp,qelt,qset,qnth,qdrp,qstr,qint,qbool,qrow,qnat,qnadd,qnsub,qband,qofNat,qstrRow,qmkRow,qmx,qmn,qbytes,qemp⟩:=A
 have hE:=Ar.eqs hA
 dsimp only at hE
 generalize hQ:EndD P Tryz.f11.results _=Q
 have hself:(∀v:Int,qcmp .neq v v=false)∧(∀v:ByteArray,qscmp .neq v v=false)∧(∀v:Bool,qbnot (qbcmp v v)=false)∧qbnot true=false:=by
  refine⟨fun v=>?_,fun v=>?_,fun v=>?_,?_⟩<;>simp only[hE,Bb,Ln,Av,Bd]<;>simp
 obtain⟨hself1,hself2,hself3,hself4⟩:=hself
 have hn_aKeeps:=XgS haKeeps
 cbv
 try simp only[nc]at*
 split
 ·cbv
  try simp only[nc]at*
  rw[←hQ]
  exact Da rfl rfl
 rename_i c0
 simp only[hE,List.length_map,Bp,Bu,Bq,Bt,Bn,Bb,A8,Bo,A0,A2,At,Bd,Az,Av,Bi,As,A3,A1,Br,IntKind.wrap_i64,decide_eq_true_eq,decide_eq_false_iff_not,Bool.not_eq_true',Bool.not_eq_false',Option.getD_none,Option.getD_some,hn_aKeeps]at c0
 have bd_aKeeps:Nc aKeeps≤1048576:=by unfold Nc;omega
 cbv
 try simp only[nc]at*
 refine ClW.dd (f:=37) rfl rfl rfl rfl (.cons rfl (.cons rfl .nil)) rfl ent37_ (T37_ haD_nodes haD_entries haD_old haD_steps (by omega) (by omega) ok_aD) rfl ?_
 generalize aa:Im (Hu (⟨aD_nodes,aD_entries,aD_old,aD_steps,aD_room,aD_next⟩:Aa)) 1048576=left0
 cbv
 try simp only[nc]at*
 split
 ·cbv
  try simp only[nc]at*
  rw[←hQ]
  exact Da rfl rfl
 rename_i c4
 simp only[hE,List.length_map,Bp,Bu,Bq,Bt,Bn,Bb,A8,Bo,A0,A2,At,Bd,Az,Av,Bi,As,A3,A1,Br,IntKind.wrap_i64,decide_eq_true_eq,decide_eq_false_iff_not,Bool.not_eq_true',Bool.not_eq_false',Option.getD_none,Option.getD_some]at c4
 obtain⟨g0,g0'⟩:=Qi (t:=Hu (⟨aD_nodes,aD_entries,aD_old,aD_steps,aD_room,aD_next⟩:Aa)) (left:=1048576) (by omega)
 have nn0:=Xgs (⟨aD_nodes,aD_entries,aD_old,aD_steps,aD_room,aD_next⟩:Aa)
 have bd_aD:Hu (⟨aD_nodes,aD_entries,aD_old,aD_steps,aD_room,aD_next⟩:Aa)≤1048576:=by omega
 cbv
 try simp only[nc]at*
 refine ClW.dd (f:=39) rfl rfl rfl rfl (.cons rfl .nil) rfl ent39_ (T39_ haD_nodes haD_entries haD_old haD_steps bd_aD) rfl ?_
 cbv
 try simp only[nc]at*
 refine ClW.dd (f:=28) rfl rfl rfl rfl (.cons rfl .nil) rfl ent28_ (T28_ haKeeps bd_aKeeps) rfl ?_
 cbv
 try simp only[nc]at*
 refine ClW.dd (f:=48) rfl rfl rfl rfl (.cons rfl (.cons rfl (.cons rfl (.cons rfl (.cons rfl .nil))))) rfl ent48_ (T48_ haD_nodes haD_entries haD_old haD_steps haKeeps bd_aD bd_aKeeps wf_aVersion wf_aN wf_aNames) rfl ?_
 generalize hr:Gv (⟨aD_nodes,aD_entries,aD_old,aD_steps,aD_room,aD_next⟩:Aa) aVersion aN aNames aKeeps=r
 cbv
 try simp only[nc]at*
 refine ClW.dd (f:=39) rfl rfl rfl rfl (.cons rfl .nil) rfl ent39_ (T39_ haD_nodes haD_entries haD_old haD_steps bd_aD) rfl ?_
 cbv
 try simp only[nc]at*
 refine ClW.dd (f:=28) rfl rfl rfl rfl (.cons rfl .nil) rfl ent28_ (T28_ haKeeps bd_aKeeps) rfl ?_
 cbv
 try simp only[nc]at*
 refine ClW.dd (f:=49) rfl rfl rfl rfl (.cons rfl (.cons rfl (.cons rfl (.cons rfl (.cons rfl .nil))))) rfl ent49_ (T49_ haD_nodes haD_entries haD_old haD_steps haKeeps bd_aD bd_aKeeps wf_aVersion wf_aN wf_aNames) rfl ?_
 rw[hr]
 cbv
 try simp only[nc]at*
 rw[hself3]
 cbv
 try simp only[nc]at*
 refine ClW.dd (f:=39) rfl rfl rfl rfl (.cons rfl .nil) rfl ent39_ (T39_ haD_nodes haD_entries haD_old haD_steps bd_aD) rfl ?_
 cbv
 try simp only[nc]at*
 refine ClW.dd (f:=41) rfl rfl rfl rfl (.cons rfl (.cons rfl .nil)) rfl ent41_ (T41_ haD_nodes haD_entries haD_old haD_steps (by omega)) rfl ?_
 cbv
 try simp only[nc]at*
 rw[hself4]
 cbv
 try simp only[nc]at*
 refine ClW.dd (f:=28) rfl rfl rfl rfl (.cons rfl .nil) rfl ent28_ (T28_ haKeeps bd_aKeeps) rfl ?_
 cbv
 try simp only[nc]at*
 refine ClW.dd (f:=30) rfl rfl rfl rfl (.cons rfl (.cons rfl .nil)) rfl ent30_ (T30_ haKeeps (by omega)) rfl ?_
 cbv
 try simp only[nc]at*
 rw[hself4]
 cbv
 try simp only[nc]at*
 rw[←hQ]
 exact Da rfl rfl
end
end Go.Proofs.YtgdmjbcllgmepaaGreatDoor.Ab
