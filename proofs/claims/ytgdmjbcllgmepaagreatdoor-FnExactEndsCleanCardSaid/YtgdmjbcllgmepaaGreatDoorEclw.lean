/- What functions of the program come to, for all arguments in the given bounds. -/
import Derived.Test.YtgdmjbcllgmepaaGreatDoorEcch06y
import Derived.Test.YtgdmjbcllgmepaaGreatDoorEcHsz
set_option linter.unusedVariables false
set_option linter.unusedSimpArgs false
namespace Go.Proofs.YtgdmjbcllgmepaaGreatDoor.Ab
section
open Go Go.Proofs
set_option maxRecDepth 20000
set_option maxHeartbeats 4000000
theorem Xms{d:Aa}(hb:H3 d≤1000000000):okD d:=by
 have n1:=I9 d.nodes_
 have n2:=D4 d.entries_
 have n3:=D4 d.old_
 have n4:=Hc d.steps_
 have l1:=Xdk d.nodes_
 have l2:=M8 d.entries_
 have l3:=M8 d.old_
 have l4:=Pz d.steps_
 unfold H3 at hb
 refine⟨by omega,?_,by omega,?_,by omega,by omega⟩
 ·intro n hn
  have:=F9 (fun x=>Dx x) Xv hn
  have h2:Dx n=(n.text_.size:Int):=rfl
  have h3:D5 d.nodes_=d.nodes_.length+J7 (fun x=>Dx x) d.nodes_:=rfl
  omega
 ·intro n hn
  have:=F9 (fun x=>C1 x) Qm hn
  have h2:C1 n=(n.name_.size:Int):=rfl
  have h3:Cr d.entries_=d.entries_.length+J7 (fun x=>C1 x) d.entries_:=rfl
  omega
end
section
open Go Go.Proofs
set_option maxRecDepth 20000
set_option maxHeartbeats 4000000
theorem Xhk{d:Aa}(hb:H3 d≤1048576):La d∧d.entries_.length≤100000000∧d.steps_.length≤100000000:=by
 have n1:=I9 d.nodes_
 have n2:=D4 d.entries_
 have n3:=D4 d.old_
 have n4:=Hc d.steps_
 have l2:=M8 d.entries_
 have l4:=Pz d.steps_
 have hd:=Xms (d:=d) (by omega)
 unfold H3 at hb
 refine⟨⟨hd,?_,?_⟩,by omega,by omega⟩
 ·intro n hn
  have:=F9 (fun x=>C1 x) Qm hn
  have h2:C1 n=(n.name_.size:Int):=rfl
  have h3:Cr d.old_=d.old_.length+J7 (fun x=>C1 x) d.old_:=rfl
  omega
 ·intro n hn
  have:=F9 (fun x:ByteArray=>(x.size:Int)) (fun x=>by omega) hn
  have h3:C6 d.steps_=d.steps_.length+J7 (fun x:ByteArray=>(x.size:Int)) d.steps_:=rfl
  omega
end
section
open Go Go.Proofs
set_option maxRecDepth 20000
set_option maxHeartbeats 4000000
theorem ent50:Dl Tryz.prog 50:=⟨_,Tryz.func50,rfl,rfl⟩
theorem T50{aD_nodes:List Be}{xaD_nodes:List (List D)}(haD_nodes:aD_nodes.map A8=xaD_nodes){aD_entries:List Ad}{xaD_entries:List (List D)}(haD_entries:aD_entries.map Ac=xaD_entries){aD_old:List Ad}{xaD_old:List (List D)}(haD_old:aD_old.map Ac=xaD_old){aD_steps:List ByteArray}{xaD_steps:List (List D)}(haD_steps:aD_steps.map cS=xaD_steps){aD_room:Int}{aD_next:Int}{aVersion:Int}(hb:H3 ⟨aD_nodes,aD_entries,aD_old,aD_steps,aD_room,aD_next⟩≤1048576)(w1:wfI aVersion):CallOk Tryz.prog 50 [.agg [.d (.row 3 xaD_nodes),.d (.row 2 xaD_entries),.d (.row 2 xaD_old),.d (.row 1 xaD_steps),.d (.sc (.int .i64 aD_room)),.d (.sc (.int .i64 aD_next))],.d (.sc (.int .i64 aVersion))] [] ⟨.d (.sc (.bool (By ⟨aD_nodes,aD_entries,aD_old,aD_steps,aD_room,aD_next⟩ aVersion))),[],[]⟩:=by
 have h:=Xhk hb
 exact(Xd3 haD_nodes haD_entries haD_old haD_steps h.1 h.2.1 h.2.2 rfl).ok
noncomputable def c51:Code:=(Tryz.f51.body).getD .skip
theorem ent51:Dl Tryz.prog 51:=⟨_,Tryz.func51,rfl,rfl⟩
theorem T51{aD_nodes:List Be}{xaD_nodes:List (List D)}(haD_nodes:aD_nodes.map A8=xaD_nodes){aD_entries:List Ad}{xaD_entries:List (List D)}(haD_entries:aD_entries.map Ac=xaD_entries){aD_old:List Ad}{xaD_old:List (List D)}(haD_old:aD_old.map Ac=xaD_old){aD_steps:List ByteArray}{xaD_steps:List (List D)}(haD_steps:aD_steps.map cS=xaD_steps){aD_room:Int}{aD_next:Int}{aVersion:Int}(hb:H3 ⟨aD_nodes,aD_entries,aD_old,aD_steps,aD_room,aD_next⟩≤1048576)(w1:wfI aVersion):CallOk Tryz.prog 51 [.agg [.d (.row 3 xaD_nodes),.d (.row 2 xaD_entries),.d (.row 2 xaD_old),.d (.row 1 xaD_steps),.d (.sc (.int .i64 aD_room)),.d (.sc (.int .i64 aD_next))],.d (.sc (.int .i64 aVersion))] [] ⟨.d (.sc (.bool (By ⟨aD_nodes,aD_entries,aD_old,aD_steps,aD_room,aD_next⟩ aVersion))),[],[]⟩:=by
 have h:=Xhk hb
 exact(Xec haD_nodes haD_entries haD_old haD_steps h.1 h.2.1 h.2.2 rfl).ok
noncomputable def c12:Code:=(Tryz.f12.body).getD .skip
theorem T12{aD_nodes:List Be}{xaD_nodes:List (List D)}(haD_nodes:aD_nodes.map A8=xaD_nodes){aD_entries:List Ad}{xaD_entries:List (List D)}(haD_entries:aD_entries.map Ac=xaD_entries){aD_old:List Ad}{xaD_old:List (List D)}(haD_old:aD_old.map Ac=xaD_old){aD_steps:List ByteArray}{xaD_steps:List (List D)}(haD_steps:aD_steps.map cS=xaD_steps){aD_room:Int}{aD_next:Int}{aVersion:Int}(ok_aD:Xif ⟨aD_nodes,aD_entries,aD_old,aD_steps,aD_room,aD_next⟩)(wf_aD:XkM ⟨aD_nodes,aD_entries,aD_old,aD_steps,aD_room,aD_next⟩)(wf_aVersion:wfI aVersion):CallOk Tryz.prog 12 [.agg [.d (.row 3 xaD_nodes),.d (.row 2 xaD_entries),.d (.row 2 xaD_old),.d (.row 1 xaD_steps),.d (.sc (.int .i64 aD_room)),.d (.sc (.int .i64 aD_next))],.d (.sc (.int .i64 aVersion))] [] ⟨.d (.sc (.bool true)),[],[]⟩:=by
 have ent37_:=ent37
 have T37_:=@T37
 have ent39_:=ent39
 have T39_:=@T39
 have ent41_:=ent41
 have T41_:=@T41
 have ent50_:=ent50
 have T50_:=@T50
 have ent51_:=ent51
 have T51_:=@T51
 refine CallOk.of_bodyD (body:=c12) Tryz.func12 rfl (Nat.le_of_ble_eq_true (by kernel_rfl)) rfl ?_
 refine Iv D3 mixed ?_
 have hT:=D3
 have hm:=mixed
 generalize hP:Tryz.prog=P at*
 generalize hA:std=A
 obtain⟨qbin,qsh,qcmp,qscmp,qbcmp,qbnot,qneg,qwrap,qcat,qssize,qssub,qsget,qlen,qrsub,qapp,qelt,qset,qnth,qdrp,qstr,qint,qbool,qrow,qnat,qnadd,qnsub,qband,qofNat,qstrRow,qmkRow,qmx,qmn,qbytes,qemp⟩:=A
 have hE:=Ar.eqs hA
 dsimp only at hE
 generalize hQ:EndD P Tryz.f12.results _=Q
 have hself:(∀v:Int,qcmp .neq v v=false)∧(∀v:ByteArray,qscmp .neq v v=false)∧(∀v:Bool,qbnot (qbcmp v v)=false)∧qbnot true=false:=by
  refine⟨fun v=>?_,fun v=>?_,fun v=>?_,?_⟩<;>simp only[hE,Bm,Nl,A0,Bk]<;>simp
 obtain⟨hself1,hself2,hself3,hself4⟩:=hself
 cbv
 try simp only[nc]at*
 refine ClW.dd (f:=37) rfl rfl rfl rfl (.cons rfl (.cons rfl .nil)) rfl ent37_ (T37_ haD_nodes haD_entries haD_old haD_steps (by omega) (by omega) ok_aD) rfl ?_
 generalize aa:Iu (H3 (⟨aD_nodes,aD_entries,aD_old,aD_steps,aD_room,aD_next⟩:Aa)) 1048576=left0
 cbv
 try simp only[nc]at*
 split
 ·cbv
  try simp only[nc]at*
  rw[←hQ]
  exact Dk rfl rfl
 rename_i c1
 simp only[hE,List.length_map,B2,B0,B1,Bz,Bv,Bm,Bj,Bx,Bc,Bd,Aw,Bk,A9,A0,Bq,Ax,Bb,Ba,B3,IntKind.wrap_i64,decide_eq_true_eq,decide_eq_false_iff_not,Bool.not_eq_true',Bool.not_eq_false',Option.getD_none,Option.getD_some]at c1
 obtain⟨g0,g0'⟩:=Qd (t:=H3 (⟨aD_nodes,aD_entries,aD_old,aD_steps,aD_room,aD_next⟩:Aa)) (left:=1048576) (by omega)
 have nn0:=Xg2 (⟨aD_nodes,aD_entries,aD_old,aD_steps,aD_room,aD_next⟩:Aa)
 have bd_aD:H3 (⟨aD_nodes,aD_entries,aD_old,aD_steps,aD_room,aD_next⟩:Aa)≤1048576:=by omega
 cbv
 try simp only[nc]at*
 refine ClW.dd (f:=39) rfl rfl rfl rfl (.cons rfl .nil) rfl ent39_ (T39_ haD_nodes haD_entries haD_old haD_steps bd_aD) rfl ?_
 cbv
 try simp only[nc]at*
 refine ClW.dd (f:=50) rfl rfl rfl rfl (.cons rfl (.cons rfl .nil)) rfl ent50_ (T50_ haD_nodes haD_entries haD_old haD_steps bd_aD wf_aVersion) rfl ?_
 generalize hr:By (⟨aD_nodes,aD_entries,aD_old,aD_steps,aD_room,aD_next⟩:Aa) aVersion=r
 cbv
 try simp only[nc]at*
 refine ClW.dd (f:=39) rfl rfl rfl rfl (.cons rfl .nil) rfl ent39_ (T39_ haD_nodes haD_entries haD_old haD_steps bd_aD) rfl ?_
 cbv
 try simp only[nc]at*
 refine ClW.dd (f:=51) rfl rfl rfl rfl (.cons rfl (.cons rfl .nil)) rfl ent51_ (T51_ haD_nodes haD_entries haD_old haD_steps bd_aD wf_aVersion) rfl ?_
 rw[hr]
 cbv
 try simp only[nc]at*
 rw[hself3]
 cbv
 try simp only[nc]at*
 refine ClW.dd (f:=39) rfl rfl rfl rfl (.cons rfl .nil) rfl ent39_ (T39_ haD_nodes haD_entries haD_old haD_steps bd_aD) rfl ?_
 cbv
 try simp only[nc]at*
 refine ClW.dd (f:=41) rfl rfl rfl rfl (.cons rfl (.cons rfl .nil)) rfl ent41_ (T41_ haD_nodes haD_entries haD_old haD_steps (by omega)) rfl ?_
 cbv
 try simp only[nc]at*
 rw[hself4]
 cbv
 try simp only[nc]at*
 rw[←hQ]
 exact Dk rfl rfl
end
end Go.Proofs.YtgdmjbcllgmepaaGreatDoor.Ab
