/- What functions of the program come to, for all arguments in the given bounds. -/
import Derived.Test.YtgdmjbcllgmepaaGreatDoorHach06v
import Derived.Test.YtgdmjbcllgmepaaGreatDoorHaHsz
set_option linter.unusedVariables false
set_option linter.unusedSimpArgs false
namespace Go.Proofs.YtgdmjbcllgmepaaGreatDoor.Ab
section
open Go Go.Proofs
set_option maxRecDepth 20000
set_option maxHeartbeats 4000000
theorem Xhi{d:Ad}(hb:Em d≤1000000000):okD d:=by
 have n1:=Gq d.nodes_
 have n2:=C1 d.entries_
 have n3:=C1 d.old_
 have n4:=Cp d.steps_
 have l1:=Wd d.nodes_
 have l2:=J7 d.entries_
 have l3:=J7 d.old_
 have l4:=Mc d.steps_
 unfold Em at hb
 refine⟨by omega,?_,by omega,?_,by omega,by omega⟩
 ·intro n hn
  have:=Ev (fun x=>Cw x) Sr hn
  have h2:Cw n=(n.text_.size:Int):=rfl
  have h3:C3 d.nodes_=d.nodes_.length+G7 (fun x=>Cw x) d.nodes_:=rfl
  omega
 ·intro n hn
  have:=Ev (fun x=>B2 x) Mk hn
  have h2:B2 n=(n.name_.size:Int):=rfl
  have h3:Br d.entries_=d.entries_.length+G7 (fun x=>B2 x) d.entries_:=rfl
  omega
end
section
open Go Go.Proofs
set_option maxRecDepth 20000
set_option maxHeartbeats 4000000
theorem XdE{d:Ad}(hb:Em d≤1048576):Xbf d∧d.entries_.length≤100000000∧d.steps_.length≤100000000:=by
 have n1:=Gq d.nodes_
 have n2:=C1 d.entries_
 have n3:=C1 d.old_
 have n4:=Cp d.steps_
 have l2:=J7 d.entries_
 have l4:=Mc d.steps_
 have hd:=Xhi (d:=d) (by omega)
 unfold Em at hb
 refine⟨⟨hd,?_,?_⟩,by omega,by omega⟩
 ·intro n hn
  have:=Ev (fun x=>B2 x) Mk hn
  have h2:B2 n=(n.name_.size:Int):=rfl
  have h3:Br d.old_=d.old_.length+G7 (fun x=>B2 x) d.old_:=rfl
  omega
 ·intro n hn
  have:=Ev (fun x:ByteArray=>(x.size:Int)) (fun x=>by omega) hn
  have h3:Bk d.steps_=d.steps_.length+G7 (fun x:ByteArray=>(x.size:Int)) d.steps_:=rfl
  omega
end
section
open Go Go.Proofs
set_option maxRecDepth 20000
set_option maxHeartbeats 4000000
theorem ent27:Bq Tryz.prog 27:=⟨_,Tryz.func27,rfl,rfl⟩
theorem T27{aW_set_room:Int}{aW_set_version:Int}{aW_set_stride:Int}{aW_set_roll:Int}{aW_disk_nodes:List Bb}{xaW_disk_nodes:List (List D)}(haW_disk_nodes:aW_disk_nodes.map Ce=xaW_disk_nodes){aW_disk_entries:List Aa}{xaW_disk_entries:List (List D)}(haW_disk_entries:aW_disk_entries.map Ac=xaW_disk_entries){aW_disk_old:List Aa}{xaW_disk_old:List (List D)}(haW_disk_old:aW_disk_old.map Ac=xaW_disk_old){aW_disk_steps:List ByteArray}{xaW_disk_steps:List (List D)}(haW_disk_steps:aW_disk_steps.map cS=xaW_disk_steps){aW_disk_room:Int}{aW_disk_next:Int}{aW_writer_version:Int}{aW_writer_stride:Int}{aW_writer_roll:Int}{aW_writer_base:Int}{aW_writer_link:Int}{aW_writer_offsets:List Int}{xaW_writer_offsets:List (List D)}(haW_writer_offsets:aW_writer_offsets.map cI=xaW_writer_offsets){aW_writer_end:Int}{aW_writer_open:Bool}{aW_writer_code:Int}{aW_told:List ByteArray}{xaW_told:List (List D)}(haW_told:aW_told.map cS=xaW_told){aW_sure:Int}{aW_falls:Int}{aNames:Int}{aKeeps:List Int}{xaKeeps:List (List D)}(haKeeps:aKeeps.map cI=xaKeeps)(hb:Fg ⟨⟨aW_set_room,aW_set_version,aW_set_stride,aW_set_roll⟩,⟨aW_disk_nodes,aW_disk_entries,aW_disk_old,aW_disk_steps,aW_disk_room,aW_disk_next⟩,⟨aW_writer_version,aW_writer_stride,aW_writer_roll,aW_writer_base,aW_writer_link,aW_writer_offsets,aW_writer_end,aW_writer_open,aW_writer_code⟩,aW_told,aW_sure,aW_falls⟩≤1048576)(hb2:Dv aKeeps≤1048576)(w3:wfI aNames):CallOk Tryz.prog 27 [.agg [.d (.sc (.int .i64 aW_set_room)),.d (.sc (.int .i64 aW_set_version)),.d (.sc (.int .i64 aW_set_stride)),.d (.sc (.int .i64 aW_set_roll)),.d (.row 3 xaW_disk_nodes),.d (.row 2 xaW_disk_entries),.d (.row 2 xaW_disk_old),.d (.row 1 xaW_disk_steps),.d (.sc (.int .i64 aW_disk_room)),.d (.sc (.int .i64 aW_disk_next)),.d (.sc (.int .i64 aW_writer_version)),.d (.sc (.int .i64 aW_writer_stride)),.d (.sc (.int .i64 aW_writer_roll)),.d (.sc (.int .i64 aW_writer_base)),.d (.sc (.int .i64 aW_writer_link)),.d (.row 1 xaW_writer_offsets),.d (.sc (.int .i64 aW_writer_end)),.d (.sc (.bool aW_writer_open)),.d (.sc (.int .i64 aW_writer_code)),.d (.row 1 xaW_told),.d (.sc (.int .i64 aW_sure)),.d (.sc (.int .i64 aW_falls))],.d (.sc (.int .i64 aNames)),.d (.row 1 xaKeeps)] [] ⟨.d (.sc (.bool (Db ⟨⟨aW_set_room,aW_set_version,aW_set_stride,aW_set_roll⟩,⟨aW_disk_nodes,aW_disk_entries,aW_disk_old,aW_disk_steps,aW_disk_room,aW_disk_next⟩,⟨aW_writer_version,aW_writer_stride,aW_writer_roll,aW_writer_base,aW_writer_link,aW_writer_offsets,aW_writer_end,aW_writer_open,aW_writer_code⟩,aW_told,aW_sure,aW_falls⟩ aNames aKeeps))),[],[]⟩:=by
 have h1:=Hs (⟨⟨aW_set_room,aW_set_version,aW_set_stride,aW_set_roll⟩,⟨aW_disk_nodes,aW_disk_entries,aW_disk_old,aW_disk_steps,aW_disk_room,aW_disk_next⟩,⟨aW_writer_version,aW_writer_stride,aW_writer_roll,aW_writer_base,aW_writer_link,aW_writer_offsets,aW_writer_end,aW_writer_open,aW_writer_code⟩,aW_told,aW_sure,aW_falls⟩:C6).disk_
 have h2:=F1 (⟨⟨aW_set_room,aW_set_version,aW_set_stride,aW_set_roll⟩,⟨aW_disk_nodes,aW_disk_entries,aW_disk_old,aW_disk_steps,aW_disk_room,aW_disk_next⟩,⟨aW_writer_version,aW_writer_stride,aW_writer_roll,aW_writer_base,aW_writer_link,aW_writer_offsets,aW_writer_end,aW_writer_open,aW_writer_code⟩,aW_told,aW_sure,aW_falls⟩:C6).writer_
 have h3:=Cp (⟨⟨aW_set_room,aW_set_version,aW_set_stride,aW_set_roll⟩,⟨aW_disk_nodes,aW_disk_entries,aW_disk_old,aW_disk_steps,aW_disk_room,aW_disk_next⟩,⟨aW_writer_version,aW_writer_stride,aW_writer_roll,aW_writer_base,aW_writer_link,aW_writer_offsets,aW_writer_end,aW_writer_open,aW_writer_code⟩,aW_told,aW_sure,aW_falls⟩:C6).told_
 have aa:Em (⟨⟨aW_set_room,aW_set_version,aW_set_stride,aW_set_roll⟩,⟨aW_disk_nodes,aW_disk_entries,aW_disk_old,aW_disk_steps,aW_disk_room,aW_disk_next⟩,⟨aW_writer_version,aW_writer_stride,aW_writer_roll,aW_writer_base,aW_writer_link,aW_writer_offsets,aW_writer_end,aW_writer_open,aW_writer_code⟩,aW_told,aW_sure,aW_falls⟩:C6).disk_≤1048576:=by unfold Fg at hb;omega
 have hk:=Qt aKeeps
 exact(Xy haW_disk_nodes haW_disk_entries haW_disk_old haW_disk_steps haW_writer_offsets haW_told haKeeps (XdE aa).1 (by omega) rfl).ok
theorem ent29:Bq Tryz.prog 29:=⟨_,Tryz.func29,rfl,rfl⟩
theorem T29{aW_set_room:Int}{aW_set_version:Int}{aW_set_stride:Int}{aW_set_roll:Int}{aW_disk_nodes:List Bb}{xaW_disk_nodes:List (List D)}(haW_disk_nodes:aW_disk_nodes.map Ce=xaW_disk_nodes){aW_disk_entries:List Aa}{xaW_disk_entries:List (List D)}(haW_disk_entries:aW_disk_entries.map Ac=xaW_disk_entries){aW_disk_old:List Aa}{xaW_disk_old:List (List D)}(haW_disk_old:aW_disk_old.map Ac=xaW_disk_old){aW_disk_steps:List ByteArray}{xaW_disk_steps:List (List D)}(haW_disk_steps:aW_disk_steps.map cS=xaW_disk_steps){aW_disk_room:Int}{aW_disk_next:Int}{aW_writer_version:Int}{aW_writer_stride:Int}{aW_writer_roll:Int}{aW_writer_base:Int}{aW_writer_link:Int}{aW_writer_offsets:List Int}{xaW_writer_offsets:List (List D)}(haW_writer_offsets:aW_writer_offsets.map cI=xaW_writer_offsets){aW_writer_end:Int}{aW_writer_open:Bool}{aW_writer_code:Int}{aW_told:List ByteArray}{xaW_told:List (List D)}(haW_told:aW_told.map cS=xaW_told){aW_sure:Int}{aW_falls:Int}{aNames:Int}{aKeeps:List Int}{xaKeeps:List (List D)}(haKeeps:aKeeps.map cI=xaKeeps)(hb:Fg ⟨⟨aW_set_room,aW_set_version,aW_set_stride,aW_set_roll⟩,⟨aW_disk_nodes,aW_disk_entries,aW_disk_old,aW_disk_steps,aW_disk_room,aW_disk_next⟩,⟨aW_writer_version,aW_writer_stride,aW_writer_roll,aW_writer_base,aW_writer_link,aW_writer_offsets,aW_writer_end,aW_writer_open,aW_writer_code⟩,aW_told,aW_sure,aW_falls⟩≤1048576)(hb2:Dv aKeeps≤1048576)(w3:wfI aNames):CallOk Tryz.prog 29 [.agg [.d (.sc (.int .i64 aW_set_room)),.d (.sc (.int .i64 aW_set_version)),.d (.sc (.int .i64 aW_set_stride)),.d (.sc (.int .i64 aW_set_roll)),.d (.row 3 xaW_disk_nodes),.d (.row 2 xaW_disk_entries),.d (.row 2 xaW_disk_old),.d (.row 1 xaW_disk_steps),.d (.sc (.int .i64 aW_disk_room)),.d (.sc (.int .i64 aW_disk_next)),.d (.sc (.int .i64 aW_writer_version)),.d (.sc (.int .i64 aW_writer_stride)),.d (.sc (.int .i64 aW_writer_roll)),.d (.sc (.int .i64 aW_writer_base)),.d (.sc (.int .i64 aW_writer_link)),.d (.row 1 xaW_writer_offsets),.d (.sc (.int .i64 aW_writer_end)),.d (.sc (.bool aW_writer_open)),.d (.sc (.int .i64 aW_writer_code)),.d (.row 1 xaW_told),.d (.sc (.int .i64 aW_sure)),.d (.sc (.int .i64 aW_falls))],.d (.sc (.int .i64 aNames)),.d (.row 1 xaKeeps)] [] ⟨.d (.sc (.bool (Db ⟨⟨aW_set_room,aW_set_version,aW_set_stride,aW_set_roll⟩,⟨aW_disk_nodes,aW_disk_entries,aW_disk_old,aW_disk_steps,aW_disk_room,aW_disk_next⟩,⟨aW_writer_version,aW_writer_stride,aW_writer_roll,aW_writer_base,aW_writer_link,aW_writer_offsets,aW_writer_end,aW_writer_open,aW_writer_code⟩,aW_told,aW_sure,aW_falls⟩ aNames aKeeps))),[],[]⟩:=by
 have h1:=Hs (⟨⟨aW_set_room,aW_set_version,aW_set_stride,aW_set_roll⟩,⟨aW_disk_nodes,aW_disk_entries,aW_disk_old,aW_disk_steps,aW_disk_room,aW_disk_next⟩,⟨aW_writer_version,aW_writer_stride,aW_writer_roll,aW_writer_base,aW_writer_link,aW_writer_offsets,aW_writer_end,aW_writer_open,aW_writer_code⟩,aW_told,aW_sure,aW_falls⟩:C6).disk_
 have h2:=F1 (⟨⟨aW_set_room,aW_set_version,aW_set_stride,aW_set_roll⟩,⟨aW_disk_nodes,aW_disk_entries,aW_disk_old,aW_disk_steps,aW_disk_room,aW_disk_next⟩,⟨aW_writer_version,aW_writer_stride,aW_writer_roll,aW_writer_base,aW_writer_link,aW_writer_offsets,aW_writer_end,aW_writer_open,aW_writer_code⟩,aW_told,aW_sure,aW_falls⟩:C6).writer_
 have h3:=Cp (⟨⟨aW_set_room,aW_set_version,aW_set_stride,aW_set_roll⟩,⟨aW_disk_nodes,aW_disk_entries,aW_disk_old,aW_disk_steps,aW_disk_room,aW_disk_next⟩,⟨aW_writer_version,aW_writer_stride,aW_writer_roll,aW_writer_base,aW_writer_link,aW_writer_offsets,aW_writer_end,aW_writer_open,aW_writer_code⟩,aW_told,aW_sure,aW_falls⟩:C6).told_
 have aa:Em (⟨⟨aW_set_room,aW_set_version,aW_set_stride,aW_set_roll⟩,⟨aW_disk_nodes,aW_disk_entries,aW_disk_old,aW_disk_steps,aW_disk_room,aW_disk_next⟩,⟨aW_writer_version,aW_writer_stride,aW_writer_roll,aW_writer_base,aW_writer_link,aW_writer_offsets,aW_writer_end,aW_writer_open,aW_writer_code⟩,aW_told,aW_sure,aW_falls⟩:C6).disk_≤1048576:=by unfold Fg at hb;omega
 have hk:=Qt aKeeps
 exact(Xk haW_disk_nodes haW_disk_entries haW_disk_old haW_disk_steps haW_writer_offsets haW_told haKeeps (XdE aa).1 (by omega) rfl).ok
noncomputable def c5:Code:=(Tryz.f5.body).getD .skip
theorem T5{aW_set_room:Int}{aW_set_version:Int}{aW_set_stride:Int}{aW_set_roll:Int}{aW_disk_nodes:List Bb}{xaW_disk_nodes:List (List D)}(haW_disk_nodes:aW_disk_nodes.map Ce=xaW_disk_nodes){aW_disk_entries:List Aa}{xaW_disk_entries:List (List D)}(haW_disk_entries:aW_disk_entries.map Ac=xaW_disk_entries){aW_disk_old:List Aa}{xaW_disk_old:List (List D)}(haW_disk_old:aW_disk_old.map Ac=xaW_disk_old){aW_disk_steps:List ByteArray}{xaW_disk_steps:List (List D)}(haW_disk_steps:aW_disk_steps.map cS=xaW_disk_steps){aW_disk_room:Int}{aW_disk_next:Int}{aW_writer_version:Int}{aW_writer_stride:Int}{aW_writer_roll:Int}{aW_writer_base:Int}{aW_writer_link:Int}{aW_writer_offsets:List Int}{xaW_writer_offsets:List (List D)}(haW_writer_offsets:aW_writer_offsets.map cI=xaW_writer_offsets){aW_writer_end:Int}{aW_writer_open:Bool}{aW_writer_code:Int}{aW_told:List ByteArray}{xaW_told:List (List D)}(haW_told:aW_told.map cS=xaW_told){aW_sure:Int}{aW_falls:Int}{aNames:Int}{aKeeps:List Int}{xaKeeps:List (List D)}(haKeeps:aKeeps.map cI=xaKeeps)(ok_aW:Yg ⟨⟨aW_set_room,aW_set_version,aW_set_stride,aW_set_roll⟩,⟨aW_disk_nodes,aW_disk_entries,aW_disk_old,aW_disk_steps,aW_disk_room,aW_disk_next⟩,⟨aW_writer_version,aW_writer_stride,aW_writer_roll,aW_writer_base,aW_writer_link,aW_writer_offsets,aW_writer_end,aW_writer_open,aW_writer_code⟩,aW_told,aW_sure,aW_falls⟩)(wf_aW:XcC ⟨⟨aW_set_room,aW_set_version,aW_set_stride,aW_set_roll⟩,⟨aW_disk_nodes,aW_disk_entries,aW_disk_old,aW_disk_steps,aW_disk_room,aW_disk_next⟩,⟨aW_writer_version,aW_writer_stride,aW_writer_roll,aW_writer_base,aW_writer_link,aW_writer_offsets,aW_writer_end,aW_writer_open,aW_writer_code⟩,aW_told,aW_sure,aW_falls⟩)(wf_aNames:wfI aNames)(ok_aKeeps:Xe aKeeps)(wf_aKeeps:XcE aKeeps):CallOk Tryz.prog 5 [.agg [.d (.sc (.int .i64 aW_set_room)),.d (.sc (.int .i64 aW_set_version)),.d (.sc (.int .i64 aW_set_stride)),.d (.sc (.int .i64 aW_set_roll)),.d (.row 3 xaW_disk_nodes),.d (.row 2 xaW_disk_entries),.d (.row 2 xaW_disk_old),.d (.row 1 xaW_disk_steps),.d (.sc (.int .i64 aW_disk_room)),.d (.sc (.int .i64 aW_disk_next)),.d (.sc (.int .i64 aW_writer_version)),.d (.sc (.int .i64 aW_writer_stride)),.d (.sc (.int .i64 aW_writer_roll)),.d (.sc (.int .i64 aW_writer_base)),.d (.sc (.int .i64 aW_writer_link)),.d (.row 1 xaW_writer_offsets),.d (.sc (.int .i64 aW_writer_end)),.d (.sc (.bool aW_writer_open)),.d (.sc (.int .i64 aW_writer_code)),.d (.row 1 xaW_told),.d (.sc (.int .i64 aW_sure)),.d (.sc (.int .i64 aW_falls))],.d (.sc (.int .i64 aNames)),.d (.row 1 xaKeeps)] [] ⟨.d (.sc (.bool true)),[],[]⟩:=by
 have ent14_:=ent14
 have T14_:=@T14
 have ent16_:=ent16
 have T16_:=@T16
 have ent19_:=ent19
 have T19_:=@T19
 have ent27_:=ent27
 have T27_:=@T27
 have ent28_:=Xhj
 have T28_:=@T28
 have ent29_:=ent29
 have T29_:=@T29
 have ent30_:=Xhk
 have T30_:=@T30
 refine CallOk.of_bodyD (body:=c5) Tryz.func5 rfl (Nat.le_of_ble_eq_true (by kernel_rfl)) rfl ?_
 refine Eg Bu mixed ?_
 have hT:=Bu
 have hm:=mixed
 generalize hP:Tryz.prog=P at*
 generalize hA:std=A
 obtain⟨qbin,qsh,qcmp,qscmp,qbcmp,qbnot,qneg,qwrap,qcat,qssize,qssub,qsget,qlen,qrsub,qapp,qelt,qset,qnth,qdrp,qstr,qint,qbool,qrow,qnat,qnadd,qnsub,qband,qofNat,qstrRow,qmkRow,qmx,qmn,qbytes,qemp⟩:=A
 have hE:=Ar.eqs hA
 dsimp only at hE
 generalize hQ:EndD P Tryz.f5.results _=Q
 have hself:(∀v:Int,qcmp .neq v v=false)∧(∀v:ByteArray,qscmp .neq v v=false)∧(∀v:Bool,qbnot (qbcmp v v)=false)∧qbnot true=false:=by
  refine⟨fun v=>?_,fun v=>?_,fun v=>?_,?_⟩<;>simp only[hE,An,Gc,Ag,Am]<;>simp
 obtain⟨hself1,hself2,hself3,hself4⟩:=hself
 have hn_aKeeps:=Xbs haKeeps
 cbv
 try simp only[nc]at*
 split
 ·cbv
  try simp only[nc]at*
  rw[←hQ]
  exact Bl rfl rfl
 rename_i c0
 simp only[hE,List.length_map,Az,Ay,Ax,A0,Av,An,Ao,Au,Ak,Ah,Ae,Am,Aj,Ag,As,Af,Ai,Al,Aw,IntKind.wrap_i64,decide_eq_true_eq,decide_eq_false_iff_not,Bool.not_eq_true',Bool.not_eq_false',Option.getD_none,Option.getD_some,hn_aKeeps]at c0
 have bd_aKeeps:Dv aKeeps≤1048576:=by unfold Dv;omega
 cbv
 try simp only[nc]at*
 refine ClW.dd (f:=14) rfl rfl rfl rfl (.cons rfl (.cons rfl .nil)) rfl ent14_ (T14_ haW_disk_nodes haW_disk_entries haW_disk_old haW_disk_steps haW_writer_offsets haW_told (by omega) (by omega) ok_aW) rfl ?_
 generalize aa:Ec (Fg (⟨⟨aW_set_room,aW_set_version,aW_set_stride,aW_set_roll⟩,⟨aW_disk_nodes,aW_disk_entries,aW_disk_old,aW_disk_steps,aW_disk_room,aW_disk_next⟩,⟨aW_writer_version,aW_writer_stride,aW_writer_roll,aW_writer_base,aW_writer_link,aW_writer_offsets,aW_writer_end,aW_writer_open,aW_writer_code⟩,aW_told,aW_sure,aW_falls⟩:C6)) 1048576=left0
 cbv
 try simp only[nc]at*
 split
 ·cbv
  try simp only[nc]at*
  rw[←hQ]
  exact Bl rfl rfl
 rename_i c4
 simp only[hE,List.length_map,Az,Ay,Ax,A0,Av,An,Ao,Au,Ak,Ah,Ae,Am,Aj,Ag,As,Af,Ai,Al,Aw,IntKind.wrap_i64,decide_eq_true_eq,decide_eq_false_iff_not,Bool.not_eq_true',Bool.not_eq_false',Option.getD_none,Option.getD_some]at c4
 obtain⟨g0,g0'⟩:=H1 (t:=Fg (⟨⟨aW_set_room,aW_set_version,aW_set_stride,aW_set_roll⟩,⟨aW_disk_nodes,aW_disk_entries,aW_disk_old,aW_disk_steps,aW_disk_room,aW_disk_next⟩,⟨aW_writer_version,aW_writer_stride,aW_writer_roll,aW_writer_base,aW_writer_link,aW_writer_offsets,aW_writer_end,aW_writer_open,aW_writer_code⟩,aW_told,aW_sure,aW_falls⟩:C6)) (left:=1048576) (by omega)
 have nn0:=Ze (⟨⟨aW_set_room,aW_set_version,aW_set_stride,aW_set_roll⟩,⟨aW_disk_nodes,aW_disk_entries,aW_disk_old,aW_disk_steps,aW_disk_room,aW_disk_next⟩,⟨aW_writer_version,aW_writer_stride,aW_writer_roll,aW_writer_base,aW_writer_link,aW_writer_offsets,aW_writer_end,aW_writer_open,aW_writer_code⟩,aW_told,aW_sure,aW_falls⟩:C6)
 have bd_aW:Fg (⟨⟨aW_set_room,aW_set_version,aW_set_stride,aW_set_roll⟩,⟨aW_disk_nodes,aW_disk_entries,aW_disk_old,aW_disk_steps,aW_disk_room,aW_disk_next⟩,⟨aW_writer_version,aW_writer_stride,aW_writer_roll,aW_writer_base,aW_writer_link,aW_writer_offsets,aW_writer_end,aW_writer_open,aW_writer_code⟩,aW_told,aW_sure,aW_falls⟩:C6)≤1048576:=by omega
 cbv
 try simp only[nc]at*
 refine ClW.dd (f:=16) rfl rfl rfl rfl (.cons rfl .nil) rfl ent16_ (T16_ haW_disk_nodes haW_disk_entries haW_disk_old haW_disk_steps haW_writer_offsets haW_told bd_aW) rfl ?_
 cbv
 try simp only[nc]at*
 refine ClW.dd (f:=28) rfl rfl rfl rfl (.cons rfl .nil) rfl ent28_ (T28_ haKeeps bd_aKeeps) rfl ?_
 cbv
 try simp only[nc]at*
 refine ClW.dd (f:=27) rfl rfl rfl rfl (.cons rfl (.cons rfl (.cons rfl .nil))) rfl ent27_ (T27_ haW_disk_nodes haW_disk_entries haW_disk_old haW_disk_steps haW_writer_offsets haW_told haKeeps bd_aW bd_aKeeps wf_aNames) rfl ?_
 generalize hr:Db (⟨⟨aW_set_room,aW_set_version,aW_set_stride,aW_set_roll⟩,⟨aW_disk_nodes,aW_disk_entries,aW_disk_old,aW_disk_steps,aW_disk_room,aW_disk_next⟩,⟨aW_writer_version,aW_writer_stride,aW_writer_roll,aW_writer_base,aW_writer_link,aW_writer_offsets,aW_writer_end,aW_writer_open,aW_writer_code⟩,aW_told,aW_sure,aW_falls⟩:C6) aNames aKeeps=r
 cbv
 try simp only[nc]at*
 refine ClW.dd (f:=16) rfl rfl rfl rfl (.cons rfl .nil) rfl ent16_ (T16_ haW_disk_nodes haW_disk_entries haW_disk_old haW_disk_steps haW_writer_offsets haW_told bd_aW) rfl ?_
 cbv
 try simp only[nc]at*
 refine ClW.dd (f:=28) rfl rfl rfl rfl (.cons rfl .nil) rfl ent28_ (T28_ haKeeps bd_aKeeps) rfl ?_
 cbv
 try simp only[nc]at*
 refine ClW.dd (f:=29) rfl rfl rfl rfl (.cons rfl (.cons rfl (.cons rfl .nil))) rfl ent29_ (T29_ haW_disk_nodes haW_disk_entries haW_disk_old haW_disk_steps haW_writer_offsets haW_told haKeeps bd_aW bd_aKeeps wf_aNames) rfl ?_
 rw[hr]
 cbv
 try simp only[nc]at*
 rw[hself3]
 cbv
 try simp only[nc]at*
 refine ClW.dd (f:=16) rfl rfl rfl rfl (.cons rfl .nil) rfl ent16_ (T16_ haW_disk_nodes haW_disk_entries haW_disk_old haW_disk_steps haW_writer_offsets haW_told bd_aW) rfl ?_
 cbv
 try simp only[nc]at*
 refine ClW.dd (f:=19) rfl rfl rfl rfl (.cons rfl (.cons rfl .nil)) rfl ent19_ (T19_ haW_disk_nodes haW_disk_entries haW_disk_old haW_disk_steps haW_writer_offsets haW_told (by omega)) rfl ?_
 cbv
 try simp only[nc]at*
 rw[hself4]
 cbv
 try simp only[nc]at*
 refine ClW.dd (f:=28) rfl rfl rfl rfl (.cons rfl .nil) rfl ent28_ (T28_ haKeeps bd_aKeeps) rfl ?_
 cbv
 try simp only[nc]at*
 refine ClW.dd (f:=30) rfl rfl rfl rfl (.cons rfl (.cons rfl .nil)) rfl ent30_ (T30_ haKeeps (by omega)) rfl ?_
 cbv
 try simp only[nc]at*
 rw[hself4]
 cbv
 try simp only[nc]at*
 rw[←hQ]
 exact Bl rfl rfl
end
end Go.Proofs.YtgdmjbcllgmepaaGreatDoor.Ab
