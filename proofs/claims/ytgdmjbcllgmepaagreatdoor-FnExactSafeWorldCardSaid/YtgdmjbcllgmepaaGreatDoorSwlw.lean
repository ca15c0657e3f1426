/- What functions of the program come to, for all arguments in the given bounds. -/
import Derived.Test.YtgdmjbcllgmepaaGreatDoorSwch06v
import Derived.Test.YtgdmjbcllgmepaaGreatDoorSwHsz
set_option linter.unusedVariables false
set_option linter.unusedSimpArgs false
namespace Go.Proofs.YtgdmjbcllgmepaaGreatDoor.Ab
section
open Go Go.Proofs
set_option maxRecDepth 20000
set_option maxHeartbeats 4000000
theorem Xhx{d:Ad}(hb:Eu d≤1000000000):okD d:=by
 have n1:=Gy d.nodes_
 have n2:=C9 d.entries_
 have n3:=C9 d.old_
 have n4:=Cv d.steps_
 have l1:=V4 d.nodes_
 have l2:=Kb d.entries_
 have l3:=Kb d.old_
 have l4:=Md d.steps_
 unfold Eu at hb
 refine⟨by omega,?_,by omega,?_,by omega,by omega⟩
 ·intro n hn
  have:=Ey (fun x=>C6 x) Ta hn
  have h2:C6 n=(n.text_.size:Int):=rfl
  have h3:Dc d.nodes_=d.nodes_.length+He (fun x=>C6 x) d.nodes_:=rfl
  omega
 ·intro n hn
  have:=Ey (fun x=>B7 x) Mv hn
  have h2:B7 n=(n.name_.size:Int):=rfl
  have h3:Bu d.entries_=d.entries_.length+He (fun x=>B7 x) d.entries_:=rfl
  omega
end
section
open Go Go.Proofs
set_option maxRecDepth 20000
set_option maxHeartbeats 4000000
theorem Xct{d:Ad}(hb:Eu d≤1048576):W4 d∧d.entries_.length≤100000000∧d.steps_.length≤100000000:=by
 have n1:=Gy d.nodes_
 have n2:=C9 d.entries_
 have n3:=C9 d.old_
 have n4:=Cv d.steps_
 have l2:=Kb d.entries_
 have l4:=Md d.steps_
 have hd:=Xhx (d:=d) (by omega)
 unfold Eu at hb
 refine⟨⟨hd,?_,?_⟩,by omega,by omega⟩
 ·intro n hn
  have:=Ey (fun x=>B7 x) Mv hn
  have h2:B7 n=(n.name_.size:Int):=rfl
  have h3:Bu d.old_=d.old_.length+He (fun x=>B7 x) d.old_:=rfl
  omega
 ·intro n hn
  have:=Ey (fun x:ByteArray=>(x.size:Int)) (fun x=>by omega) hn
  have h3:Bn d.steps_=d.steps_.length+He (fun x:ByteArray=>(x.size:Int)) d.steps_:=rfl
  omega
end
section
open Go Go.Proofs
set_option maxRecDepth 20000
set_option maxHeartbeats 4000000
theorem ent31:Bt Tryz.prog 31:=⟨_,Tryz.func31,rfl,rfl⟩
theorem T31{aW_set_room:Int}{aW_set_version:Int}{aW_set_stride:Int}{aW_set_roll:Int}{aW_disk_nodes:List Bb}{xaW_disk_nodes:List (List D)}(haW_disk_nodes:aW_disk_nodes.map Ci=xaW_disk_nodes){aW_disk_entries:List Aa}{xaW_disk_entries:List (List D)}(haW_disk_entries:aW_disk_entries.map Ac=xaW_disk_entries){aW_disk_old:List Aa}{xaW_disk_old:List (List D)}(haW_disk_old:aW_disk_old.map Ac=xaW_disk_old){aW_disk_steps:List ByteArray}{xaW_disk_steps:List (List D)}(haW_disk_steps:aW_disk_steps.map cS=xaW_disk_steps){aW_disk_room:Int}{aW_disk_next:Int}{aW_writer_version:Int}{aW_writer_stride:Int}{aW_writer_roll:Int}{aW_writer_base:Int}{aW_writer_link:Int}{aW_writer_offsets:List Int}{xaW_writer_offsets:List (List D)}(haW_writer_offsets:aW_writer_offsets.map cI=xaW_writer_offsets){aW_writer_end:Int}{aW_writer_open:Bool}{aW_writer_code:Int}{aW_told:List ByteArray}{xaW_told:List (List D)}(haW_told:aW_told.map cS=xaW_told){aW_sure:Int}{aW_falls:Int}(hb:Fk ⟨⟨aW_set_room,aW_set_version,aW_set_stride,aW_set_roll⟩,⟨aW_disk_nodes,aW_disk_entries,aW_disk_old,aW_disk_steps,aW_disk_room,aW_disk_next⟩,⟨aW_writer_version,aW_writer_stride,aW_writer_roll,aW_writer_base,aW_writer_link,aW_writer_offsets,aW_writer_end,aW_writer_open,aW_writer_code⟩,aW_told,aW_sure,aW_falls⟩≤1048576):CallOk Tryz.prog 31 [.agg [.d (.sc (.int .i64 aW_set_room)),.d (.sc (.int .i64 aW_set_version)),.d (.sc (.int .i64 aW_set_stride)),.d (.sc (.int .i64 aW_set_roll)),.d (.row 3 xaW_disk_nodes),.d (.row 2 xaW_disk_entries),.d (.row 2 xaW_disk_old),.d (.row 1 xaW_disk_steps),.d (.sc (.int .i64 aW_disk_room)),.d (.sc (.int .i64 aW_disk_next)),.d (.sc (.int .i64 aW_writer_version)),.d (.sc (.int .i64 aW_writer_stride)),.d (.sc (.int .i64 aW_writer_roll)),.d (.sc (.int .i64 aW_writer_base)),.d (.sc (.int .i64 aW_writer_link)),.d (.row 1 xaW_writer_offsets),.d (.sc (.int .i64 aW_writer_end)),.d (.sc (.bool aW_writer_open)),.d (.sc (.int .i64 aW_writer_code)),.d (.row 1 xaW_told),.d (.sc (.int .i64 aW_sure)),.d (.sc (.int .i64 aW_falls))]] [] ⟨.d (.sc (.bool (At ⟨⟨aW_set_room,aW_set_version,aW_set_stride,aW_set_roll⟩,⟨aW_disk_nodes,aW_disk_entries,aW_disk_old,aW_disk_steps,aW_disk_room,aW_disk_next⟩,⟨aW_writer_version,aW_writer_stride,aW_writer_roll,aW_writer_base,aW_writer_link,aW_writer_offsets,aW_writer_end,aW_writer_open,aW_writer_code⟩,aW_told,aW_sure,aW_falls⟩))),[],[]⟩:=by
 have h1:=Ht (⟨⟨aW_set_room,aW_set_version,aW_set_stride,aW_set_roll⟩,⟨aW_disk_nodes,aW_disk_entries,aW_disk_old,aW_disk_steps,aW_disk_room,aW_disk_next⟩,⟨aW_writer_version,aW_writer_stride,aW_writer_roll,aW_writer_base,aW_writer_link,aW_writer_offsets,aW_writer_end,aW_writer_open,aW_writer_code⟩,aW_told,aW_sure,aW_falls⟩:Bl).disk_
 have h2:=F9 (⟨⟨aW_set_room,aW_set_version,aW_set_stride,aW_set_roll⟩,⟨aW_disk_nodes,aW_disk_entries,aW_disk_old,aW_disk_steps,aW_disk_room,aW_disk_next⟩,⟨aW_writer_version,aW_writer_stride,aW_writer_roll,aW_writer_base,aW_writer_link,aW_writer_offsets,aW_writer_end,aW_writer_open,aW_writer_code⟩,aW_told,aW_sure,aW_falls⟩:Bl).writer_
 have h3:=Cv (⟨⟨aW_set_room,aW_set_version,aW_set_stride,aW_set_roll⟩,⟨aW_disk_nodes,aW_disk_entries,aW_disk_old,aW_disk_steps,aW_disk_room,aW_disk_next⟩,⟨aW_writer_version,aW_writer_stride,aW_writer_roll,aW_writer_base,aW_writer_link,aW_writer_offsets,aW_writer_end,aW_writer_open,aW_writer_code⟩,aW_told,aW_sure,aW_falls⟩:Bl).told_
 have aa:Eu (⟨⟨aW_set_room,aW_set_version,aW_set_stride,aW_set_roll⟩,⟨aW_disk_nodes,aW_disk_entries,aW_disk_old,aW_disk_steps,aW_disk_room,aW_disk_next⟩,⟨aW_writer_version,aW_writer_stride,aW_writer_roll,aW_writer_base,aW_writer_link,aW_writer_offsets,aW_writer_end,aW_writer_open,aW_writer_code⟩,aW_told,aW_sure,aW_falls⟩:Bl).disk_≤1048576:=by unfold Fk at hb;omega
 exact(Zw haW_disk_nodes haW_disk_entries haW_disk_old haW_disk_steps haW_writer_offsets haW_told (Xct aa).1 rfl).ok
theorem ent32:Bt Tryz.prog 32:=⟨_,Tryz.func32,rfl,rfl⟩
theorem T32{aW_set_room:Int}{aW_set_version:Int}{aW_set_stride:Int}{aW_set_roll:Int}{aW_disk_nodes:List Bb}{xaW_disk_nodes:List (List D)}(haW_disk_nodes:aW_disk_nodes.map Ci=xaW_disk_nodes){aW_disk_entries:List Aa}{xaW_disk_entries:List (List D)}(haW_disk_entries:aW_disk_entries.map Ac=xaW_disk_entries){aW_disk_old:List Aa}{xaW_disk_old:List (List D)}(haW_disk_old:aW_disk_old.map Ac=xaW_disk_old){aW_disk_steps:List ByteArray}{xaW_disk_steps:List (List D)}(haW_disk_steps:aW_disk_steps.map cS=xaW_disk_steps){aW_disk_room:Int}{aW_disk_next:Int}{aW_writer_version:Int}{aW_writer_stride:Int}{aW_writer_roll:Int}{aW_writer_base:Int}{aW_writer_link:Int}{aW_writer_offsets:List Int}{xaW_writer_offsets:List (List D)}(haW_writer_offsets:aW_writer_offsets.map cI=xaW_writer_offsets){aW_writer_end:Int}{aW_writer_open:Bool}{aW_writer_code:Int}{aW_told:List ByteArray}{xaW_told:List (List D)}(haW_told:aW_told.map cS=xaW_told){aW_sure:Int}{aW_falls:Int}(hb:Fk ⟨⟨aW_set_room,aW_set_version,aW_set_stride,aW_set_roll⟩,⟨aW_disk_nodes,aW_disk_entries,aW_disk_old,aW_disk_steps,aW_disk_room,aW_disk_next⟩,⟨aW_writer_version,aW_writer_stride,aW_writer_roll,aW_writer_base,aW_writer_link,aW_writer_offsets,aW_writer_end,aW_writer_open,aW_writer_code⟩,aW_told,aW_sure,aW_falls⟩≤1048576):CallOk Tryz.prog 32 [.agg [.d (.sc (.int .i64 aW_set_room)),.d (.sc (.int .i64 aW_set_version)),.d (.sc (.int .i64 aW_set_stride)),.d (.sc (.int .i64 aW_set_roll)),.d (.row 3 xaW_disk_nodes),.d (.row 2 xaW_disk_entries),.d (.row 2 xaW_disk_old),.d (.row 1 xaW_disk_steps),.d (.sc (.int .i64 aW_disk_room)),.d (.sc (.int .i64 aW_disk_next)),.d (.sc (.int .i64 aW_writer_version)),.d (.sc (.int .i64 aW_writer_stride)),.d (.sc (.int .i64 aW_writer_roll)),.d (.sc (.int .i64 aW_writer_base)),.d (.sc (.int .i64 aW_writer_link)),.d (.row 1 xaW_writer_offsets),.d (.sc (.int .i64 aW_writer_end)),.d (.sc (.bool aW_writer_open)),.d (.sc (.int .i64 aW_writer_code)),.d (.row 1 xaW_told),.d (.sc (.int .i64 aW_sure)),.d (.sc (.int .i64 aW_falls))]] [] ⟨.d (.sc (.bool (At ⟨⟨aW_set_room,aW_set_version,aW_set_stride,aW_set_roll⟩,⟨aW_disk_nodes,aW_disk_entries,aW_disk_old,aW_disk_steps,aW_disk_room,aW_disk_next⟩,⟨aW_writer_version,aW_writer_stride,aW_writer_roll,aW_writer_base,aW_writer_link,aW_writer_offsets,aW_writer_end,aW_writer_open,aW_writer_code⟩,aW_told,aW_sure,aW_falls⟩))),[],[]⟩:=by
 have h1:=Ht (⟨⟨aW_set_room,aW_set_version,aW_set_stride,aW_set_roll⟩,⟨aW_disk_nodes,aW_disk_entries,aW_disk_old,aW_disk_steps,aW_disk_room,aW_disk_next⟩,⟨aW_writer_version,aW_writer_stride,aW_writer_roll,aW_writer_base,aW_writer_link,aW_writer_offsets,aW_writer_end,aW_writer_open,aW_writer_code⟩,aW_told,aW_sure,aW_falls⟩:Bl).disk_
 have h2:=F9 (⟨⟨aW_set_room,aW_set_version,aW_set_stride,aW_set_roll⟩,⟨aW_disk_nodes,aW_disk_entries,aW_disk_old,aW_disk_steps,aW_disk_room,aW_disk_next⟩,⟨aW_writer_version,aW_writer_stride,aW_writer_roll,aW_writer_base,aW_writer_link,aW_writer_offsets,aW_writer_end,aW_writer_open,aW_writer_code⟩,aW_told,aW_sure,aW_falls⟩:Bl).writer_
 have h3:=Cv (⟨⟨aW_set_room,aW_set_version,aW_set_stride,aW_set_roll⟩,⟨aW_disk_nodes,aW_disk_entries,aW_disk_old,aW_disk_steps,aW_disk_room,aW_disk_next⟩,⟨aW_writer_version,aW_writer_stride,aW_writer_roll,aW_writer_base,aW_writer_link,aW_writer_offsets,aW_writer_end,aW_writer_open,aW_writer_code⟩,aW_told,aW_sure,aW_falls⟩:Bl).told_
 have aa:Eu (⟨⟨aW_set_room,aW_set_version,aW_set_stride,aW_set_roll⟩,⟨aW_disk_nodes,aW_disk_entries,aW_disk_old,aW_disk_steps,aW_disk_room,aW_disk_next⟩,⟨aW_writer_version,aW_writer_stride,aW_writer_roll,aW_writer_base,aW_writer_link,aW_writer_offsets,aW_writer_end,aW_writer_open,aW_writer_code⟩,aW_told,aW_sure,aW_falls⟩:Bl).disk_≤1048576:=by unfold Fk at hb;omega
 exact(Xae haW_disk_nodes haW_disk_entries haW_disk_old haW_disk_steps haW_writer_offsets haW_told (Xct aa).1 rfl).ok
noncomputable def c6:Code:=(Tryz.f6.body).getD .skip
theorem T6{aW_set_room:Int}{aW_set_version:Int}{aW_set_stride:Int}{aW_set_roll:Int}{aW_disk_nodes:List Bb}{xaW_disk_nodes:List (List D)}(haW_disk_nodes:aW_disk_nodes.map Ci=xaW_disk_nodes){aW_disk_entries:List Aa}{xaW_disk_entries:List (List D)}(haW_disk_entries:aW_disk_entries.map Ac=xaW_disk_entries){aW_disk_old:List Aa}{xaW_disk_old:List (List D)}(haW_disk_old:aW_disk_old.map Ac=xaW_disk_old){aW_disk_steps:List ByteArray}{xaW_disk_steps:List (List D)}(haW_disk_steps:aW_disk_steps.map cS=xaW_disk_steps){aW_disk_room:Int}{aW_disk_next:Int}{aW_writer_version:Int}{aW_writer_stride:Int}{aW_writer_roll:Int}{aW_writer_base:Int}{aW_writer_link:Int}{aW_writer_offsets:List Int}{xaW_writer_offsets:List (List D)}(haW_writer_offsets:aW_writer_offsets.map cI=xaW_writer_offsets){aW_writer_end:Int}{aW_writer_open:Bool}{aW_writer_code:Int}{aW_told:List ByteArray}{xaW_told:List (List D)}(haW_told:aW_told.map cS=xaW_told){aW_sure:Int}{aW_falls:Int}(ok_aW:Z1 ⟨⟨aW_set_room,aW_set_version,aW_set_stride,aW_set_roll⟩,⟨aW_disk_nodes,aW_disk_entries,aW_disk_old,aW_disk_steps,aW_disk_room,aW_disk_next⟩,⟨aW_writer_version,aW_writer_stride,aW_writer_roll,aW_writer_base,aW_writer_link,aW_writer_offsets,aW_writer_end,aW_writer_open,aW_writer_code⟩,aW_told,aW_sure,aW_falls⟩)(wf_aW:XcQ ⟨⟨aW_set_room,aW_set_version,aW_set_stride,aW_set_roll⟩,⟨aW_disk_nodes,aW_disk_entries,aW_disk_old,aW_disk_steps,aW_disk_room,aW_disk_next⟩,⟨aW_writer_version,aW_writer_stride,aW_writer_roll,aW_writer_base,aW_writer_link,aW_writer_offsets,aW_writer_end,aW_writer_open,aW_writer_code⟩,aW_told,aW_sure,aW_falls⟩):CallOk Tryz.prog 6 [.agg [.d (.sc (.int .i64 aW_set_room)),.d (.sc (.int .i64 aW_set_version)),.d (.sc (.int .i64 aW_set_stride)),.d (.sc (.int .i64 aW_set_roll)),.d (.row 3 xaW_disk_nodes),.d (.row 2 xaW_disk_entries),.d (.row 2 xaW_disk_old),.d (.row 1 xaW_disk_steps),.d (.sc (.int .i64 aW_disk_room)),.d (.sc (.int .i64 aW_disk_next)),.d (.sc (.int .i64 aW_writer_version)),.d (.sc (.int .i64 aW_writer_stride)),.d (.sc (.int .i64 aW_writer_roll)),.d (.sc (.int .i64 aW_writer_base)),.d (.sc (.int .i64 aW_writer_link)),.d (.row 1 xaW_writer_offsets),.d (.sc (.int .i64 aW_writer_end)),.d (.sc (.bool aW_writer_open)),.d (.sc (.int .i64 aW_writer_code)),.d (.row 1 xaW_told),.d (.sc (.int .i64 aW_sure)),.d (.sc (.int .i64 aW_falls))]] [] ⟨.d (.sc (.bool true)),[],[]⟩:=by
 have ent14_:=ent14
 have T14_:=@T14
 have ent16_:=ent16
 have T16_:=@T16
 have ent19_:=ent19
 have T19_:=@T19
 have ent31_:=ent31
 have T31_:=@T31
 have ent32_:=ent32
 have T32_:=@T32
 refine CallOk.of_bodyD (body:=c6) Tryz.func6 rfl (Nat.le_of_ble_eq_true (by kernel_rfl)) rfl ?_
 refine Ej Bw mixed ?_
 have hT:=Bw
 have hm:=mixed
 generalize hP:Tryz.prog=P at*
 generalize hA:std=A
 obtain⟨qbin,qsh,qcmp,qscmp,qbcmp,qbnot,qneg,qwrap,qcat,qssize,qssub,qsget,qlen,qrsub,qapp,qelt,qset,qnth,qdrp,qstr,qint,qbool,qrow,qnat,qnadd,qnsub,qband,qofNat,qstrRow,qmkRow,qmx,qmn,qbytes,qemp⟩:=A
 have hE:=Ar.eqs hA
 dsimp only at hE
 generalize hQ:EndD P Tryz.f6.results _=Q
 have hself:(∀v:Int,qcmp .neq v v=false)∧(∀v:ByteArray,qscmp .neq v v=false)∧(∀v:Bool,qbnot (qbcmp v v)=false)∧qbnot true=false:=by
  refine⟨fun v=>?_,fun v=>?_,fun v=>?_,?_⟩<;>simp only[hE,An,Gd,Ag,Am]<;>simp
 obtain⟨hself1,hself2,hself3,hself4⟩:=hself
 cbv
 try simp only[nc]at*
 refine ClW.dd (f:=14) rfl rfl rfl rfl (.cons rfl (.cons rfl .nil)) rfl ent14_ (T14_ haW_disk_nodes haW_disk_entries haW_disk_old haW_disk_steps haW_writer_offsets haW_told (by omega) (by omega) ok_aW) rfl ?_
 generalize aa:Ef (Fk (⟨⟨aW_set_room,aW_set_version,aW_set_stride,aW_set_roll⟩,⟨aW_disk_nodes,aW_disk_entries,aW_disk_old,aW_disk_steps,aW_disk_room,aW_disk_next⟩,⟨aW_writer_version,aW_writer_stride,aW_writer_roll,aW_writer_base,aW_writer_link,aW_writer_offsets,aW_writer_end,aW_writer_open,aW_writer_code⟩,aW_told,aW_sure,aW_falls⟩:Bl)) 1048576=left0
 cbv
 try simp only[nc]at*
 split
 ·cbv
  try simp only[nc]at*
  rw[←hQ]
  exact Bp rfl rfl
 rename_i c1
 simp only[hE,List.length_map,Ay,A1,A0,Ax,Av,An,Ao,Aw,Ai,Ak,Ae,Am,Al,Ag,Au,Af,Ah,Aj,Az,IntKind.wrap_i64,decide_eq_true_eq,decide_eq_false_iff_not,Bool.not_eq_true',Bool.not_eq_false',Option.getD_none,Option.getD_some]at c1
 obtain⟨g0,g0'⟩:=Ie (t:=Fk (⟨⟨aW_set_room,aW_set_version,aW_set_stride,aW_set_roll⟩,⟨aW_disk_nodes,aW_disk_entries,aW_disk_old,aW_disk_steps,aW_disk_room,aW_disk_next⟩,⟨aW_writer_version,aW_writer_stride,aW_writer_roll,aW_writer_base,aW_writer_link,aW_writer_offsets,aW_writer_end,aW_writer_open,aW_writer_code⟩,aW_told,aW_sure,aW_falls⟩:Bl)) (left:=1048576) (by omega)
 have nn0:=Zm (⟨⟨aW_set_room,aW_set_version,aW_set_stride,aW_set_roll⟩,⟨aW_disk_nodes,aW_disk_entries,aW_disk_old,aW_disk_steps,aW_disk_room,aW_disk_next⟩,⟨aW_writer_version,aW_writer_stride,aW_writer_roll,aW_writer_base,aW_writer_link,aW_writer_offsets,aW_writer_end,aW_writer_open,aW_writer_code⟩,aW_told,aW_sure,aW_falls⟩:Bl)
 have bd_aW:Fk (⟨⟨aW_set_room,aW_set_version,aW_set_stride,aW_set_roll⟩,⟨aW_disk_nodes,aW_disk_entries,aW_disk_old,aW_disk_steps,aW_disk_room,aW_disk_next⟩,⟨aW_writer_version,aW_writer_stride,aW_writer_roll,aW_writer_base,aW_writer_link,aW_writer_offsets,aW_writer_end,aW_writer_open,aW_writer_code⟩,aW_told,aW_sure,aW_falls⟩:Bl)≤1048576:=by omega
 cbv
 try simp only[nc]at*
 refine ClW.dd (f:=16) rfl rfl rfl rfl (.cons rfl .nil) rfl ent16_ (T16_ haW_disk_nodes haW_disk_entries haW_disk_old haW_disk_steps haW_writer_offsets haW_told bd_aW) rfl ?_
 cbv
 try simp only[nc]at*
 refine ClW.dd (f:=31) rfl rfl rfl rfl (.cons rfl .nil) rfl ent31_ (T31_ haW_disk_nodes haW_disk_entries haW_disk_old haW_disk_steps haW_writer_offsets haW_told bd_aW) rfl ?_
 generalize hr:At (⟨⟨aW_set_room,aW_set_version,aW_set_stride,aW_set_roll⟩,⟨aW_disk_nodes,aW_disk_entries,aW_disk_old,aW_disk_steps,aW_disk_room,aW_disk_next⟩,⟨aW_writer_version,aW_writer_stride,aW_writer_roll,aW_writer_base,aW_writer_link,aW_writer_offsets,aW_writer_end,aW_writer_open,aW_writer_code⟩,aW_told,aW_sure,aW_falls⟩:Bl)=r
 cbv
 try simp only[nc]at*
 refine ClW.dd (f:=16) rfl rfl rfl rfl (.cons rfl .nil) rfl ent16_ (T16_ haW_disk_nodes haW_disk_entries haW_disk_old haW_disk_steps haW_writer_offsets haW_told bd_aW) rfl ?_
 cbv
 try simp only[nc]at*
 refine ClW.dd (f:=32) rfl rfl rfl rfl (.cons rfl .nil) rfl ent32_ (T32_ haW_disk_nodes haW_disk_entries haW_disk_old haW_disk_steps haW_writer_offsets haW_told bd_aW) rfl ?_
 rw[hr]
 cbv
 try simp only[nc]at*
 rw[hself3]
 cbv
 try simp only[nc]at*
 refine ClW.dd (f:=16) rfl rfl rfl rfl (.cons rfl .nil) rfl ent16_ (T16_ haW_disk_nodes haW_disk_entries haW_disk_old haW_disk_steps haW_writer_offsets haW_told bd_aW) rfl ?_
 cbv
 try simp only[nc]at*
 refine ClW.dd (f:=19) rfl rfl rfl rfl (.cons rfl (.cons rfl .nil)) rfl ent19_ (T19_ haW_disk_nodes haW_disk_entries haW_disk_old haW_disk_steps haW_writer_offsets haW_told (by omega)) rfl ?_
 cbv
 try simp only[nc]at*
 rw[hself4]
 cbv
 try simp only[nc]at*
 rw[←hQ]
 exact Bp rfl rfl
end
end Go.Proofs.YtgdmjbcllgmepaaGreatDoor.Ab
