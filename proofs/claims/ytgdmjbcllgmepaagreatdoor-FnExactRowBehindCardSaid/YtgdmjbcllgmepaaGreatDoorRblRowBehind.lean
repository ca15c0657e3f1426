/- What functions of the program come to, for all arguments in the given bounds. -/
import Derived.Test.YtgdmjbcllgmepaaGreatDoorRblw
import Derived.Test.YtgdmjbcllgmepaaGreatDoorRbHsz
import Derived.Test.YtgdmjbcllgmepaaGreatDoorRbHtR
set_option linter.unusedVariables false
set_option linter.unusedSimpArgs false
namespace Go.Proofs.YtgdmjbcllgmepaaGreatDoor.Ab
section
open Go Go.Proofs
set_option maxRecDepth 20000
set_option maxHeartbeats 4000000
theorem XgC{d:Aa}{v:Int}(hb:Fy d≤1048576)(hw:Yi d)(hv:wfI v):Sh (D4 d v)≤549755813888:=by
 have h:=Xee hb
 have h1:=Kd (d:=d) (v:=v)
 have h2:(D4 d v).length=(D1 d v).length+1:=by unfold D4;rw[List.length_map,List.length_range]
 unfold Sh
 omega
theorem ent44:Cp Tryz.prog 44:=⟨_,Tryz.func44,rfl,rfl⟩
theorem T44{aD_nodes:List Bk}{xaD_nodes:List (List D)}(haD_nodes:aD_nodes.map Bg=xaD_nodes){aD_entries:List Ad}{xaD_entries:List (List D)}(haD_entries:aD_entries.map Ac=xaD_entries){aD_old:List Ad}{xaD_old:List (List D)}(haD_old:aD_old.map Ac=xaD_old){aD_steps:List ByteArray}{xaD_steps:List (List D)}(haD_steps:aD_steps.map cS=xaD_steps){aD_room:Int}{aD_next:Int}{aVersion:Int}(hb:Fy ⟨aD_nodes,aD_entries,aD_old,aD_steps,aD_room,aD_next⟩≤1048576)(hw:Yi ⟨aD_nodes,aD_entries,aD_old,aD_steps,aD_room,aD_next⟩)(hv:wfI aVersion):CallOk Tryz.prog 44 [.agg [.d (.row 3 xaD_nodes),.d (.row 2 xaD_entries),.d (.row 2 xaD_old),.d (.row 1 xaD_steps),.d (.sc (.int .i64 aD_room)),.d (.sc (.int .i64 aD_next))],.d (.sc (.int .i64 aVersion))] [] ⟨.d (.row 1 ((D4 ⟨aD_nodes,aD_entries,aD_old,aD_steps,aD_room,aD_next⟩ aVersion).map cI)),[],[]⟩:=by
 have h:=Xee hb
 exact(Xda haD_nodes haD_entries haD_old haD_steps h.1 h.2.1 h.2.2 rfl rfl).ok
theorem ent45:Cp Tryz.prog 45:=⟨_,Tryz.func45,rfl,rfl⟩
theorem T45R{aD_nodes:List Bk}{xaD_nodes:List (List D)}(haD_nodes:aD_nodes.map Bg=xaD_nodes){aD_entries:List Ad}{xaD_entries:List (List D)}(haD_entries:aD_entries.map Ac=xaD_entries){aD_old:List Ad}{xaD_old:List (List D)}(haD_old:aD_old.map Ac=xaD_old){aD_steps:List ByteArray}{xaD_steps:List (List D)}(haD_steps:aD_steps.map cS=xaD_steps){aD_room:Int}{aD_next:Int}{aVersion:Int}(hb:Fy ⟨aD_nodes,aD_entries,aD_old,aD_steps,aD_room,aD_next⟩≤1048576)(hw:Yi ⟨aD_nodes,aD_entries,aD_old,aD_steps,aD_room,aD_next⟩)(hv:wfI aVersion):CallOk Tryz.prog 45 [.agg [.d (.row 3 xaD_nodes),.d (.row 2 xaD_entries),.d (.row 2 xaD_old),.d (.row 1 xaD_steps),.d (.sc (.int .i64 aD_room)),.d (.sc (.int .i64 aD_next))],.d (.sc (.int .i64 aVersion))] [] ⟨.ref 0 0 (D4 ⟨aD_nodes,aD_entries,aD_old,aD_steps,aD_room,aD_next⟩ aVersion).length,[.row 1 false ((D4 ⟨aD_nodes,aD_entries,aD_old,aD_steps,aD_room,aD_next⟩ aVersion).map cI)],[]⟩:=by
 have h:=Xee hb
 exact(Xbu haD_nodes haD_entries haD_old haD_steps h.1 h.2.1 h.2.2 rfl rfl rfl).ok
theorem T45{aD_nodes:List Bk}{xaD_nodes:List (List D)}(haD_nodes:aD_nodes.map Bg=xaD_nodes){aD_entries:List Ad}{xaD_entries:List (List D)}(haD_entries:aD_entries.map Ac=xaD_entries){aD_old:List Ad}{xaD_old:List (List D)}(haD_old:aD_old.map Ac=xaD_old){aD_steps:List ByteArray}{xaD_steps:List (List D)}(haD_steps:aD_steps.map cS=xaD_steps){aD_room:Int}{aD_next:Int}{aVersion:Int}(hb:Fy ⟨aD_nodes,aD_entries,aD_old,aD_steps,aD_room,aD_next⟩≤1048576)(hw:Yi ⟨aD_nodes,aD_entries,aD_old,aD_steps,aD_room,aD_next⟩)(hv:wfI aVersion):CallOk Tryz.prog 45 [.agg [.d (.row 3 xaD_nodes),.d (.row 2 xaD_entries),.d (.row 2 xaD_old),.d (.row 1 xaD_steps),.d (.sc (.int .i64 aD_room)),.d (.sc (.int .i64 aD_next))],.d (.sc (.int .i64 aVersion))] [] ⟨.d (.row 1 ((D4 ⟨aD_nodes,aD_entries,aD_old,aD_steps,aD_room,aD_next⟩ aVersion).map cI)),[],[]⟩:=
 (T45R haD_nodes haD_entries haD_old haD_steps hb hw hv).rowD rfl (by rw[List.length_map])
noncomputable def c10:Code:=(Tryz.f10.body).getD .skip
theorem T10{aD_nodes:List Bk}{xaD_nodes:List (List D)}(haD_nodes:aD_nodes.map Bg=xaD_nodes){aD_entries:List Ad}{xaD_entries:List (List D)}(haD_entries:aD_entries.map Ac=xaD_entries){aD_old:List Ad}{xaD_old:List (List D)}(haD_old:aD_old.map Ac=xaD_old){aD_steps:List ByteArray}{xaD_steps:List (List D)}(haD_steps:aD_steps.map cS=xaD_steps){aD_room:Int}{aD_next:Int}{aVersion:Int}(ok_aD:XiV ⟨aD_nodes,aD_entries,aD_old,aD_steps,aD_room,aD_next⟩)(wf_aD:Yi ⟨aD_nodes,aD_entries,aD_old,aD_steps,aD_room,aD_next⟩)(wf_aVersion:wfI aVersion):CallOk Tryz.prog 10 [.agg [.d (.row 3 xaD_nodes),.d (.row 2 xaD_entries),.d (.row 2 xaD_old),.d (.row 1 xaD_steps),.d (.sc (.int .i64 aD_room)),.d (.sc (.int .i64 aD_next))],.d (.sc (.int .i64 aVersion))] [] ⟨.d (.sc (.bool true)),[],[]⟩:=by
 have ent30_:=ent30
 have T30_:=@T30
 have ent37_:=ent37
 have T37_:=@T37
 have ent39_:=ent39
 have T39_:=@T39
 have ent41_:=ent41
 have T41_:=@T41
 have ent42_:=ent42
 have T42_:=@T42
 have ent44_:=ent44
 have T44_:=@T44
 have ent45_:=ent45
 have T45_:=@T45
 have ent46_:=ent46
 have T46_:=@T46
 have ent47_:=ent47
 have T47_:=@T47
 have T45_R:=@T45R
 have T39_R:=@T39R
 refine CallOk.of_bodyD (body:=c10) Tryz.func10 rfl (Nat.le_of_ble_eq_true (by kernel_rfl)) rfl ?_
 refine Fg Cx mixed ?_
 have hT:=Cx
 have hm:=mixed
 generalize hP:Tryz.prog=P at*
 generalize hA:std=A
 obtain⟨qbin,qsh,qcmp,qscmp,qbcmp,qbnot,qneg,qwrap,qcat,qssize,qssub,qsget,qlen,qrsub,qapp,qelt,qset,qnth,qdrp,qstr,qint,qbool,qrow,qnat,qnadd,qnsub,qband,qofNat,qstrRow,qmkRow,qmx,qmn,qbytes,qemp⟩:=A
 have hE:=Ar.eqs hA
 dsimp only at hE
 generalize hQ:EndD P Tryz.f10.results _=Q
 have hself:(∀v:Int,qcmp .neq v v=false)∧(∀v:ByteArray,qscmp .neq v v=false)∧(∀v:Bool,qbnot (qbcmp v v)=false)∧qbnot true=false:=by
  refine⟨fun v=>?_,fun v=>?_,fun v=>?_,?_⟩<;>simp only[hE,Az,Jz,Aq,A0]<;>simp
 obtain⟨hself1,hself2,hself3,hself4⟩:=hself
 obtain⟨naD_nodes,hnaD_nodes⟩:∃n,n=aD_nodes.length:=⟨_,rfl⟩
 have hl_aD_nodes:naD_nodes=xaD_nodes.length:=by rw[hnaD_nodes,←haD_nodes,List.length_map]
 obtain⟨naD_entries,hnaD_entries⟩:∃n,n=aD_entries.length:=⟨_,rfl⟩
 have hl_aD_entries:naD_entries=xaD_entries.length:=by rw[hnaD_entries,←haD_entries,List.length_map]
 obtain⟨naD_old,hnaD_old⟩:∃n,n=aD_old.length:=⟨_,rfl⟩
 have hl_aD_old:naD_old=xaD_old.length:=by rw[hnaD_old,←haD_old,List.length_map]
 obtain⟨naD_steps,hnaD_steps⟩:∃n,n=aD_steps.length:=⟨_,rfl⟩
 have hl_aD_steps:naD_steps=xaD_steps.length:=by rw[hnaD_steps,←haD_steps,List.length_map]
 cbv
 try simp only[nc]at*
 refine ClW.dd (f:=37) rfl rfl rfl rfl (.cons rfl (.cons rfl .nil)) rfl ent37_ (T37_ haD_nodes haD_entries haD_old haD_steps (by omega) (by omega) ok_aD) rfl ?_
 generalize aa:Ig (Fy (⟨aD_nodes,aD_entries,aD_old,aD_steps,aD_room,aD_next⟩:Aa)) 1048576=left0
 cbv
 try simp only[nc]at*
 split
 ·cbv
  try simp only[nc]at*
  rw[←hQ]
  exact C9 rfl rfl
 rename_i c1
 simp only[hE,List.length_map,A7,A8,Bb,A9,A6,Az,A1,A5,Au,Ay,Ak,A0,Ax,Aq,A4,Al,Aw,Av,Ba,IntKind.wrap_i64,decide_eq_true_eq,decide_eq_false_iff_not,Bool.not_eq_true',Bool.not_eq_false',Option.getD_none,Option.getD_some]at c1
 obtain⟨g0,g0'⟩:=P9 (t:=Fy (⟨aD_nodes,aD_entries,aD_old,aD_steps,aD_room,aD_next⟩:Aa)) (left:=1048576) (by omega)
 have nn0:=Xgn (⟨aD_nodes,aD_entries,aD_old,aD_steps,aD_room,aD_next⟩:Aa)
 have bd_aD:Fy (⟨aD_nodes,aD_entries,aD_old,aD_steps,aD_room,aD_next⟩:Aa)≤1048576:=by omega
 cbv
 try simp only[nc]at*
 refine ClW.dd (f:=39) rfl rfl rfl rfl (.cons rfl .nil) rfl ent39_ (T39_ haD_nodes haD_entries haD_old haD_steps bd_aD) rfl ?_
 cbv
 try simp only[nc]at*
 obtain⟨rr,hrr⟩:∃rr,rr=D4 (⟨aD_nodes,aD_entries,aD_old,aD_steps,aD_room,aD_next⟩:Aa) aVersion:=⟨_,rfl⟩
 have bd_rr:Sh rr≤549755813888:=by rw[hrr];exact XgC bd_aD wf_aD wf_aVersion
 have bl_rr:=Xeb rr
 refine ClW.dd (f:=44) rfl rfl rfl rfl (.cons rfl (.cons rfl .nil)) rfl ent44_ (T44_ haD_nodes haD_entries haD_old haD_steps bd_aD wf_aD wf_aVersion) rfl ?_
 rw[←hrr]
 generalize hys:rr.map cI=ys
 obtain⟨nr,hnr⟩:∃n,n=rr.length:=⟨_,rfl⟩
 have hlr:nr=ys.length:=by rw[hnr,←hys,List.length_map]
 cbv
 try simp only[nc]at*
 refine ClW.ddA (f:=39) rfl rfl rfl rfl (.cons rfl .nil) rfl ent39_ (T39_R haD_nodes haD_entries haD_old haD_steps hnaD_nodes hnaD_entries hnaD_old hnaD_steps bd_aD) rfl rfl rfl (by simp[T6 (fun _=>rfl) haD_nodes,T6 (fun _=>rfl) haD_entries,T6 (fun _=>rfl) haD_old,T6 (fun _=>rfl) haD_steps]) ?_
 cbv
 try simp only[nc]at*
 have hfl:([Root.row 1 false ((D4 (⟨aD_nodes,aD_entries,aD_old,aD_steps,aD_room,aD_next⟩:Aa) aVersion).map cI)]).all Root.flat=true:=Hk (fun _=>rfl) _
 refine ClW.lntR (f:=45) rfl rfl rfl rfl (.cons rfl (.cons rfl .nil)) (.agg (.ref rfl hl_aD_nodes (.ref rfl hl_aD_entries (.ref rfl hl_aD_old (.ref rfl hl_aD_steps (.d rfl (.d rfl .nil)))))) (.d rfl .nil)) ent45_ (T45_R haD_nodes haD_entries haD_old haD_steps bd_aD wf_aD wf_aVersion) hfl ?_
 rw[←hrr,←hnr,hys]
 cbv
 try simp only[nc]at*
 refine ClW.lnt (f:=30) rfl rfl rfl rfl (.cons rfl (.cons rfl .nil)) (.ref rfl hlr (.d rfl .nil)) ent30_ (T30_ hys (by omega)) rfl rfl ?_
 cbv
 try simp only[nc]at*
 rw[hself4]
 cbv
 try simp only[nc]at*
 refine ClW.dd (f:=39) rfl rfl rfl rfl (.cons rfl .nil) rfl ent39_ (T39_ haD_nodes haD_entries haD_old haD_steps bd_aD) rfl ?_
 cbv
 try simp only[nc]at*
 refine ClW.lnt (f:=41) rfl rfl rfl rfl (.cons rfl (.cons rfl .nil)) (.agg (.ref rfl hl_aD_nodes (.ref rfl hl_aD_entries (.ref rfl hl_aD_old (.ref rfl hl_aD_steps (.d rfl (.d rfl .nil)))))) (.d rfl .nil)) ent41_ (T41_ haD_nodes haD_entries haD_old haD_steps (by omega)) rfl rfl ?_
 cbv
 try simp only[nc]at*
 rw[hself4]
 cbv
 try simp only[nc]at*
 refine ClW.mutN (f:=42) (π:=[1,2,3,4]) rfl rfl rfl rfl (.cons rfl (.cons rfl .nil)) rfl ent42_ (T42_ haD_nodes haD_entries haD_old haD_steps hnaD_nodes hnaD_entries hnaD_old hnaD_steps bd_aD (k:=1) (by omega) (by omega)) rfl (by simp) rfl (by simp) rfl rfl (by simp) ?_
 generalize hkk15:1+3*(naD_nodes:Int)+2*(naD_entries:Int)+2*(naD_old:Int)+1*(naD_steps:Int)=kk15
 generalize hmq15_0:(O5 (1) naD_nodes).map Bg=mq15_0
 generalize hmq15_1:(Ho (1+3*(naD_nodes:Int)) naD_entries).map Ac=mq15_1
 generalize hmq15_2:(Ho (1+3*(naD_nodes:Int)+2*(naD_entries:Int)) naD_old).map Ac=mq15_2
 generalize hmq15_3:(K4 (1+3*(naD_nodes:Int)+2*(naD_entries:Int)+2*(naD_old:Int)) naD_steps).map cS=mq15_3
 cbv
 try simp only[nc]at*
 rw[show qcmp .lss kk15 0=false by simp only[hE,List.length_map,A7,A8,Bb,A9,A6,Az,A1,A5,Au,Ay,Ak,A0,Ax,Aq,A4,Al,Aw,Av,Ba,IntKind.wrap_i64,decide_eq_true_eq,decide_eq_false_iff_not,Bool.not_eq_true',Bool.not_eq_false',Option.getD_none,Option.getD_some,];omega]
 cbv
 try simp only[nc]at*
 refine ClW.lnt (f:=30) rfl rfl rfl rfl (.cons rfl (.cons rfl .nil)) (.ref rfl hlr (.d rfl .nil)) ent30_ (T30_ hys (by omega)) rfl rfl ?_
 cbv
 try simp only[nc]at*
 rw[hself4]
 cbv
 try simp only[nc]at*
 refine ClW.mut1 (f:=46) rfl rfl rfl rfl (.cons rfl (.cons rfl .nil)) rfl ent46_ (T46_ hys hnr (by omega) 1 (by omega) (by omega)) rfl ?_
 generalize hkk20:(1:Int)+1*(nr:Int)=kk20
 generalize hmk20:(I8 1 nr).map cI=ms20
 have hms20:nr=ms20.length:=by rw[←hmk20,List.length_map,Je]
 cbv
 try simp only[nc]at*
 refine ClW.lnt (f:=47) rfl rfl rfl rfl (.cons rfl (.cons rfl .nil)) (.ref rfl hms20 (.d rfl .nil)) ent47_ (T47_ (n:=nr) (k:=1) hmk20 (by omega) (by omega) (by omega)) rfl rfl ?_
 rw[show(1:Int)+1*(nr:Int)=kk20 by omega]
 cbv
 try simp only[nc]at*
 rw[show qcmp .lss kk20 0=false by simp only[hE,List.length_map,A7,A8,Bb,A9,A6,Az,A1,A5,Au,Ay,Ak,A0,Ax,Aq,A4,Al,Aw,Av,Ba,IntKind.wrap_i64,decide_eq_true_eq,decide_eq_false_iff_not,Bool.not_eq_true',Bool.not_eq_false',Option.getD_none,Option.getD_some,];omega]
 cbv
 try simp only[nc]at*
 rw[hself1]
 cbv
 try simp only[nc]at*
 refine ClW.dd (f:=39) rfl rfl rfl rfl (.cons rfl .nil) rfl ent39_ (T39_ haD_nodes haD_entries haD_old haD_steps bd_aD) rfl ?_
 cbv
 try simp only[nc]at*
 refine ClW.lntR (f:=45) rfl rfl rfl rfl (.cons rfl (.cons rfl .nil)) (.d rfl (.d rfl .nil)) ent45_ (T45_R haD_nodes haD_entries haD_old haD_steps bd_aD wf_aD wf_aVersion) hfl ?_
 rw[←hrr,←hnr,hys]
 cbv
 try simp only[nc]at*
 refine ClW.lnt (f:=30) rfl rfl rfl rfl (.cons rfl (.cons rfl .nil)) (.ref rfl hlr (.d rfl .nil)) ent30_ (T30_ hys (by omega)) rfl rfl ?_
 cbv
 try simp only[nc]at*
 rw[hself4]
 cbv
 try simp only[nc]at*
 refine ClW.lnt (f:=47) rfl rfl rfl rfl (.cons rfl (.cons rfl .nil)) (.ref rfl hms20 (.d rfl .nil)) ent47_ (T47_ (n:=nr) (k:=1) hmk20 (by omega) (by omega) (by omega)) rfl rfl ?_
 rw[show(1:Int)+1*(nr:Int)=kk20 by omega]
 cbv
 try simp only[nc]at*
 rw[show qcmp .lss kk20 0=false by simp only[hE,List.length_map,A7,A8,Bb,A9,A6,Az,A1,A5,Au,Ay,Ak,A0,Ax,Aq,A4,Al,Aw,Av,Ba,IntKind.wrap_i64,decide_eq_true_eq,decide_eq_false_iff_not,Bool.not_eq_true',Bool.not_eq_false',Option.getD_none,Option.getD_some,];omega]
 cbv
 try simp only[nc]at*
 rw[hself1]
 cbv
 try simp only[nc]at*
 rw[←hQ]
 exact C9 rfl rfl
end
end Go.Proofs.YtgdmjbcllgmepaaGreatDoor.Ab
