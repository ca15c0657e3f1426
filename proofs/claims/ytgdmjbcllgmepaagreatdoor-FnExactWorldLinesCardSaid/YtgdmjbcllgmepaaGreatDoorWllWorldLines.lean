/- What functions of the program come to, for all arguments in the given bounds. -/
import Derived.Test.YtgdmjbcllgmepaaGreatDoorWllw
import Derived.Test.YtgdmjbcllgmepaaGreatDoorWlHsz
import Derived.Test.YtgdmjbcllgmepaaGreatDoorWlHtR
set_option linter.unusedVariables false
set_option linter.unusedSimpArgs false
namespace Go.Proofs.YtgdmjbcllgmepaaGreatDoor.Ab
section
open Go Go.Proofs
set_option maxRecDepth 20000
set_option maxHeartbeats 4000000
theorem Xe1{v n:Int}{r:ByteArray}(h:(v=1∨v=2)∧0≤n∧n≤1000000000)(hr:r.size≤60):r.size+4≤(Aw v n r).size:=by
 unfold Aw
 rw[if_pos ⟨h.1,h.2,hr⟩,ByteArray.size_append,ByteArray.size_append,Jj _ (Nv r)]
 omega
theorem Hk{x:ByteArray}{l:List ByteArray}:Ay (x::l)=1+(x.size:Int)+Ay l:=by
 unfold Ay
 rw[List.length_cons]
 show((l.length+1:Nat):Int)+((x.size:Int)+G8 _ _)=_
 omega
theorem Ny{l m:List ByteArray}:Ay (l++m)=Ay l+Ay m:=by
 induction l with
 |nil=>show Ay m=(0:Int)+Ay m;omega
 |cons x l ih=>
  rw[List.cons_append,Hk,Hk,ih]
  omega
theorem Xj:∀(k:Nat) {h:Bb} {b:ByteArray} {n:Nat} {p:Int},(b.size - p).toNat≤k→0≤p∧p≤b.size→p+Ay (Ee h b n p).1≤b.size
 |k,h,b,n,p,hk,hp=>by
  cases hm:C5 h.version_ (h.base_+n) b p
  ·rcases hf:A1 h.version_ (h.base_+n) b p with⟨r,q,ok⟩
   cases ok
   ·rw[H4 hm hf]
    show p+(0:Int)≤_
    omega
   ·have h2:=Ev hf
    obtain⟨h3,h4,h5,h6,h7,h8,h9,h10,-⟩:=h2
    have h11:=Xe1 ⟨h7,h8,h9⟩ h6
    rw[H7 hm hf]
    cases k with
    |zero=>omega
    |succ k=>
     have ih:=Xj k (h:=h) (b:=b) (n:=n+1) (p:=q) (by omega) (by omega)
     rw[Hk]
     omega
  ·rw[H8 hm]
   show p+(0:Int)≤_
   omega
theorem Xej{b:ByteArray}:Ay (Bz b)≤b.size:=by
 unfold Bz A0
 split
 ·rename_i h e
  have h2:=Eb e
  have:=Xj _ (h:=h) (b:=b) (n:=0) (p:=24) (Nat.le_refl _) (by omega)
  show Ay (Ee h b 0 24).1≤_
  omega
 ·show(0:Int)≤_
  omega
theorem Xfv{d:As}(hd:okD d)(hw:Xe9 d):∀(l:List A3),Ay (l.map fun e=>Gl d e.name_)≤A5 l+43*(l.length:Int)
 |[]=>by simp[Ay,A5,G8]
 |e::l=>by
  have ih:=Xfv hd hw l
  have hb:=XbB hd hw e.name_
  unfold Ay A5 at*
  rw[List.map_cons,List.length_cons,List.length_cons]
  show(((l.map _).length+1:Nat):Int)+(((Gl d e.name_).size:Int)+G8 _ _)≤((l.length+1:Nat):Int)+(B5 e+G8 _ _)+43*((l.length+1:Nat):Int)
  have:B5 e=(e.name_.size:Int):=rfl
  omega
theorem Y2{d:As}(h:Xdm d):Xe9 d:=fun n hn=>by
 have:=(h.1 n hn).2
 unfold wfI at this
 unfold Ma
 omega
theorem bRow{d:As}(hd:okD d):Ay (Jp d)≤16000000000:=by
 rw[Mp]
 have key:∀c:List Int,Ay (c.flatMap fun b=>Bz (B2 d b))≤1000000000*(c.length:Int):=by
  intro c
  induction c with
  |nil=>show(0:Int)≤_;simp
  |cons b c ih=>
   rw[List.flatMap_cons,Ny,List.length_cons]
   have h1:=Xej (b:=B2 d b)
   have h2:=F8 hd (rfl:B2 d b=_)
   omega
 have h1:=key (Dr d)
 have h2:=Js (rfl:Dr d=_)
 omega
theorem Xgm(t:ByteArray):(Dn t).size≤2*t.size+1:=by
 have h0:(tx [45]).size=1:=rfl
 have h1:(Xl t).1.size≤2*t.size:=by
  unfold Xl
  split
  ·show(tx []).size≤_;rw[show(tx []).size=0 from rfl];omega
  ·show(Iz t).size≤_
   unfold Iz
   have:t.data.toList.length=t.size:=Array.length_toList
   rw[A7,Xam,this];omega
 unfold Dn
 split
 ·omega
 ·omega
theorem XgV:∀(l:List ByteArray),Ay (Ej l)≤2*Ay l
 |[]=>by show(0:Int)≤2*0;omega
 |x::l=>by
  have ih:=XgV l
  have h:=Xgm x
  unfold Ej at*
  rw[List.map_cons,Hk,Hk]
  omega
theorem XhF{d:As}:∀(l:List A3),Ay (B8 ((l.map fun e=>e.name_).flatMap (Ho d)))≤A5 l+8*(l.length:Int)
 |[]=>by show(0:Int)≤_;simp[A5,G8]
 |e::l=>by
  have ih:=XhF (d:=d) l
  have h1:Ay (B8 (Ho d e.name_))≤(e.name_.size:Int)+8:=by
   unfold Ho
   split
   ·show(0:Int)≤_;omega
   ·have h2:=I2 (rfl:B0 (Bu d (Dr d) e.name_)=_)
    unfold B8
    rw[List.map_cons,Hk,ByteArray.size_append,ByteArray.size_append,show(tx [32]).size=1 from rfl]
    show 1+_+(0:Int)≤_
    dsimp only
    omega
  have h3:A5 (e::l)=A5 l+1+(e.name_.size:Int):=by
   unfold A5
   rw[List.length_cons]
   show((l.length+1:Nat):Int)+((e.name_.size:Int)+G8 _ _)=_
   omega
  unfold B8 at*
  rw[List.map_cons,List.flatMap_cons,List.map_append,Ny,List.length_cons]
  omega
theorem Y6{w:Gc}(hb:D4 w≤1048576):Dw w.disk_≤1048576∧w.told_.length≤1048576:=by
 have h1:=G6 w.disk_
 have h2:=Fi w.writer_
 have h3:=E4 w.told_
 unfold D4 at hb
 omega
theorem Ze{w:Gc}(hw:Mu w):Ma w.sure_:=by
 have:=hw.2.2.2.1
 unfold wfI at this
 unfold Ma
 omega
theorem Zi{w:Gc}(hb:D4 w≤1048576)(hw:Mu w):Ay (C1 w)≤549755813888:=by
 have hb2:=Y6 hb
 have hd:okD w.disk_:=XdO (by omega)
 have h1:=Xfv hd (Y2 hw.2.1) w.disk_.entries_
 have n1:=Es w.disk_.nodes_
 have n3:=B7 w.disk_.old_
 have n4:=B9 w.disk_.steps_
 have l2:=Ew w.disk_.entries_
 have h2:=XgV (Jp w.disk_)
 have h3:=bRow hd
 have h6:=XhF (d:=w.disk_) w.disk_.entries_
 have h7:=Lq (l:=[(w.told_.length:Int),w.sure_]) rfl (by
  intro n hn
  simp only[List.mem_cons,List.not_mem_nil,or_false]at hn
  rcases hn with rfl|rfl
  ·unfold Ma;omega
  ·exact Ze hw)
 simp only[List.length_cons,List.length_nil]at h7
 have aa:=hb2.1
 unfold Dw at aa
 unfold C1
 rw[Ny,Ny,Ny,Hk,Hk,ByteArray.size_append,show(tx [116,111,108,100]).size=4 from rfl,show(tx [114,111,119]).size=3 from rfl,show Ay []=0 from rfl]
 unfold D3 Hl
 omega
theorem ent15:Bd Tryz.prog 15:=⟨_,Tryz.func15,rfl,rfl⟩
theorem T15{aW_set_room:Int}{aW_set_version:Int}{aW_set_stride:Int}{aW_set_roll:Int}{aW_disk_nodes:List Cm}{xaW_disk_nodes:List (List D)}(haW_disk_nodes:aW_disk_nodes.map Cs=xaW_disk_nodes){aW_disk_entries:List A3}{xaW_disk_entries:List (List D)}(haW_disk_entries:aW_disk_entries.map A2=xaW_disk_entries){aW_disk_old:List A3}{xaW_disk_old:List (List D)}(haW_disk_old:aW_disk_old.map A2=xaW_disk_old){aW_disk_steps:List ByteArray}{xaW_disk_steps:List (List D)}(haW_disk_steps:aW_disk_steps.map cS=xaW_disk_steps){aW_disk_room:Int}{aW_disk_next:Int}{aW_writer_version:Int}{aW_writer_stride:Int}{aW_writer_roll:Int}{aW_writer_base:Int}{aW_writer_link:Int}{aW_writer_offsets:List Int}{xaW_writer_offsets:List (List D)}(haW_writer_offsets:aW_writer_offsets.map cI=xaW_writer_offsets){aW_writer_end:Int}{aW_writer_open:Bool}{aW_writer_code:Int}{aW_told:List ByteArray}{xaW_told:List (List D)}(haW_told:aW_told.map cS=xaW_told){aW_sure:Int}{aW_falls:Int}(hb:D4 ⟨⟨aW_set_room,aW_set_version,aW_set_stride,aW_set_roll⟩,⟨aW_disk_nodes,aW_disk_entries,aW_disk_old,aW_disk_steps,aW_disk_room,aW_disk_next⟩,⟨aW_writer_version,aW_writer_stride,aW_writer_roll,aW_writer_base,aW_writer_link,aW_writer_offsets,aW_writer_end,aW_writer_open,aW_writer_code⟩,aW_told,aW_sure,aW_falls⟩≤1048576)(hw:Mu ⟨⟨aW_set_room,aW_set_version,aW_set_stride,aW_set_roll⟩,⟨aW_disk_nodes,aW_disk_entries,aW_disk_old,aW_disk_steps,aW_disk_room,aW_disk_next⟩,⟨aW_writer_version,aW_writer_stride,aW_writer_roll,aW_writer_base,aW_writer_link,aW_writer_offsets,aW_writer_end,aW_writer_open,aW_writer_code⟩,aW_told,aW_sure,aW_falls⟩):CallOk Tryz.prog 15 [.agg [.d (.sc (.int .i64 aW_set_room)),.d (.sc (.int .i64 aW_set_version)),.d (.sc (.int .i64 aW_set_stride)),.d (.sc (.int .i64 aW_set_roll)),.d (.row 3 xaW_disk_nodes),.d (.row 2 xaW_disk_entries),.d (.row 2 xaW_disk_old),.d (.row 1 xaW_disk_steps),.d (.sc (.int .i64 aW_disk_room)),.d (.sc (.int .i64 aW_disk_next)),.d (.sc (.int .i64 aW_writer_version)),.d (.sc (.int .i64 aW_writer_stride)),.d (.sc (.int .i64 aW_writer_roll)),.d (.sc (.int .i64 aW_writer_base)),.d (.sc (.int .i64 aW_writer_link)),.d (.row 1 xaW_writer_offsets),.d (.sc (.int .i64 aW_writer_end)),.d (.sc (.bool aW_writer_open)),.d (.sc (.int .i64 aW_writer_code)),.d (.row 1 xaW_told),.d (.sc (.int .i64 aW_sure)),.d (.sc (.int .i64 aW_falls))]] [] ⟨.d (.row 1 ((C1 ⟨⟨aW_set_room,aW_set_version,aW_set_stride,aW_set_roll⟩,⟨aW_disk_nodes,aW_disk_entries,aW_disk_old,aW_disk_steps,aW_disk_room,aW_disk_next⟩,⟨aW_writer_version,aW_writer_stride,aW_writer_roll,aW_writer_base,aW_writer_link,aW_writer_offsets,aW_writer_end,aW_writer_open,aW_writer_code⟩,aW_told,aW_sure,aW_falls⟩).map cS)),[],[]⟩:=by
 have h:=Y6 hb
 exact(Wz haW_disk_nodes haW_disk_entries haW_disk_old haW_disk_steps haW_writer_offsets haW_told (XdO (by have:=h.1;dsimp only at this;omega)) (Y2 hw.2.1) (by have:=h.2;dsimp only at this;omega) (Ze hw) rfl rfl).ok
theorem ent17:Bd Tryz.prog 17:=⟨_,Tryz.func17,rfl,rfl⟩
theorem T17R{aW_set_room:Int}{aW_set_version:Int}{aW_set_stride:Int}{aW_set_roll:Int}{aW_disk_nodes:List Cm}{xaW_disk_nodes:List (List D)}(haW_disk_nodes:aW_disk_nodes.map Cs=xaW_disk_nodes){aW_disk_entries:List A3}{xaW_disk_entries:List (List D)}(haW_disk_entries:aW_disk_entries.map A2=xaW_disk_entries){aW_disk_old:List A3}{xaW_disk_old:List (List D)}(haW_disk_old:aW_disk_old.map A2=xaW_disk_old){aW_disk_steps:List ByteArray}{xaW_disk_steps:List (List D)}(haW_disk_steps:aW_disk_steps.map cS=xaW_disk_steps){aW_disk_room:Int}{aW_disk_next:Int}{aW_writer_version:Int}{aW_writer_stride:Int}{aW_writer_roll:Int}{aW_writer_base:Int}{aW_writer_link:Int}{aW_writer_offsets:List Int}{xaW_writer_offsets:List (List D)}(haW_writer_offsets:aW_writer_offsets.map cI=xaW_writer_offsets){aW_writer_end:Int}{aW_writer_open:Bool}{aW_writer_code:Int}{aW_told:List ByteArray}{xaW_told:List (List D)}(haW_told:aW_told.map cS=xaW_told){aW_sure:Int}{aW_falls:Int}(hb:D4 ⟨⟨aW_set_room,aW_set_version,aW_set_stride,aW_set_roll⟩,⟨aW_disk_nodes,aW_disk_entries,aW_disk_old,aW_disk_steps,aW_disk_room,aW_disk_next⟩,⟨aW_writer_version,aW_writer_stride,aW_writer_roll,aW_writer_base,aW_writer_link,aW_writer_offsets,aW_writer_end,aW_writer_open,aW_writer_code⟩,aW_told,aW_sure,aW_falls⟩≤1048576)(hw:Mu ⟨⟨aW_set_room,aW_set_version,aW_set_stride,aW_set_roll⟩,⟨aW_disk_nodes,aW_disk_entries,aW_disk_old,aW_disk_steps,aW_disk_room,aW_disk_next⟩,⟨aW_writer_version,aW_writer_stride,aW_writer_roll,aW_writer_base,aW_writer_link,aW_writer_offsets,aW_writer_end,aW_writer_open,aW_writer_code⟩,aW_told,aW_sure,aW_falls⟩):CallOk Tryz.prog 17 [.agg [.d (.sc (.int .i64 aW_set_room)),.d (.sc (.int .i64 aW_set_version)),.d (.sc (.int .i64 aW_set_stride)),.d (.sc (.int .i64 aW_set_roll)),.d (.row 3 xaW_disk_nodes),.d (.row 2 xaW_disk_entries),.d (.row 2 xaW_disk_old),.d (.row 1 xaW_disk_steps),.d (.sc (.int .i64 aW_disk_room)),.d (.sc (.int .i64 aW_disk_next)),.d (.sc (.int .i64 aW_writer_version)),.d (.sc (.int .i64 aW_writer_stride)),.d (.sc (.int .i64 aW_writer_roll)),.d (.sc (.int .i64 aW_writer_base)),.d (.sc (.int .i64 aW_writer_link)),.d (.row 1 xaW_writer_offsets),.d (.sc (.int .i64 aW_writer_end)),.d (.sc (.bool aW_writer_open)),.d (.sc (.int .i64 aW_writer_code)),.d (.row 1 xaW_told),.d (.sc (.int .i64 aW_sure)),.d (.sc (.int .i64 aW_falls))]] [] ⟨.ref 0 0 (C1 ⟨⟨aW_set_room,aW_set_version,aW_set_stride,aW_set_roll⟩,⟨aW_disk_nodes,aW_disk_entries,aW_disk_old,aW_disk_steps,aW_disk_room,aW_disk_next⟩,⟨aW_writer_version,aW_writer_stride,aW_writer_roll,aW_writer_base,aW_writer_link,aW_writer_offsets,aW_writer_end,aW_writer_open,aW_writer_code⟩,aW_told,aW_sure,aW_falls⟩).length,[.row 1 false ((C1 ⟨⟨aW_set_room,aW_set_version,aW_set_stride,aW_set_roll⟩,⟨aW_disk_nodes,aW_disk_entries,aW_disk_old,aW_disk_steps,aW_disk_room,aW_disk_next⟩,⟨aW_writer_version,aW_writer_stride,aW_writer_roll,aW_writer_base,aW_writer_link,aW_writer_offsets,aW_writer_end,aW_writer_open,aW_writer_code⟩,aW_told,aW_sure,aW_falls⟩).map cS)],[]⟩:=by
 have h:=Y6 hb
 exact(Uy haW_disk_nodes haW_disk_entries haW_disk_old haW_disk_steps haW_writer_offsets haW_told (XdO (by have:=h.1;dsimp only at this;omega)) (Y2 hw.2.1) (by have:=h.2;dsimp only at this;omega) (Ze hw) rfl rfl rfl).ok
theorem T17{aW_set_room:Int}{aW_set_version:Int}{aW_set_stride:Int}{aW_set_roll:Int}{aW_disk_nodes:List Cm}{xaW_disk_nodes:List (List D)}(haW_disk_nodes:aW_disk_nodes.map Cs=xaW_disk_nodes){aW_disk_entries:List A3}{xaW_disk_entries:List (List D)}(haW_disk_entries:aW_disk_entries.map A2=xaW_disk_entries){aW_disk_old:List A3}{xaW_disk_old:List (List D)}(haW_disk_old:aW_disk_old.map A2=xaW_disk_old){aW_disk_steps:List ByteArray}{xaW_disk_steps:List (List D)}(haW_disk_steps:aW_disk_steps.map cS=xaW_disk_steps){aW_disk_room:Int}{aW_disk_next:Int}{aW_writer_version:Int}{aW_writer_stride:Int}{aW_writer_roll:Int}{aW_writer_base:Int}{aW_writer_link:Int}{aW_writer_offsets:List Int}{xaW_writer_offsets:List (List D)}(haW_writer_offsets:aW_writer_offsets.map cI=xaW_writer_offsets){aW_writer_end:Int}{aW_writer_open:Bool}{aW_writer_code:Int}{aW_told:List ByteArray}{xaW_told:List (List D)}(haW_told:aW_told.map cS=xaW_told){aW_sure:Int}{aW_falls:Int}(hb:D4 ⟨⟨aW_set_room,aW_set_version,aW_set_stride,aW_set_roll⟩,⟨aW_disk_nodes,aW_disk_entries,aW_disk_old,aW_disk_steps,aW_disk_room,aW_disk_next⟩,⟨aW_writer_version,aW_writer_stride,aW_writer_roll,aW_writer_base,aW_writer_link,aW_writer_offsets,aW_writer_end,aW_writer_open,aW_writer_code⟩,aW_told,aW_sure,aW_falls⟩≤1048576)(hw:Mu ⟨⟨aW_set_room,aW_set_version,aW_set_stride,aW_set_roll⟩,⟨aW_disk_nodes,aW_disk_entries,aW_disk_old,aW_disk_steps,aW_disk_room,aW_disk_next⟩,⟨aW_writer_version,aW_writer_stride,aW_writer_roll,aW_writer_base,aW_writer_link,aW_writer_offsets,aW_writer_end,aW_writer_open,aW_writer_code⟩,aW_told,aW_sure,aW_falls⟩):CallOk Tryz.prog 17 [.agg [.d (.sc (.int .i64 aW_set_room)),.d (.sc (.int .i64 aW_set_version)),.d (.sc (.int .i64 aW_set_stride)),.d (.sc (.int .i64 aW_set_roll)),.d (.row 3 xaW_disk_nodes),.d (.row 2 xaW_disk_entries),.d (.row 2 xaW_disk_old),.d (.row 1 xaW_disk_steps),.d (.sc (.int .i64 aW_disk_room)),.d (.sc (.int .i64 aW_disk_next)),.d (.sc (.int .i64 aW_writer_version)),.d (.sc (.int .i64 aW_writer_stride)),.d (.sc (.int .i64 aW_writer_roll)),.d (.sc (.int .i64 aW_writer_base)),.d (.sc (.int .i64 aW_writer_link)),.d (.row 1 xaW_writer_offsets),.d (.sc (.int .i64 aW_writer_end)),.d (.sc (.bool aW_writer_open)),.d (.sc (.int .i64 aW_writer_code)),.d (.row 1 xaW_told),.d (.sc (.int .i64 aW_sure)),.d (.sc (.int .i64 aW_falls))]] [] ⟨.d (.row 1 ((C1 ⟨⟨aW_set_room,aW_set_version,aW_set_stride,aW_set_roll⟩,⟨aW_disk_nodes,aW_disk_entries,aW_disk_old,aW_disk_steps,aW_disk_room,aW_disk_next⟩,⟨aW_writer_version,aW_writer_stride,aW_writer_roll,aW_writer_base,aW_writer_link,aW_writer_offsets,aW_writer_end,aW_writer_open,aW_writer_code⟩,aW_told,aW_sure,aW_falls⟩).map cS)),[],[]⟩:=
 (T17R haW_disk_nodes haW_disk_entries haW_disk_old haW_disk_steps haW_writer_offsets haW_told hb hw).rowD rfl (by rw[List.length_map])
noncomputable def c3:Code:=(Tryz.f3.body).getD .skip
theorem T3{aW_set_room:Int}{aW_set_version:Int}{aW_set_stride:Int}{aW_set_roll:Int}{aW_disk_nodes:List Cm}{xaW_disk_nodes:List (List D)}(haW_disk_nodes:aW_disk_nodes.map Cs=xaW_disk_nodes){aW_disk_entries:List A3}{xaW_disk_entries:List (List D)}(haW_disk_entries:aW_disk_entries.map A2=xaW_disk_entries){aW_disk_old:List A3}{xaW_disk_old:List (List D)}(haW_disk_old:aW_disk_old.map A2=xaW_disk_old){aW_disk_steps:List ByteArray}{xaW_disk_steps:List (List D)}(haW_disk_steps:aW_disk_steps.map cS=xaW_disk_steps){aW_disk_room:Int}{aW_disk_next:Int}{aW_writer_version:Int}{aW_writer_stride:Int}{aW_writer_roll:Int}{aW_writer_base:Int}{aW_writer_link:Int}{aW_writer_offsets:List Int}{xaW_writer_offsets:List (List D)}(haW_writer_offsets:aW_writer_offsets.map cI=xaW_writer_offsets){aW_writer_end:Int}{aW_writer_open:Bool}{aW_writer_code:Int}{aW_told:List ByteArray}{xaW_told:List (List D)}(haW_told:aW_told.map cS=xaW_told){aW_sure:Int}{aW_falls:Int}(ok_aW:Zo ⟨⟨aW_set_room,aW_set_version,aW_set_stride,aW_set_roll⟩,⟨aW_disk_nodes,aW_disk_entries,aW_disk_old,aW_disk_steps,aW_disk_room,aW_disk_next⟩,⟨aW_writer_version,aW_writer_stride,aW_writer_roll,aW_writer_base,aW_writer_link,aW_writer_offsets,aW_writer_end,aW_writer_open,aW_writer_code⟩,aW_told,aW_sure,aW_falls⟩)(wf_aW:Mu ⟨⟨aW_set_room,aW_set_version,aW_set_stride,aW_set_roll⟩,⟨aW_disk_nodes,aW_disk_entries,aW_disk_old,aW_disk_steps,aW_disk_room,aW_disk_next⟩,⟨aW_writer_version,aW_writer_stride,aW_writer_roll,aW_writer_base,aW_writer_link,aW_writer_offsets,aW_writer_end,aW_writer_open,aW_writer_code⟩,aW_told,aW_sure,aW_falls⟩):CallOk Tryz.prog 3 [.agg [.d (.sc (.int .i64 aW_set_room)),.d (.sc (.int .i64 aW_set_version)),.d (.sc (.int .i64 aW_set_stride)),.d (.sc (.int .i64 aW_set_roll)),.d (.row 3 xaW_disk_nodes),.d (.row 2 xaW_disk_entries),.d (.row 2 xaW_disk_old),.d (.row 1 xaW_disk_steps),.d (.sc (.int .i64 aW_disk_room)),.d (.sc (.int .i64 aW_disk_next)),.d (.sc (.int .i64 aW_writer_version)),.d (.sc (.int .i64 aW_writer_stride)),.d (.sc (.int .i64 aW_writer_roll)),.d (.sc (.int .i64 aW_writer_base)),.d (.sc (.int .i64 aW_writer_link)),.d (.row 1 xaW_writer_offsets),.d (.sc (.int .i64 aW_writer_end)),.d (.sc (.bool aW_writer_open)),.d (.sc (.int .i64 aW_writer_code)),.d (.row 1 xaW_told),.d (.sc (.int .i64 aW_sure)),.d (.sc (.int .i64 aW_falls))]] [] ⟨.d (.sc (.bool true)),[],[]⟩:=by
 have ent14_:=ent14
 have T14_:=@T14
 have ent15_:=ent15
 have T15_:=@T15
 have ent16_:=ent16
 have T16_:=@T16
 have ent17_:=ent17
 have T17_:=@T17
 have ent18_:=Xgw
 have T18_:=@T18
 have ent19_:=ent19
 have T19_:=@T19
 have ent20_:=ent20
 have T20_:=@T20
 have ent21_:=XfJ
 have T21_:=@T21
 have ent22_:=ent22
 have T22_:=@T22
 have T17_R:=@T17R
 have T16_R:=@T16R
 refine CallOk.of_bodyD (body:=c3) Tryz.func3 rfl (Nat.le_of_ble_eq_true (by kernel_rfl)) rfl ?_
 refine Cz A6 mixed ?_
 have hT:=A6
 have hm:=mixed
 generalize hP:Tryz.prog=P at*
 generalize hA:std=A
 obtain⟨qbin,qsh,qcmp,qscmp,qbcmp,qbnot,qneg,qwrap,qcat,qssize,qssub,qsget,qlen,qrsub,qapp,qelt,qset,qnth,qdrp,qstr,qint,qbool,qrow,qnat,qnadd,qnsub,qband,qofNat,qstrRow,qmkRow,qmx,qmn,qbytes,qemp⟩:=A
 have hE:=Ar.eqs hA
 dsimp only at hE
 generalize hQ:EndD P Tryz.f3.results _=Q
 have hself:(∀v:Int,qcmp .neq v v=false)∧(∀v:ByteArray,qscmp .neq v v=false)∧(∀v:Bool,qbnot (qbcmp v v)=false)∧qbnot true=false:=by
  refine⟨fun v=>?_,fun v=>?_,fun v=>?_,?_⟩<;>simp only[hE,Aj,Fx,Ad,Ak]<;>simp
 obtain⟨hself1,hself2,hself3,hself4⟩:=hself
 obtain⟨naW_disk_nodes,hnaW_disk_nodes⟩:∃n,n=aW_disk_nodes.length:=⟨_,rfl⟩
 have hl_aW_disk_nodes:naW_disk_nodes=xaW_disk_nodes.length:=by rw[hnaW_disk_nodes,←haW_disk_nodes,List.length_map]
 obtain⟨naW_disk_entries,hnaW_disk_entries⟩:∃n,n=aW_disk_entries.length:=⟨_,rfl⟩
 have hl_aW_disk_entries:naW_disk_entries=xaW_disk_entries.length:=by rw[hnaW_disk_entries,←haW_disk_entries,List.length_map]
 obtain⟨naW_disk_old,hnaW_disk_old⟩:∃n,n=aW_disk_old.length:=⟨_,rfl⟩
 have hl_aW_disk_old:naW_disk_old=xaW_disk_old.length:=by rw[hnaW_disk_old,←haW_disk_old,List.length_map]
 obtain⟨naW_disk_steps,hnaW_disk_steps⟩:∃n,n=aW_disk_steps.length:=⟨_,rfl⟩
 have hl_aW_disk_steps:naW_disk_steps=xaW_disk_steps.length:=by rw[hnaW_disk_steps,←haW_disk_steps,List.length_map]
 obtain⟨naW_writer_offsets,hnaW_writer_offsets⟩:∃n,n=aW_writer_offsets.length:=⟨_,rfl⟩
 have hl_aW_writer_offsets:naW_writer_offsets=xaW_writer_offsets.length:=by rw[hnaW_writer_offsets,←haW_writer_offsets,List.length_map]
 obtain⟨naW_told,hnaW_told⟩:∃n,n=aW_told.length:=⟨_,rfl⟩
 have hl_aW_told:naW_told=xaW_told.length:=by rw[hnaW_told,←haW_told,List.length_map]
 cbv
 try simp only[nc]at*
 refine ClW.dd (f:=14) rfl rfl rfl rfl (.cons rfl (.cons rfl .nil)) rfl ent14_ (T14_ haW_disk_nodes haW_disk_entries haW_disk_old haW_disk_steps haW_writer_offsets haW_told (by omega) (by omega) ok_aW) rfl ?_
 generalize aa:Ed (D4 (⟨⟨aW_set_room,aW_set_version,aW_set_stride,aW_set_roll⟩,⟨aW_disk_nodes,aW_disk_entries,aW_disk_old,aW_disk_steps,aW_disk_room,aW_disk_next⟩,⟨aW_writer_version,aW_writer_stride,aW_writer_roll,aW_writer_base,aW_writer_link,aW_writer_offsets,aW_writer_end,aW_writer_open,aW_writer_code⟩,aW_told,aW_sure,aW_falls⟩:Gc)) 1048576=left0
 cbv
 try simp only[nc]at*
 split
 ·cbv
  try simp only[nc]at*
  rw[←hQ]
  exact Bg rfl rfl
 rename_i c1
 simp only[hE,List.length_map,Aq,At,Au,Av,Ao,Aj,Al,An,Af,Ah,Ac,Ak,Ai,Ad,Am,Aa,Ag,Ae,Ap,IntKind.wrap_i64,decide_eq_true_eq,decide_eq_false_iff_not,Bool.not_eq_true',Bool.not_eq_false',Option.getD_none,Option.getD_some]at c1
 obtain⟨g0,g0'⟩:=Ic (t:=D4 (⟨⟨aW_set_room,aW_set_version,aW_set_stride,aW_set_roll⟩,⟨aW_disk_nodes,aW_disk_entries,aW_disk_old,aW_disk_steps,aW_disk_room,aW_disk_next⟩,⟨aW_writer_version,aW_writer_stride,aW_writer_roll,aW_writer_base,aW_writer_link,aW_writer_offsets,aW_writer_end,aW_writer_open,aW_writer_code⟩,aW_told,aW_sure,aW_falls⟩:Gc)) (left:=1048576) (by omega)
 have nn0:=Yz (⟨⟨aW_set_room,aW_set_version,aW_set_stride,aW_set_roll⟩,⟨aW_disk_nodes,aW_disk_entries,aW_disk_old,aW_disk_steps,aW_disk_room,aW_disk_next⟩,⟨aW_writer_version,aW_writer_stride,aW_writer_roll,aW_writer_base,aW_writer_link,aW_writer_offsets,aW_writer_end,aW_writer_open,aW_writer_code⟩,aW_told,aW_sure,aW_falls⟩:Gc)
 have bd_aW:D4 (⟨⟨aW_set_room,aW_set_version,aW_set_stride,aW_set_roll⟩,⟨aW_disk_nodes,aW_disk_entries,aW_disk_old,aW_disk_steps,aW_disk_room,aW_disk_next⟩,⟨aW_writer_version,aW_writer_stride,aW_writer_roll,aW_writer_base,aW_writer_link,aW_writer_offsets,aW_writer_end,aW_writer_open,aW_writer_code⟩,aW_told,aW_sure,aW_falls⟩:Gc)≤1048576:=by omega
 cbv
 try simp only[nc]at*
 refine ClW.dd (f:=16) rfl rfl rfl rfl (.cons rfl .nil) rfl ent16_ (T16_ haW_disk_nodes haW_disk_entries haW_disk_old haW_disk_steps haW_writer_offsets haW_told bd_aW) rfl ?_
 cbv
 try simp only[nc]at*
 obtain⟨rr,hrr⟩:∃rr,rr=C1 (⟨⟨aW_set_room,aW_set_version,aW_set_stride,aW_set_roll⟩,⟨aW_disk_nodes,aW_disk_entries,aW_disk_old,aW_disk_steps,aW_disk_room,aW_disk_next⟩,⟨aW_writer_version,aW_writer_stride,aW_writer_roll,aW_writer_base,aW_writer_link,aW_writer_offsets,aW_writer_end,aW_writer_open,aW_writer_code⟩,aW_told,aW_sure,aW_falls⟩:Gc):=⟨_,rfl⟩
 have bd_rr:Ay rr≤549755813888:=by rw[hrr];exact Zi bd_aW wf_aW
 have bl_rr:=E4 rr
 refine ClW.dd (f:=15) rfl rfl rfl rfl (.cons rfl .nil) rfl ent15_ (T15_ haW_disk_nodes haW_disk_entries haW_disk_old haW_disk_steps haW_writer_offsets haW_told bd_aW wf_aW) rfl ?_
 rw[←hrr]
 generalize hys:rr.map cS=ys
 obtain⟨nr,hnr⟩:∃n,n=rr.length:=⟨_,rfl⟩
 have hlr:nr=ys.length:=by rw[hnr,←hys,List.length_map]
 cbv
 try simp only[nc]at*
 refine ClW.ddA (f:=16) rfl rfl rfl rfl (.cons rfl .nil) rfl ent16_ (T16_R haW_disk_nodes haW_disk_entries haW_disk_old haW_disk_steps haW_writer_offsets haW_told hnaW_disk_nodes hnaW_disk_entries hnaW_disk_old hnaW_disk_steps hnaW_writer_offsets hnaW_told bd_aW) rfl rfl rfl (by simp[Gh (fun _=>rfl) haW_disk_nodes,Gh (fun _=>rfl) haW_disk_entries,Gh (fun _=>rfl) haW_disk_old,Gh (fun _=>rfl) haW_disk_steps,Gh (fun _=>rfl) haW_writer_offsets,Gh (fun _=>rfl) haW_told]) ?_
 cbv
 try simp only[nc]at*
 have hfl:([Root.row 1 false ((C1 (⟨⟨aW_set_room,aW_set_version,aW_set_stride,aW_set_roll⟩,⟨aW_disk_nodes,aW_disk_entries,aW_disk_old,aW_disk_steps,aW_disk_room,aW_disk_next⟩,⟨aW_writer_version,aW_writer_stride,aW_writer_roll,aW_writer_base,aW_writer_link,aW_writer_offsets,aW_writer_end,aW_writer_open,aW_writer_code⟩,aW_told,aW_sure,aW_falls⟩:Gc)).map cS)]).all Root.flat=true:=G7 (fun _=>rfl) _
 refine ClW.lntR (f:=17) rfl rfl rfl rfl (.cons rfl .nil) (.agg (.d rfl (.d rfl (.d rfl (.d rfl (.ref rfl hl_aW_disk_nodes (.ref rfl hl_aW_disk_entries (.ref rfl hl_aW_disk_old (.ref rfl hl_aW_disk_steps (.d rfl (.d rfl (.d rfl (.d rfl (.d rfl (.d rfl (.d rfl (.ref rfl hl_aW_writer_offsets (.d rfl (.d rfl (.d rfl (.ref rfl hl_aW_told (.d rfl (.d rfl .nil)))))))))))))))))))))) .nil) ent17_ (T17_R haW_disk_nodes haW_disk_entries haW_disk_old haW_disk_steps haW_writer_offsets haW_told bd_aW wf_aW) hfl ?_
 rw[←hrr,←hnr,hys]
 cbv
 try simp only[nc]at*
 refine ClW.lnt (f:=18) rfl rfl rfl rfl (.cons rfl (.cons rfl .nil)) (.ref rfl hlr (.d rfl .nil)) ent18_ (T18_ hys (by omega)) rfl rfl ?_
 cbv
 try simp only[nc]at*
 rw[hself4]
 cbv
 try simp only[nc]at*
 refine ClW.dd (f:=16) rfl rfl rfl rfl (.cons rfl .nil) rfl ent16_ (T16_ haW_disk_nodes haW_disk_entries haW_disk_old haW_disk_steps haW_writer_offsets haW_told bd_aW) rfl ?_
 cbv
 try simp only[nc]at*
 refine ClW.lnt (f:=19) rfl rfl rfl rfl (.cons rfl (.cons rfl .nil)) (.agg (.d rfl (.d rfl (.d rfl (.d rfl (.ref rfl hl_aW_disk_nodes (.ref rfl hl_aW_disk_entries (.ref rfl hl_aW_disk_old (.ref rfl hl_aW_disk_steps (.d rfl (.d rfl (.d rfl (.d rfl (.d rfl (.d rfl (.d rfl (.ref rfl hl_aW_writer_offsets (.d rfl (.d rfl (.d rfl (.ref rfl hl_aW_told (.d rfl (.d rfl .nil)))))))))))))))))))))) (.d rfl .nil)) ent19_ (T19_ haW_disk_nodes haW_disk_entries haW_disk_old haW_disk_steps haW_writer_offsets haW_told (by omega)) rfl rfl ?_
 cbv
 try simp only[nc]at*
 rw[hself4]
 cbv
 try simp only[nc]at*
 refine ClW.mutN (f:=20) (π:=[1,2,3,4,5,6]) rfl rfl rfl rfl (.cons rfl (.cons rfl .nil)) rfl ent20_ (T20_ haW_disk_nodes haW_disk_entries haW_disk_old haW_disk_steps haW_writer_offsets haW_told hnaW_disk_nodes hnaW_disk_entries hnaW_disk_old hnaW_disk_steps hnaW_writer_offsets hnaW_told bd_aW (k:=1) (by omega) (by omega)) rfl (by simp) rfl (by simp) rfl rfl (by simp) ?_
 generalize hkk15:1+3*(naW_disk_nodes:Int)+2*(naW_disk_entries:Int)+2*(naW_disk_old:Int)+1*(naW_disk_steps:Int)+1*(naW_writer_offsets:Int)+1*(naW_told:Int)=kk15
 generalize hmq15_0:(H3 (1) naW_disk_nodes).map Cs=mq15_0
 generalize hmq15_1:(Dt (1+3*(naW_disk_nodes:Int)) naW_disk_entries).map A2=mq15_1
 generalize hmq15_2:(Dt (1+3*(naW_disk_nodes:Int)+2*(naW_disk_entries:Int)) naW_disk_old).map A2=mq15_2
 generalize hmq15_3:(Cj (1+3*(naW_disk_nodes:Int)+2*(naW_disk_entries:Int)+2*(naW_disk_old:Int)) naW_disk_steps).map cS=mq15_3
 generalize hmq15_4:(Jf (1+3*(naW_disk_nodes:Int)+2*(naW_disk_entries:Int)+2*(naW_disk_old:Int)+1*(naW_disk_steps:Int)) naW_writer_offsets).map cI=mq15_4
 generalize hmq15_5:(Cj (1+3*(naW_disk_nodes:Int)+2*(naW_disk_entries:Int)+2*(naW_disk_old:Int)+1*(naW_disk_steps:Int)+1*(naW_writer_offsets:Int)) naW_told).map cS=mq15_5
 cbv
 try simp only[nc]at*
 rw[show qcmp .lss kk15 0=false by simp only[hE,List.length_map,Aq,At,Au,Av,Ao,Aj,Al,An,Af,Ah,Ac,Ak,Ai,Ad,Am,Aa,Ag,Ae,Ap,IntKind.wrap_i64,decide_eq_true_eq,decide_eq_false_iff_not,Bool.not_eq_true',Bool.not_eq_false',Option.getD_none,Option.getD_some,];omega]
 cbv
 try simp only[nc]at*
 refine ClW.lnt (f:=18) rfl rfl rfl rfl (.cons rfl (.cons rfl .nil)) (.ref rfl hlr (.d rfl .nil)) ent18_ (T18_ hys (by omega)) rfl rfl ?_
 cbv
 try simp only[nc]at*
 rw[hself4]
 cbv
 try simp only[nc]at*
 refine ClW.mut1 (f:=21) rfl rfl rfl rfl (.cons rfl (.cons rfl .nil)) rfl ent21_ (T21_ hys hnr (by omega) 1 (by omega) (by omega)) rfl ?_
 generalize hkk20:(1:Int)+1*(nr:Int)=kk20
 generalize hmk20:(Cj 1 nr).map cS=ms20
 have hms20:nr=ms20.length:=by rw[←hmk20,List.length_map,F3]
 cbv
 try simp only[nc]at*
 refine ClW.lnt (f:=22) rfl rfl rfl rfl (.cons rfl (.cons rfl .nil)) (.ref rfl hms20 (.d rfl .nil)) ent22_ (T22_ (n:=nr) (k:=1) hmk20 (by omega) (by omega) (by omega)) rfl rfl ?_
 rw[show(1:Int)+1*(nr:Int)=kk20 by omega]
 cbv
 try simp only[nc]at*
 rw[show qcmp .lss kk20 0=false by simp only[hE,List.length_map,Aq,At,Au,Av,Ao,Aj,Al,An,Af,Ah,Ac,Ak,Ai,Ad,Am,Aa,Ag,Ae,Ap,IntKind.wrap_i64,decide_eq_true_eq,decide_eq_false_iff_not,Bool.not_eq_true',Bool.not_eq_false',Option.getD_none,Option.getD_some,];omega]
 cbv
 try simp only[nc]at*
 rw[hself1]
 cbv
 try simp only[nc]at*
 refine ClW.dd (f:=16) rfl rfl rfl rfl (.cons rfl .nil) rfl ent16_ (T16_ haW_disk_nodes haW_disk_entries haW_disk_old haW_disk_steps haW_writer_offsets haW_told bd_aW) rfl ?_
 cbv
 try simp only[nc]at*
 refine ClW.lntR (f:=17) rfl rfl rfl rfl (.cons rfl .nil) (.d rfl .nil) ent17_ (T17_R haW_disk_nodes haW_disk_entries haW_disk_old haW_disk_steps haW_writer_offsets haW_told bd_aW wf_aW) hfl ?_
 rw[←hrr,←hnr,hys]
 cbv
 try simp only[nc]at*
 refine ClW.lnt (f:=18) rfl rfl rfl rfl (.cons rfl (.cons rfl .nil)) (.ref rfl hlr (.d rfl .nil)) ent18_ (T18_ hys (by omega)) rfl rfl ?_
 cbv
 try simp only[nc]at*
 rw[hself4]
 cbv
 try simp only[nc]at*
 refine ClW.lnt (f:=22) rfl rfl rfl rfl (.cons rfl (.cons rfl .nil)) (.ref rfl hms20 (.d rfl .nil)) ent22_ (T22_ (n:=nr) (k:=1) hmk20 (by omega) (by omega) (by omega)) rfl rfl ?_
 rw[show(1:Int)+1*(nr:Int)=kk20 by omega]
 cbv
 try simp only[nc]at*
 rw[show qcmp .lss kk20 0=false by simp only[hE,List.length_map,Aq,At,Au,Av,Ao,Aj,Al,An,Af,Ah,Ac,Ak,Ai,Ad,Am,Aa,Ag,Ae,Ap,IntKind.wrap_i64,decide_eq_true_eq,decide_eq_false_iff_not,Bool.not_eq_true',Bool.not_eq_false',Option.getD_none,Option.getD_some,];omega]
 cbv
 try simp only[nc]at*
 rw[hself1]
 cbv
 try simp only[nc]at*
 rw[←hQ]
 exact Bg rfl rfl
end
end Go.Proofs.YtgdmjbcllgmepaaGreatDoor.Ab
