/- What functions of the program come to, for all arguments in the given bounds. -/
import Derived.Test.YtgdmjbcllgmepaaGreatDoorFrlw
import Derived.Test.YtgdmjbcllgmepaaGreatDoorFrHsz
import Derived.Test.YtgdmjbcllgmepaaGreatDoorFrHtR
set_option linter.unusedVariables false
set_option linter.unusedSimpArgs false
namespace Go.Proofs.YtgdmjbcllgmepaaGreatDoor.Ab
section
open Go Go.Proofs
set_option maxRecDepth 20000
set_option maxHeartbeats 4000000
theorem XgW{v n:Int}{r:ByteArray}(h:(v=1∨v=2)∧0≤n∧n≤1000000000)(hr:r.size≤60):r.size+4≤(Aw v n r).size:=by
 unfold Aw
 rw[if_pos ⟨h.1,h.2,hr⟩,ByteArray.size_append,ByteArray.size_append,P1 _ (O8 r)]
 omega
theorem Uh{x:ByteArray}{l:List ByteArray}:Bb (x::l)=1+(x.size:Int)+Bb l:=by
 unfold Bb
 rw[List.length_cons]
 show((l.length+1:Nat):Int)+((x.size:Int)+Qs _ _)=_
 omega
theorem XhH{l m:List ByteArray}:Bb (l++m)=Bb l+Bb m:=by
 induction l with
 |nil=>show Bb m=(0:Int)+Bb m;omega
 |cons x l ih=>
  rw[List.cons_append,Uh,Uh,ih]
  omega
theorem Xa1:∀(k:Nat) {h:Ca} {b:ByteArray} {n:Nat} {p:Int},(b.size - p).toNat≤k→0≤p∧p≤b.size→p+Bb (G5 h b n p).1≤b.size
 |k,h,b,n,p,hk,hp=>by
  cases hm:Dx h.version_ (h.base_+n) b p
  ·rcases hf:A4 h.version_ (h.base_+n) b p with⟨r,q,ok⟩
   cases ok
   ·rw[Kj hm hf]
    show p+(0:Int)≤_
    omega
   ·have h2:=F3 hf
    obtain⟨h3,h4,h5,h6,h7,h8,h9,h10,-⟩:=h2
    have h11:=XgW ⟨h7,h8,h9⟩ h6
    rw[Kp hm hf]
    cases k with
    |zero=>omega
    |succ k=>
     have ih:=Xa1 k (h:=h) (b:=b) (n:=n+1) (p:=q) (by omega) (by omega)
     rw[Uh]
     omega
  ·rw[Kt hm]
   show p+(0:Int)≤_
   omega
theorem Xg1{b:ByteArray}:Bb (Ci b)≤b.size:=by
 unfold Ci Bq
 split
 ·rename_i h e
  have h2:=Fw e
  have:=Xa1 _ (h:=h) (b:=b) (n:=0) (p:=24) (Nat.le_refl _) (by omega)
  show Bb (G5 h b 0 24).1≤_
  omega
 ·show(0:Int)≤_
  omega
theorem Xhb{a b c e:Int}{l:List ByteArray}(hb:Bb l≤1048576)(w0:wfI a)(w1:wfI b)(w2:wfI c)(w3:wfI e):Bb (Fi a b c e l)≤549755813888:=by
 have hd:=(Xiq (room:=a) (v:=b) (s:=c) (r:=e) (l:=l)).1
 unfold Fi
 generalize(Cb a b c e l).1=d at hd⊢
 rw[S2]
 have key:∀c:List Int,Bb (c.flatMap fun b=>Ci (Cz d b))≤1000000000*(c.length:Int):=by
  intro c
  induction c with
  |nil=>show(0:Int)≤_;simp
  |cons b c ih=>
   rw[List.flatMap_cons,XhH,List.length_cons]
   have h1:=Xg1 (b:=Cz d b)
   have h2:=Hk hd (rfl:Cz d b=_)
   omega
 have h1:=key (Ky d)
 have h2:=Vl (rfl:Ky d=_)
 omega
theorem ent35:Dw Tryz.prog 35:=⟨_,Tryz.func35,rfl,rfl⟩
theorem T35{aRoom aVersion aStride aRoll:Int}{aRecords:List ByteArray}{xaRecords:List (List D)}(haRecords:aRecords.map cS=xaRecords)(hb:Bb aRecords≤1048576)(w0:wfI aRoom)(w1:wfI aVersion)(w2:wfI aStride)(w3:wfI aRoll):CallOk Tryz.prog 35 [.d (.sc (.int .i64 aRoom)),.d (.sc (.int .i64 aVersion)),.d (.sc (.int .i64 aStride)),.d (.sc (.int .i64 aRoll)),.d (.row 1 xaRecords)] [] ⟨.d (.row 1 ((Fi aRoom aVersion aStride aRoll aRecords).map cS)),[],[]⟩:=by
 exact(Xf8 haRecords rfl rfl).ok
theorem ent36:Dw Tryz.prog 36:=⟨_,Tryz.func36,rfl,rfl⟩
theorem T36R{aRoom aVersion aStride aRoll:Int}{aRecords:List ByteArray}{xaRecords:List (List D)}(haRecords:aRecords.map cS=xaRecords)(hb:Bb aRecords≤1048576)(w0:wfI aRoom)(w1:wfI aVersion)(w2:wfI aStride)(w3:wfI aRoll):CallOk Tryz.prog 36 [.d (.sc (.int .i64 aRoom)),.d (.sc (.int .i64 aVersion)),.d (.sc (.int .i64 aStride)),.d (.sc (.int .i64 aRoll)),.d (.row 1 xaRecords)] [] ⟨.ref 0 0 (Fi aRoom aVersion aStride aRoll aRecords).length,[.row 1 false ((Fi aRoom aVersion aStride aRoll aRecords).map cS)],[]⟩:=by
 exact(XdV haRecords rfl rfl rfl).ok
theorem T36{aRoom aVersion aStride aRoll:Int}{aRecords:List ByteArray}{xaRecords:List (List D)}(haRecords:aRecords.map cS=xaRecords)(hb:Bb aRecords≤1048576)(w0:wfI aRoom)(w1:wfI aVersion)(w2:wfI aStride)(w3:wfI aRoll):CallOk Tryz.prog 36 [.d (.sc (.int .i64 aRoom)),.d (.sc (.int .i64 aVersion)),.d (.sc (.int .i64 aStride)),.d (.sc (.int .i64 aRoll)),.d (.row 1 xaRecords)] [] ⟨.d (.row 1 ((Fi aRoom aVersion aStride aRoll aRecords).map cS)),[],[]⟩:=
 (T36R haRecords hb w0 w1 w2 w3).rowD rfl (by rw[List.length_map])
noncomputable def c8:Code:=(Tryz.f8.body).getD .skip
theorem T8{aRoom:Int}{aVersion:Int}{aStride:Int}{aRoll:Int}{aRecords:List ByteArray}{xaRecords:List (List D)}(haRecords:aRecords.map cS=xaRecords)(wf_aRoom:wfI aRoom)(wf_aVersion:wfI aVersion)(wf_aStride:wfI aStride)(wf_aRoll:wfI aRoll)(ok_aRecords:Tx aRecords):CallOk Tryz.prog 8 [.d (.sc (.int .i64 aRoom)),.d (.sc (.int .i64 aVersion)),.d (.sc (.int .i64 aStride)),.d (.sc (.int .i64 aRoll)),.d (.row 1 xaRecords)] [] ⟨.d (.sc (.bool true)),[],[]⟩:=by
 have ent18_:=ent18
 have T18_:=@T18
 have ent21_:=ent21
 have T21_:=@T21
 have ent22_:=ent22
 have T22_:=@T22
 have ent23_:=ent23
 have T23_:=@T23
 have ent25_:=ent25
 have T25_:=@T25
 have ent35_:=ent35
 have T35_:=@T35
 have ent36_:=ent36
 have T36_:=@T36
 have T36_R:=@T36R
 have T25_R:=@T25R
 refine CallOk.of_bodyD (body:=c8) Tryz.func8 rfl (Nat.le_of_ble_eq_true (by kernel_rfl)) rfl ?_
 refine P9 J6 mixed ?_
 have hT:=J6
 have hm:=mixed
 generalize hP:Tryz.prog=P at*
 generalize hA:std=A
 obtain⟨qbin,qsh,qcmp,qscmp,qbcmp,qbnot,qneg,qwrap,qcat,qssize,qssub,qsget,qlen,qrsub,qapp,qelt,qset,qnth,qdrp,qstr,qint,qbool,qrow,qnat,qnadd,qnsub,qband,qofNat,qstrRow,qmkRow,qmx,qmn,qbytes,qemp⟩:=A
 have hE:=Ar.eqs hA
 dsimp only at hE
 generalize hQ:EndD P Tryz.f8.results _=Q
 have hself:(∀v:Int,qcmp .neq v v=false)∧(∀v:ByteArray,qscmp .neq v v=false)∧(∀v:Bool,qbnot (qbcmp v v)=false)∧qbnot true=false:=by
  refine⟨fun v=>?_,fun v=>?_,fun v=>?_,?_⟩<;>simp only[hE,C4,W0,Cf,C6]<;>simp
 obtain⟨hself1,hself2,hself3,hself4⟩:=hself
 have hn_aRecords:=XjH haRecords
 obtain⟨n_aRecords,hn'_aRecords⟩:∃n,n=aRecords.length:=⟨_,rfl⟩
 have hl_aRecords:n_aRecords=xaRecords.length:=by omega
 have bl_aRecords:=Nz aRecords
 cbv
 try simp only[nc]at*
 refine ClW.dd (f:=23) rfl rfl rfl rfl (.cons rfl (.cons rfl .nil)) rfl ent23_ (T23_ haRecords (by omega) (by omega) ok_aRecords) rfl ?_
 generalize aa:XeN (Bb aRecords) 1048576=left0
 cbv
 try simp only[nc]at*
 split
 ·cbv
  try simp only[nc]at*
  rw[←hQ]
  exact Iv rfl rfl
 rename_i c1
 simp only[hE,List.length_map,De,Di,Dh,Df,Da,C4,C3,C7,Cn,Co,B6,C6,Cr,Cf,C9,B4,Cs,Cq,Dg,IntKind.wrap_i64,decide_eq_true_eq,decide_eq_false_iff_not,Bool.not_eq_true',Bool.not_eq_false',Option.getD_none,Option.getD_some]at c1
 obtain⟨g0,g0'⟩:=XiF (t:=Bb aRecords) (left:=1048576) (by omega)
 have nn0:=Xp aRecords
 have bd_aRecords:Bb aRecords≤1048576:=by omega
 cbv
 try simp only[nc]at*
 refine ClW.dd (f:=25) rfl rfl rfl rfl (.cons rfl .nil) rfl ent25_ (T25_ haRecords bd_aRecords) rfl ?_
 cbv
 try simp only[nc]at*
 obtain⟨rr,hrr⟩:∃rr,rr=Fi aRoom aVersion aStride aRoll aRecords:=⟨_,rfl⟩
 have bd_rr:Bb rr≤549755813888:=by rw[hrr];exact Xhb bd_aRecords wf_aRoom wf_aVersion wf_aStride wf_aRoll
 have bl_rr:=Nz rr
 refine ClW.dd (f:=35) rfl rfl rfl rfl (.cons rfl (.cons rfl (.cons rfl (.cons rfl (.cons rfl .nil))))) rfl ent35_ (T35_ haRecords bd_aRecords wf_aRoom wf_aVersion wf_aStride wf_aRoll) rfl ?_
 rw[←hrr]
 generalize hys:rr.map cS=ys
 obtain⟨nr,hnr⟩:∃n,n=rr.length:=⟨_,rfl⟩
 have hlr:nr=ys.length:=by rw[hnr,←hys,List.length_map]
 cbv
 try simp only[nc]at*
 refine ClW.lntR (f:=25) rfl rfl rfl rfl (.cons rfl .nil) (.d rfl .nil) ent25_ (T25_R haRecords bd_aRecords) (by rw[←haRecords];exact Ld (fun _=>rfl) _) ?_
 rw[←hn'_aRecords]
 cbv
 try simp only[nc]at*
 have hfl:([Root.row 1 false ((Fi aRoom aVersion aStride aRoll aRecords).map cS)]).all Root.flat=true:=Ld (fun _=>rfl) _
 refine ClW.lntR (f:=36) rfl rfl rfl rfl (.cons rfl (.cons rfl (.cons rfl (.cons rfl (.cons rfl .nil))))) (.d rfl (.d rfl (.d rfl (.d rfl (.ref rfl hl_aRecords .nil))))) ent36_ (T36_R haRecords bd_aRecords wf_aRoom wf_aVersion wf_aStride wf_aRoll) hfl ?_
 rw[←hrr,←hnr,hys]
 cbv
 try simp only[nc]at*
 refine ClW.lnt (f:=18) rfl rfl rfl rfl (.cons rfl (.cons rfl .nil)) (.ref rfl hlr (.d rfl .nil)) ent18_ (T18_ hys (by omega)) rfl rfl ?_
 cbv
 try simp only[nc]at*
 rw[hself4]
 cbv
 try simp only[nc]at*
 refine ClW.dd (f:=25) rfl rfl rfl rfl (.cons rfl .nil) rfl ent25_ (T25_ haRecords bd_aRecords) rfl ?_
 cbv
 try simp only[nc]at*
 refine ClW.lnt (f:=18) rfl rfl rfl rfl (.cons rfl (.cons rfl .nil)) (.ref rfl hl_aRecords (.d rfl .nil)) ent18_ (T18_ haRecords (by omega)) rfl rfl ?_
 cbv
 try simp only[nc]at*
 rw[hself4]
 cbv
 try simp only[nc]at*
 refine ClW.mut1 (f:=21) rfl rfl rfl rfl (.cons rfl (.cons rfl .nil)) rfl ent21_ (T21_ haRecords hn'_aRecords (by omega) 1 (by omega) (by omega)) rfl ?_
 generalize hkk15:(1:Int)+1*(n_aRecords:Int)=kk15
 generalize hmk15:(Eu 1 n_aRecords).map cS=ms15
 cbv
 try simp only[nc]at*
 rw[show qcmp .lss kk15 0=false by simp only[hE,List.length_map,De,Di,Dh,Df,Da,C4,C3,C7,Cn,Co,B6,C6,Cr,Cf,C9,B4,Cs,Cq,Dg,IntKind.wrap_i64,decide_eq_true_eq,decide_eq_false_iff_not,Bool.not_eq_true',Bool.not_eq_false',Option.getD_none,Option.getD_some,];omega]
 cbv
 try simp only[nc]at*
 refine ClW.lnt (f:=18) rfl rfl rfl rfl (.cons rfl (.cons rfl .nil)) (.ref rfl hlr (.d rfl .nil)) ent18_ (T18_ hys (by omega)) rfl rfl ?_
 cbv
 try simp only[nc]at*
 rw[hself4]
 cbv
 try simp only[nc]at*
 refine ClW.mut1 (f:=21) rfl rfl rfl rfl (.cons rfl (.cons rfl .nil)) rfl ent21_ (T21_ hys hnr (by omega) 1 (by omega) (by omega)) rfl ?_
 generalize hkk20:(1:Int)+1*(nr:Int)=kk20
 generalize hmk20:(Eu 1 nr).map cS=ms20
 have hms20:nr=ms20.length:=by rw[←hmk20,List.length_map,Gt]
 cbv
 try simp only[nc]at*
 refine ClW.lnt (f:=22) rfl rfl rfl rfl (.cons rfl (.cons rfl .nil)) (.ref rfl hms20 (.d rfl .nil)) ent22_ (T22_ (n:=nr) (k:=1) hmk20 (by omega) (by omega) (by omega)) rfl rfl ?_
 rw[show(1:Int)+1*(nr:Int)=kk20 by omega]
 cbv
 try simp only[nc]at*
 rw[show qcmp .lss kk20 0=false by simp only[hE,List.length_map,De,Di,Dh,Df,Da,C4,C3,C7,Cn,Co,B6,C6,Cr,Cf,C9,B4,Cs,Cq,Dg,IntKind.wrap_i64,decide_eq_true_eq,decide_eq_false_iff_not,Bool.not_eq_true',Bool.not_eq_false',Option.getD_none,Option.getD_some,];omega]
 cbv
 try simp only[nc]at*
 rw[hself1]
 cbv
 try simp only[nc]at*
 refine ClW.dd (f:=25) rfl rfl rfl rfl (.cons rfl .nil) rfl ent25_ (T25_ haRecords bd_aRecords) rfl ?_
 cbv
 try simp only[nc]at*
 refine ClW.lntR (f:=36) rfl rfl rfl rfl (.cons rfl (.cons rfl (.cons rfl (.cons rfl (.cons rfl .nil))))) (.d rfl (.d rfl (.d rfl (.d rfl (.d rfl .nil))))) ent36_ (T36_R haRecords bd_aRecords wf_aRoom wf_aVersion wf_aStride wf_aRoll) hfl ?_
 rw[←hrr,←hnr,hys]
 cbv
 try simp only[nc]at*
 refine ClW.lnt (f:=18) rfl rfl rfl rfl (.cons rfl (.cons rfl .nil)) (.ref rfl hlr (.d rfl .nil)) ent18_ (T18_ hys (by omega)) rfl rfl ?_
 cbv
 try simp only[nc]at*
 rw[hself4]
 cbv
 try simp only[nc]at*
 refine ClW.lnt (f:=22) rfl rfl rfl rfl (.cons rfl (.cons rfl .nil)) (.ref rfl hms20 (.d rfl .nil)) ent22_ (T22_ (n:=nr) (k:=1) hmk20 (by omega) (by omega) (by omega)) rfl rfl ?_
 rw[show(1:Int)+1*(nr:Int)=kk20 by omega]
 cbv
 try simp only[nc]at*
 rw[show qcmp .lss kk20 0=false by simp only[hE,List.length_map,De,Di,Dh,Df,Da,C4,C3,C7,Cn,Co,B6,C6,Cr,Cf,C9,B4,Cs,Cq,Dg,IntKind.wrap_i64,decide_eq_true_eq,decide_eq_false_iff_not,Bool.not_eq_true',Bool.not_eq_false',Option.getD_none,Option.getD_some,];omega]
 cbv
 try simp only[nc]at*
 rw[hself1]
 cbv
 try simp only[nc]at*
 rw[←hQ]
 exact Iv rfl rfl
end
end Go.Proofs.YtgdmjbcllgmepaaGreatDoor.Ab
