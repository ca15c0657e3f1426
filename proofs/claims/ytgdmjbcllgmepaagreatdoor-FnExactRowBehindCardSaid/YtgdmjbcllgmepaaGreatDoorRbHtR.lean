/- What functions of the program come to, for all arguments in the given bounds. -/
import Derived.Test.YtgdmjbcllgmepaaGreatDoorRbHsz
set_option linter.unusedVariables false
set_option linter.unusedSimpArgs false
namespace Go.Proofs.YtgdmjbcllgmepaaGreatDoor.Ab
section
open Go Go.Proofs
set_option maxRecDepth 20000
theorem T39R{a_nodes:List Bk}{xa_nodes:List (List D)}(ha_nodes:a_nodes.map Bg=xa_nodes){a_entries:List Ad}{xa_entries:List (List D)}(ha_entries:a_entries.map Ac=xa_entries){a_old:List Ad}{xa_old:List (List D)}(ha_old:a_old.map Ac=xa_old){a_steps:List ByteArray}{xa_steps:List (List D)}(ha_steps:a_steps.map cS=xa_steps){a_room:Int}{a_next:Int}{na_nodes:Nat}(hna_nodes:na_nodes=a_nodes.length){na_entries:Nat}(hna_entries:na_entries=a_entries.length){na_old:Nat}(hna_old:na_old=a_old.length){na_steps:Nat}(hna_steps:na_steps=a_steps.length)(hb:Fy ⟨a_nodes,a_entries,a_old,a_steps,a_room,a_next⟩≤1048576):CallOk Tryz.prog 39 [.agg [.d (.row 3 xa_nodes),.d (.row 2 xa_entries),.d (.row 2 xa_old),.d (.row 1 xa_steps),.d (.sc (.int .i64 a_room)),.d (.sc (.int .i64 a_next))]] [] ⟨.agg [.ref 0 0 na_nodes,.ref 1 0 na_entries,.ref 2 0 na_old,.ref 3 0 na_steps,.d (.sc (.int .i64 a_room)),.d (.sc (.int .i64 a_next))],[.row 3 false xa_nodes,.row 2 false xa_entries,.row 2 false xa_old,.row 1 false xa_steps],[]⟩:=by
 have ent25_:=XlJ
 have T25_:=@T25
 have ent104_:=Xkh
 have T104_:=@T104
 have ent105_:=XkB
 have T105_:=@T105
 have T104_R:=@Xl3
 have T105_R:=@XkE
 have T105_R:=@XkE
 have T25_R:=@T25R
 have nna_nodes:=Gn a_nodes
 have nna_entries:=Dd a_entries
 have nna_old:=Dd a_old
 have nna_steps:=Fd a_steps
 have hb':Dr a_nodes+Cb a_entries+Cb a_old+Cw a_steps≤1048576:=hb
 refine CallOk.of_body (body:=c39) Tryz.func39 rfl (Nat.le_of_ble_eq_true (by kernel_rfl)) rfl rfl ?_
 refine Fg Cx mixed ?_
 have hT:=Cx
 have hm:=mixed
 generalize hP:Tryz.prog=P at*
 generalize hA:std=A
 obtain⟨qbin,qsh,qcmp,qscmp,qbcmp,qbnot,qneg,qwrap,qcat,qssize,qssub,qsget,qlen,qrsub,qapp,qelt,qset,qnth,qdrp,qstr,qint,qbool,qrow,qnat,qnadd,qnsub,qband,qofNat,qstrRow,qmkRow,qmx,qmn,qbytes,qemp⟩:=A
 have hE:=Ar.eqs hA
 dsimp only at hE
 generalize hQ:EndQ P Tryz.f39.results [] _=Q
 cbv
 try simp only[nc]at*
 refine ClW.lntR (f:=104) rfl rfl rfl rfl (.cons rfl .nil) (.d rfl .nil) ent104_ (T104_R ha_nodes (by omega)) (by rw[←ha_nodes];exact Hk (fun _=>rfl) _) ?_
 rw[←hna_nodes]
 cbv
 try simp only[nc]at*
 refine ClW.lntR (f:=105) rfl rfl rfl rfl (.cons rfl .nil) (.d rfl .nil) ent105_ (T105_R ha_entries (by omega)) (by rw[←ha_entries];exact Hk (fun _=>rfl) _) ?_
 rw[←hna_entries]
 cbv
 try simp only[nc]at*
 refine ClW.lntR (f:=105) rfl rfl rfl rfl (.cons rfl .nil) (.d rfl .nil) ent105_ (T105_R ha_old (by omega)) (by rw[←ha_old];exact Hk (fun _=>rfl) _) ?_
 rw[←hna_old]
 cbv
 try simp only[nc]at*
 refine ClW.lntR (f:=25) rfl rfl rfl rfl (.cons rfl .nil) (.d rfl .nil) ent25_ (T25_R ha_steps (by omega)) (by rw[←ha_steps];exact Hk (fun _=>rfl) _) ?_
 rw[←hna_steps]
 cbv
 try simp only[nc]at*
 rw[←hQ]
 refine⟨[11,12,13,14],[.agg [.ref 11 0 na_nodes,.ref 12 0 na_entries,.ref 13 0 na_old,.ref 14 0 na_steps,.d (.sc (.int .i64 a_room)),.d (.sc (.int .i64 a_next))]],?_,rfl,by simp,by simp,rfl,?_,by simp,by simp⟩
 ·show Ic P _ [ResultVar.cell 2 40]=_
  simp only[Ic,Nx]
  rw[show Xd P 40=some true from(congrArg TyRow.agg (hT 40 _ (show Di tab 40=some _ from rfl))).symm,show szT P 40=some 6 from(congrArg TyRow.sz (hT 40 _ (show Di tab 40=some _ from rfl))).symm]
  rfl
 ·intro k i R hk hR
  rcases k with _|k
  ·simp at hk hR
   subst hk hR
   exact⟨_,rfl,rfl⟩
  rcases k with _|k
  ·simp at hk hR
   subst hk hR
   exact⟨_,rfl,rfl⟩
  rcases k with _|k
  ·simp at hk hR
   subst hk hR
   exact⟨_,rfl,rfl⟩
  rcases k with _|k
  ·simp at hk hR
   subst hk hR
   exact⟨_,rfl,rfl⟩
  simp at hk
end
section
open Go Go.Proofs
set_option maxRecDepth 20000
theorem XjA{n:Int}(h0:0≤n)(h1:n<256):IntKind.u8.wrap n=n:=by
 show(let m:=n%(2^8:Int);if false&&decide (m≥(2^7:Int))then m - (2^8:Int)else m)=n
 simp
 omega
theorem XkM{k:IntKind}{a b:Int}(h0:0≤a)(h1:0<b):std.bin .rem k a b=a% b:=by
 show XeK (if b=0 then none else some (.int k (a.tmod b)))=_
 rw[if_neg (by omega)]
 exact Int.tmod_eq_emod_of_nonneg h0
theorem XkR{k:IntKind}{a b:Int}(h0:0≤a)(h1:0<b):std.bin .quo k a b=k.wrap (a/b):=by
 show XeK (if b=0 then none else some (.int k (k.wrap (a.tdiv b))))=_
 rw[if_neg (by omega),Int.tdiv_eq_ediv_of_nonneg h0]
 rfl
def mkL(k:Nat)(out:List UInt8):List UInt8:=if h:k=0 then out else mkL (k/10) (UInt8.ofNat (48+k% 10)::out)
termination_by k
decreasing_by omega
def Rb(k:Int):ByteArray:=if k≤0 then tx [109,48]else tx (109::mkL k.toNat [])
theorem Xj7(out:List UInt8):mkL 0 out=out:=by rw[mkL];rfl
theorem Xj4{k:Nat}(h:k≠0)(out:List UInt8):mkL (k/10) (UInt8.ofNat (48+k% 10)::out)=mkL k out:=by
 conv=>rhs;rw[mkL,dif_neg h]
noncomputable def c73:Code:=(Tryz.f73.body).getD .skip
theorem XkU:Cp Tryz.prog 73:=⟨_,Tryz.func73,rfl,rfl⟩
theorem T73(k:Int)(hk:k<2^60):CallOk Tryz.prog 73 [.d (.sc (.int .i64 k))] [] ⟨.d (.sc (.string (Rb k))),[],[]⟩:=by
 refine CallOk.of_bodyD (body:=c73) Tryz.func73 rfl (Nat.le_of_ble_eq_true (by kernel_rfl)) rfl ?_
 refine Fg Cx mixed ?_
 have hT:=Cx
 have hm:=mixed
 generalize hP:Tryz.prog=P at*
 generalize hA:std=A
 obtain⟨qbin,qsh,qcmp,qscmp,qbcmp,qbnot,qneg,qwrap,qcat,qssize,qssub,qsget,qlen,qrsub,qapp,qelt,qset,qnth,qdrp,qstr,qint,qbool,qrow,qnat,qnadd,qnsub,qband,qofNat,qstrRow,qmkRow,qmx,qmn,qbytes,qemp⟩:=A
 have hE:=Ar.eqs hA
 dsimp only at hE
 generalize hQ:EndD P Tryz.f73.results _=Q
 cbv
 try simp only[nc]at*
 split
 ·rename_i h
  simp only[hE,List.length_map,A7,A8,Bb,A9,A6,Az,A1,A5,Au,Ay,Ak,A0,Ax,Aq,A4,Al,Aw,Av,Ba,IntKind.wrap_i64,decide_eq_true_eq,decide_eq_false_iff_not,Bool.not_eq_true',Bool.not_eq_false',Option.getD_none,Option.getD_some]at h
  cbv
  try simp only[nc]at*
  rw[←hQ,show Rb k=tx [109,48]from if_pos h]
  exact C9 rfl rfl
 rename_i h
 simp only[hE,List.length_map,A7,A8,Bb,A9,A6,Az,A1,A5,Au,Ay,Ak,A0,Ax,Aq,A4,Al,Aw,Av,Ba,IntKind.wrap_i64,decide_eq_true_eq,decide_eq_false_iff_not,Bool.not_eq_true',Bool.not_eq_false',Option.getD_none,Option.getD_some]at h
 cbv
 try simp only[nc]at*
 refine LpW.ofN (κ:=Nat×List UInt8) (fun p=>mkL p.1 p.2=mkL k.toNat []∧p.1+p.2.length≤k.toNat) (fun p=>p.1) (fun p=>[(0,.d (.sc (.int .i64 (p.1:Nat)))),(3,.d (.sc (.string (tx p.2))))]) (fun _=>[]) (k.toNat,[]) 0 ⟨rfl,by simp⟩ ?_ (by first|rfl|trivial) (fun _ _=>⟨rfl,rfl,rfl⟩) ?_
 ·refine .cons ?_ (.cons rfl (.nil _))
  show AV.d (D.sc (Value.int IntKind.i64 k))= .d (.sc (.int .i64 ((k.toNat:Nat):Int)))
  rw[Int.toNat_of_nonneg (by omega)]
 ·rintro⟨n,out⟩ ⟨hn,hl⟩
  dsimp only at hn hl
  dsimp only
  generalize hs:tx out=s
  generalize hi:(n:Int)=i
  refine Fg hT hm ?_
  rw[hA]
  cbv
  try simp only[nc]at*
  split
  ·rename_i h2
   simp only[hE,List.length_map,A7,A8,Bb,A9,A6,Az,A1,A5,Au,Ay,Ak,A0,Ax,Aq,A4,Al,Aw,Av,Ba,IntKind.wrap_i64,decide_eq_true_eq,decide_eq_false_iff_not,Bool.not_eq_true',Bool.not_eq_false',Option.getD_none,Option.getD_some]at h2
   cbv
   try simp only[nc]at*
   have hv:qwrap .u8 (qbin .add .i64 48 (qbin .rem .i64 i 10))=((UInt8.ofNat (48+n% 10)).toNat:Int):=by
    simp only[hE,XkM (show 0≤i by omega) (show(0:Int)<10 by omega),A5,XhQ]
    rw[N3 (by omega),XjA (by omega) (by omega),UInt8.toNat_ofNat']
    omega
   rw[hv]
   have hr:qrsub [[D.sc (Value.int IntKind.u8 ((UInt8.ofNat (48+n% 10)).toNat:Int))]] (qofNat 0) (qofNat (qnadd 0 1))=[UInt8.ofNat (48+n% 10)].map cB:=by simp only[hE];rfl
   rw[hr]
   have hb:qbytes ([UInt8.ofNat (48+n% 10)].map cB)=tx [UInt8.ofNat (48+n% 10)]:=by simp only[hE];exact Wf _
   have hss:s.size=out.length:=by rw[←hs,Bz]
   refine⟨⟨by omega⟩,⟨by simp⟩,Xjh _,?_,⟨by omega⟩,(n/10,UInt8.ofNat (48+n% 10)::out),⟨?_,?_⟩,?_,?_,by first|rfl|trivial⟩
   ·rw[hb]
    refine⟨?_⟩
    rw[Bz]
    show(((1+s.size:Nat)):Int)≤2^63 - 1
    omega
   ·rw[←hn]
    exact Xj4 (by omega) out
   ·simp only[List.length_cons]
    omega
   ·show n/10<n
    omega
   ·refine .cons ?_ (.cons ?_ (.nil _))
    ·show AV.d (D.sc (Value.int IntKind.i64 (qbin .quo .i64 i 10)))=_
     simp only[hE,XkR (show 0≤i by omega) (show(0:Int)<10 by omega)]
     rw[N3 (by omega),show i/10=((n/10:Nat):Int)by omega]
    ·show AV.d (D.sc (Value.string (qcat (qbytes ([UInt8.ofNat (48+n% 10)].map cB)) s)))=_
     rw[hb,←hs]
     simp only[hE,XfG]
     rfl
  ·rename_i h2
   simp only[hE,List.length_map,A7,A8,Bb,A9,A6,Az,A1,A5,Au,Ay,Ak,A0,Ax,Aq,A4,Al,Aw,Av,Ba,IntKind.wrap_i64,decide_eq_true_eq,decide_eq_false_iff_not,Bool.not_eq_true',Bool.not_eq_false',Option.getD_none,Option.getD_some]at h2
   cbv
   try simp only[nc]at*
   have aa:n=0:=by omega
   subst aa
   rw[Xj7]at hn
   have hss:s.size=out.length:=by rw[←hs,Bz]
   refine⟨⟨?_⟩,?_⟩
   ·show(((1+s.size:Nat)):Int)≤2^63 - 1
    omega
   rw[←hQ]
   refine Oo rfl (Xms ?_)
   rw[←hs,show Rb k=tx (109::mkL k.toNat [])from if_neg h,←hn]
   simp only[hE]
   exact XfG (a:=[109]) (b:=out)
def O9(k:Int)(j:Nat):Bk:=(⟨k+3*(j:Int)+0,Rb (k+3*(j:Int)+1),k+3*(j:Int)+2⟩:Bk)
def O5(k:Int)(n:Nat):List Bk:=(List.range n).map (O9 k)
noncomputable def c116:Code:=(Tryz.f116.body).getD .skip
theorem XmC:Cp Tryz.prog 116:=⟨_,Tryz.func116,rfl,rfl⟩
theorem T116{a:List Bk}{xs:List (List D)}(hx:a.map Bg=xs){na:Nat}(hna:na=a.length)(ha:na<2^40)(k:Int)(h0:0≤k)(h1:k<2^50):
  CallOk Tryz.prog 116 [.ref 0 0 na,.d (.sc (.int .i64 k))] [.row 3 false xs] ⟨.d (.sc (.int .i64 (k+3*(na:Int)))),[],[(0,.row 3 false ((O5 k na).map Bg))]⟩:=by
 subst hna
 have e1:=XkU
 have t1:=@T73
 refine CallOk.of_body (body:=c116) Tryz.func116 rfl (Nat.le_of_ble_eq_true (by kernel_rfl)) rfl rfl ?_
 refine Fg Cx mixed ?_
 have hT:=Cx
 have hm:=mixed
 generalize hP:Tryz.prog=P at*
 generalize hA:std=A
 obtain⟨qbin,qsh,qcmp,qscmp,qbcmp,qbnot,qneg,qwrap,qcat,qssize,qssub,qsget,qlen,qrsub,qapp,qelt,qset,qnth,qdrp,qstr,qint,qbool,qrow,qnat,qnadd,qnsub,qband,qofNat,qstrRow,qmkRow,qmx,qmn,qbytes,qemp⟩:=A
 have hE:=Ar.eqs hA
 dsimp only at hE
 generalize hQ:EndQ P Tryz.f116.results _ _=Q
 generalize hm':a.length=m
 cbv
 try simp only[nc]at*
 refine LpW.of (κ:=Nat) (fun j=>j≤a.length) (fun j=>a.length - j) (fun j=>[(0,.ref 0 0 m),(1,.d (.sc (.int .i64 (k+3*(j:Int))))),(5,.d (.sc (.int .i64 j)))]) (fun j=>[.row 3 false ((mkd (O9 k) a j).map Bg)]) 0 (by omega) ?_ ?_ ?_
 ·refine .cons rfl (.cons ?_ (.cons rfl (.nil _)))
  show AV.d (.sc (.int .i64 k))= .d (.sc (.int .i64 (k+3*((0:Nat):Int))))
  rw[show k+3*((0:Nat):Int)=k by omega]
 ·show[Root.row 3 false xs]=[Root.row 3 false ((mkd (O9 k) a 0).map Bg)]
  rw[←hx,Uk]
 ·intro j hj
  obtain⟨l0,aa⟩:∃l,l=mkd (O9 k) a j:=⟨_,rfl⟩
  rw[←aa]
  have hll:l0.length=a.length:=by rw[aa];exact Pe hj
  generalize ab:l0.map Bg=ah
  generalize hi:(j:Int)=i
  generalize aw:k+3*i=kc0
  refine Fg hT hm ?_
  rw[hA]
  cbv
  try simp only[nc]at*
  split
  ·rename_i h2
   simp only[hE,List.length_map,A7,A8,Bb,A9,A6,Az,A1,A5,Au,Ay,Ak,A0,Ax,Aq,A4,Al,Aw,Av,Ba,IntKind.wrap_i64,decide_eq_true_eq,decide_eq_false_iff_not,Bool.not_eq_true',Bool.not_eq_false',Option.getD_none,Option.getD_some]at h2
   have hj':j<a.length:=by omega
   have hjl0:j<l0.length:=by omega
   obtain⟨w0,ax⟩:∃w,w=l0[j]:=⟨_,rfl⟩
   cbv
   try simp only[nc]at*
   obtain⟨w1,ai⟩:∃w,w={w0 with id_:=kc0}:=⟨_,rfl⟩
   have aj:qset ah (qnadd 0 (qnat i)) 0 [D.sc (Value.int IntKind.i64 kc0)]=(l0.set j w1).map Bg:=by
    simp only[hE]
    exact Wq ab hi hjl0 (by rw[←ax,ai];rfl)
   obtain⟨l1,ac⟩:∃l,l=l0.set j w1:=⟨_,rfl⟩
   rw[←ac]at aj
   have hjl1:j<l1.length:=by rw[ac,List.length_set];exact hjl0
   have ak:w1=l1[j]:=by simp[ac]
   have al:qbin .add .i64 kc0 1=kc0+1:=by simp only[hE,List.length_map,A7,A8,Bb,A9,A6,Az,A1,A5,Au,Ay,Ak,A0,Ax,Aq,A4,Al,Aw,Av,Ba,IntKind.wrap_i64,decide_eq_true_eq,decide_eq_false_iff_not,Bool.not_eq_true',Bool.not_eq_false',Option.getD_none,Option.getD_some,];omega
   generalize hkc1:kc0+1=kc1 at al
   rw[aj,al]
   generalize af:l1.map Bg=ay
   refine⟨by simp only[hE,List.length_map,A7,A8,Bb,A9,A6,Az,A1,A5,Au,Ay,Ak,A0,Ax,Aq,A4,Al,Aw,Av,Ba,IntKind.wrap_i64,decide_eq_true_eq,decide_eq_false_iff_not,Bool.not_eq_true',Bool.not_eq_false',Option.getD_none,Option.getD_some,];exact⟨by omega,by omega⟩,by simp only[hE];exact U2 ab hi hjl0,by simp only[hE];exact M6 ab hi hjl0 (Nat.le_of_ble_eq_true rfl),?_⟩
   refine ClW.dd (f:=73) rfl rfl rfl rfl (.cons rfl .nil) rfl e1 (t1 kc1 (by omega)) rfl ?_
   generalize ht1:Rb kc1=t1
   cbv
   try simp only[nc]at*
   obtain⟨w2,am⟩:∃w,w={w1 with text_:=t1}:=⟨_,rfl⟩
   have an:qset ay (qnadd 0 (qnat i)) 1 [D.sc (Value.string t1)]=(l1.set j w2).map Bg:=by
    simp only[hE]
    exact Wq af hi hjl1 (by rw[←ak,am];rfl)
   obtain⟨l2,ad⟩:∃l,l=l1.set j w2:=⟨_,rfl⟩
   rw[←ad]at an
   have hjl2:j<l2.length:=by rw[ad,List.length_set];exact hjl1
   have ao:w2=l2[j]:=by simp[ad]
   have ap:qbin .add .i64 kc1 1=kc1+1:=by simp only[hE,List.length_map,A7,A8,Bb,A9,A6,Az,A1,A5,Au,Ay,Ak,A0,Ax,Aq,A4,Al,Aw,Av,Ba,IntKind.wrap_i64,decide_eq_true_eq,decide_eq_false_iff_not,Bool.not_eq_true',Bool.not_eq_false',Option.getD_none,Option.getD_some,];omega
   generalize hkc2:kc1+1=kc2 at ap
   rw[an,ap]
   generalize ag:l2.map Bg=az
   refine⟨by simp only[hE,List.length_map,A7,A8,Bb,A9,A6,Az,A1,A5,Au,Ay,Ak,A0,Ax,Aq,A4,Al,Aw,Av,Ba,IntKind.wrap_i64,decide_eq_true_eq,decide_eq_false_iff_not,Bool.not_eq_true',Bool.not_eq_false',Option.getD_none,Option.getD_some,];exact⟨by omega,by omega⟩,by simp only[hE];exact U2 af hi hjl1,by simp only[hE];exact M6 af hi hjl1 (Nat.le_of_ble_eq_true rfl),?_⟩
   obtain⟨w3,aq⟩:∃w,w={w2 with sure_:=kc2}:=⟨_,rfl⟩
   have ar:qset az (qnadd 0 (qnat i)) 2 [D.sc (Value.int IntKind.i64 kc2)]=(l2.set j w3).map Bg:=by
    simp only[hE]
    exact Wq ag hi hjl2 (by rw[←ao,aq];rfl)
   obtain⟨l3,ae⟩:∃l,l=l2.set j w3:=⟨_,rfl⟩
   rw[←ae]at ar
   have hjl3:j<l3.length:=by rw[ae,List.length_set];exact hjl2
   have a6:w3=l3[j]:=by simp[ae]
   have au:qbin .add .i64 kc2 1=kc2+1:=by simp only[hE,List.length_map,A7,A8,Bb,A9,A6,Az,A1,A5,Au,Ay,Ak,A0,Ax,Aq,A4,Al,Aw,Av,Ba,IntKind.wrap_i64,decide_eq_true_eq,decide_eq_false_iff_not,Bool.not_eq_true',Bool.not_eq_false',Option.getD_none,Option.getD_some,];omega
   generalize hkc3:kc2+1=kc3 at au
   rw[ar,au]
   generalize a1:l3.map Bg=a2
   refine⟨by simp only[hE,List.length_map,A7,A8,Bb,A9,A6,Az,A1,A5,Au,Ay,Ak,A0,Ax,Aq,A4,Al,Aw,Av,Ba,IntKind.wrap_i64,decide_eq_true_eq,decide_eq_false_iff_not,Bool.not_eq_true',Bool.not_eq_false',Option.getD_none,Option.getD_some,];exact⟨by omega,by omega⟩,by simp only[hE];exact U2 ag hi hjl2,by simp only[hE];exact M6 ag hi hjl2 (Nat.le_of_ble_eq_true rfl),?_⟩
   have hfin:l3=mkd (O9 k) a (j+1):=by
    rw[←Y4 hj',←aa,ae,ad,ac]
    try simp only[List.set_set]
    congr 1
    rw[aq,am,ai]
    simp only[O9,hi]
    rw[←ht1]
    rw[show kc2=k+3*i+2 by omega];rw[show kc1=k+3*i+1 by omega];rw[show kc0=k+3*i+0 by omega]
   refine⟨j+1,by omega,by omega,?_,?_⟩
   ·refine .cons rfl (.cons ?_ (.cons ?_ (.nil _)))
    ·show AV.d (D.sc (Value.int IntKind.i64 kc3))= .d (.sc (.int .i64 (k+3*((j+1:Nat):Int))))
     rw[show k+3*((j+1:Nat):Int)=kc3 by omega]
    ·show AV.d (D.sc (Value.int IntKind.i64 (qbin .add .i64 i 1)))=_
     simp only[hE,Nl hi (by omega)]
   ·show[Root.row 3 false a2]=_
    rw[←hfin,a1]
  ·rename_i h2
   simp only[hE,List.length_map,A7,A8,Bb,A9,A6,Az,A1,A5,Au,Ay,Ak,A0,Ax,Aq,A4,Al,Aw,Av,Ba,IntKind.wrap_i64,decide_eq_true_eq,decide_eq_false_iff_not,Bool.not_eq_true',Bool.not_eq_false',Option.getD_none,Option.getD_some]at h2
   cbv
   try simp only[nc]at*
   have hj':j=a.length:=by omega
   subst hj'
   rw[Xan]at aa
   rw[←hQ,←hm']
   refine Ug rfl ?_ ?_
   ·rw[←aw,hi]
   ·show some (Root.row 3 false ah)=_
    rw[←ab,aa]
    rfl
def Md(k:Int)(j:Nat):Ad:=(⟨Rb (k+2*(j:Int)+0),k+2*(j:Int)+1⟩:Ad)
def Ho(k:Int)(n:Nat):List Ad:=(List.range n).map (Md k)
noncomputable def c117:Code:=(Tryz.f117.body).getD .skip
theorem Xml:Cp Tryz.prog 117:=⟨_,Tryz.func117,rfl,rfl⟩
theorem T117{a:List Ad}{xs:List (List D)}(hx:a.map Ac=xs){na:Nat}(hna:na=a.length)(ha:na<2^40)(k:Int)(h0:0≤k)(h1:k<2^50):
  CallOk Tryz.prog 117 [.ref 0 0 na,.d (.sc (.int .i64 k))] [.row 2 false xs] ⟨.d (.sc (.int .i64 (k+2*(na:Int)))),[],[(0,.row 2 false ((Ho k na).map Ac))]⟩:=by
 subst hna
 have e1:=XkU
 have t1:=@T73
 refine CallOk.of_body (body:=c117) Tryz.func117 rfl (Nat.le_of_ble_eq_true (by kernel_rfl)) rfl rfl ?_
 refine Fg Cx mixed ?_
 have hT:=Cx
 have hm:=mixed
 generalize hP:Tryz.prog=P at*
 generalize hA:std=A
 obtain⟨qbin,qsh,qcmp,qscmp,qbcmp,qbnot,qneg,qwrap,qcat,qssize,qssub,qsget,qlen,qrsub,qapp,qelt,qset,qnth,qdrp,qstr,qint,qbool,qrow,qnat,qnadd,qnsub,qband,qofNat,qstrRow,qmkRow,qmx,qmn,qbytes,qemp⟩:=A
 have hE:=Ar.eqs hA
 dsimp only at hE
 generalize hQ:EndQ P Tryz.f117.results _ _=Q
 generalize hm':a.length=m
 cbv
 try simp only[nc]at*
 refine LpW.of (κ:=Nat) (fun j=>j≤a.length) (fun j=>a.length - j) (fun j=>[(0,.ref 0 0 m),(1,.d (.sc (.int .i64 (k+2*(j:Int))))),(5,.d (.sc (.int .i64 j)))]) (fun j=>[.row 2 false ((mkd (Md k) a j).map Ac)]) 0 (by omega) ?_ ?_ ?_
 ·refine .cons rfl (.cons ?_ (.cons rfl (.nil _)))
  show AV.d (.sc (.int .i64 k))= .d (.sc (.int .i64 (k+2*((0:Nat):Int))))
  rw[show k+2*((0:Nat):Int)=k by omega]
 ·show[Root.row 2 false xs]=[Root.row 2 false ((mkd (Md k) a 0).map Ac)]
  rw[←hx,Uk]
 ·intro j hj
  obtain⟨l0,aa⟩:∃l,l=mkd (Md k) a j:=⟨_,rfl⟩
  rw[←aa]
  have hll:l0.length=a.length:=by rw[aa];exact Pe hj
  generalize ab:l0.map Ac=af
  generalize hi:(j:Int)=i
  generalize an:k+2*i=kc0
  refine Fg hT hm ?_
  rw[hA]
  cbv
  try simp only[nc]at*
  split
  ·rename_i h2
   simp only[hE,List.length_map,A7,A8,Bb,A9,A6,Az,A1,A5,Au,Ay,Ak,A0,Ax,Aq,A4,Al,Aw,Av,Ba,IntKind.wrap_i64,decide_eq_true_eq,decide_eq_false_iff_not,Bool.not_eq_true',Bool.not_eq_false',Option.getD_none,Option.getD_some]at h2
   have hj':j<a.length:=by omega
   have hjl0:j<l0.length:=by omega
   obtain⟨w0,ao⟩:∃w,w=l0[j]:=⟨_,rfl⟩
   cbv
   try simp only[nc]at*
   refine ClW.dd (f:=73) rfl rfl rfl rfl (.cons rfl .nil) rfl e1 (t1 kc0 (by omega)) rfl ?_
   generalize ht0:Rb kc0=t0
   cbv
   try simp only[nc]at*
   obtain⟨w1,ag⟩:∃w,w={w0 with name_:=t0}:=⟨_,rfl⟩
   have ah:qset af (qnadd 0 (qnat i)) 0 [D.sc (Value.string t0)]=(l0.set j w1).map Ac:=by
    simp only[hE]
    exact Wq ab hi hjl0 (by rw[←ao,ag];rfl)
   obtain⟨l1,ac⟩:∃l,l=l0.set j w1:=⟨_,rfl⟩
   rw[←ac]at ah
   have hjl1:j<l1.length:=by rw[ac,List.length_set];exact hjl0
   have ai:w1=l1[j]:=by simp[ac]
   have aj:qbin .add .i64 kc0 1=kc0+1:=by simp only[hE,List.length_map,A7,A8,Bb,A9,A6,Az,A1,A5,Au,Ay,Ak,A0,Ax,Aq,A4,Al,Aw,Av,Ba,IntKind.wrap_i64,decide_eq_true_eq,decide_eq_false_iff_not,Bool.not_eq_true',Bool.not_eq_false',Option.getD_none,Option.getD_some,];omega
   generalize hkc1:kc0+1=kc1 at aj
   rw[ah,aj]
   generalize ae:l1.map Ac=ap
   refine⟨by simp only[hE,List.length_map,A7,A8,Bb,A9,A6,Az,A1,A5,Au,Ay,Ak,A0,Ax,Aq,A4,Al,Aw,Av,Ba,IntKind.wrap_i64,decide_eq_true_eq,decide_eq_false_iff_not,Bool.not_eq_true',Bool.not_eq_false',Option.getD_none,Option.getD_some,];exact⟨by omega,by omega⟩,by simp only[hE];exact U2 ab hi hjl0,by simp only[hE];exact M6 ab hi hjl0 (Nat.le_of_ble_eq_true rfl),?_⟩
   obtain⟨w2,ak⟩:∃w,w={w1 with id_:=kc1}:=⟨_,rfl⟩
   have al:qset ap (qnadd 0 (qnat i)) 1 [D.sc (Value.int IntKind.i64 kc1)]=(l1.set j w2).map Ac:=by
    simp only[hE]
    exact Wq ae hi hjl1 (by rw[←ai,ak];rfl)
   obtain⟨l2,ad⟩:∃l,l=l1.set j w2:=⟨_,rfl⟩
   rw[←ad]at al
   have hjl2:j<l2.length:=by rw[ad,List.length_set];exact hjl1
   have au:w2=l2[j]:=by simp[ad]
   have am:qbin .add .i64 kc1 1=kc1+1:=by simp only[hE,List.length_map,A7,A8,Bb,A9,A6,Az,A1,A5,Au,Ay,Ak,A0,Ax,Aq,A4,Al,Aw,Av,Ba,IntKind.wrap_i64,decide_eq_true_eq,decide_eq_false_iff_not,Bool.not_eq_true',Bool.not_eq_false',Option.getD_none,Option.getD_some,];omega
   generalize hkc2:kc1+1=kc2 at am
   rw[al,am]
   generalize aq:l2.map Ac=ar
   refine⟨by simp only[hE,List.length_map,A7,A8,Bb,A9,A6,Az,A1,A5,Au,Ay,Ak,A0,Ax,Aq,A4,Al,Aw,Av,Ba,IntKind.wrap_i64,decide_eq_true_eq,decide_eq_false_iff_not,Bool.not_eq_true',Bool.not_eq_false',Option.getD_none,Option.getD_some,];exact⟨by omega,by omega⟩,by simp only[hE];exact U2 ae hi hjl1,by simp only[hE];exact M6 ae hi hjl1 (Nat.le_of_ble_eq_true rfl),?_⟩
   have hfin:l2=mkd (Md k) a (j+1):=by
    rw[←Y4 hj',←aa,ad,ac]
    try simp only[List.set_set]
    congr 1
    rw[ak,ag]
    simp only[Md,hi]
    rw[←ht0]
    rw[show kc1=k+2*i+1 by omega];rw[show kc0=k+2*i+0 by omega]
   refine⟨j+1,by omega,by omega,?_,?_⟩
   ·refine .cons rfl (.cons ?_ (.cons ?_ (.nil _)))
    ·show AV.d (D.sc (Value.int IntKind.i64 kc2))= .d (.sc (.int .i64 (k+2*((j+1:Nat):Int))))
     rw[show k+2*((j+1:Nat):Int)=kc2 by omega]
    ·show AV.d (D.sc (Value.int IntKind.i64 (qbin .add .i64 i 1)))=_
     simp only[hE,Nl hi (by omega)]
   ·show[Root.row 2 false ar]=_
    rw[←hfin,aq]
  ·rename_i h2
   simp only[hE,List.length_map,A7,A8,Bb,A9,A6,Az,A1,A5,Au,Ay,Ak,A0,Ax,Aq,A4,Al,Aw,Av,Ba,IntKind.wrap_i64,decide_eq_true_eq,decide_eq_false_iff_not,Bool.not_eq_true',Bool.not_eq_false',Option.getD_none,Option.getD_some]at h2
   cbv
   try simp only[nc]at*
   have hj':j=a.length:=by omega
   subst hj'
   rw[Xan]at aa
   rw[←hQ,←hm']
   refine Ug rfl ?_ ?_
   ·rw[←an,hi]
   ·show some (Root.row 2 false af)=_
    rw[←ab,aa]
    rfl
def J9(k:Int)(j:Nat):ByteArray:=Rb (k+1*(j:Int)+0)
def K4(k:Int)(n:Nat):List ByteArray:=(List.range n).map (J9 k)
noncomputable def c21:Code:=(Tryz.f21.body).getD .skip
theorem ent21:Cp Tryz.prog 21:=⟨_,Tryz.func21,rfl,rfl⟩
theorem T21{a:List ByteArray}{xs:List (List D)}(hx:a.map cS=xs){na:Nat}(hna:na=a.length)(ha:na<2^40)(k:Int)(h0:0≤k)(h1:k<2^50):
  CallOk Tryz.prog 21 [.ref 0 0 na,.d (.sc (.int .i64 k))] [.row 1 false xs] ⟨.d (.sc (.int .i64 (k+1*(na:Int)))),[],[(0,.row 1 false ((K4 k na).map cS))]⟩:=by
 subst hna
 have e1:=XkU
 have t1:=@T73
 refine CallOk.of_body (body:=c21) Tryz.func21 rfl (Nat.le_of_ble_eq_true (by kernel_rfl)) rfl rfl ?_
 refine Fg Cx mixed ?_
 have hT:=Cx
 have hm:=mixed
 generalize hP:Tryz.prog=P at*
 generalize hA:std=A
 obtain⟨qbin,qsh,qcmp,qscmp,qbcmp,qbnot,qneg,qwrap,qcat,qssize,qssub,qsget,qlen,qrsub,qapp,qelt,qset,qnth,qdrp,qstr,qint,qbool,qrow,qnat,qnadd,qnsub,qband,qofNat,qstrRow,qmkRow,qmx,qmn,qbytes,qemp⟩:=A
 have hE:=Ar.eqs hA
 dsimp only at hE
 generalize hQ:EndQ P Tryz.f21.results _ _=Q
 generalize hm':a.length=m
 cbv
 try simp only[nc]at*
 refine LpW.of (κ:=Nat) (fun j=>j≤a.length) (fun j=>a.length - j) (fun j=>[(0,.ref 0 0 m),(1,.d (.sc (.int .i64 (k+1*(j:Int))))),(5,.d (.sc (.int .i64 j)))]) (fun j=>[.row 1 false ((mkd (J9 k) a j).map cS)]) 0 (by omega) ?_ ?_ ?_
 ·refine .cons rfl (.cons ?_ (.cons rfl (.nil _)))
  show AV.d (.sc (.int .i64 k))= .d (.sc (.int .i64 (k+1*((0:Nat):Int))))
  rw[show k+1*((0:Nat):Int)=k by omega]
 ·show[Root.row 1 false xs]=[Root.row 1 false ((mkd (J9 k) a 0).map cS)]
  rw[←hx,Uk]
 ·intro j hj
  obtain⟨l0,aa⟩:∃l,l=mkd (J9 k) a j:=⟨_,rfl⟩
  rw[←aa]
  have hll:l0.length=a.length:=by rw[aa];exact Pe hj
  generalize ab:l0.map cS=ad
  generalize hi:(j:Int)=i
  generalize ah:k+1*i=kc0
  refine Fg hT hm ?_
  rw[hA]
  cbv
  try simp only[nc]at*
  split
  ·rename_i h2
   simp only[hE,List.length_map,A7,A8,Bb,A9,A6,Az,A1,A5,Au,Ay,Ak,A0,Ax,Aq,A4,Al,Aw,Av,Ba,IntKind.wrap_i64,decide_eq_true_eq,decide_eq_false_iff_not,Bool.not_eq_true',Bool.not_eq_false',Option.getD_none,Option.getD_some]at h2
   have hj':j<a.length:=by omega
   have hjl0:j<l0.length:=by omega
   obtain⟨w0,ai⟩:∃w,w=l0[j]:=⟨_,rfl⟩
   cbv
   try simp only[nc]at*
   refine ClW.dd (f:=73) rfl rfl rfl rfl (.cons rfl .nil) rfl e1 (t1 kc0 (by omega)) rfl ?_
   generalize ht0:Rb kc0=t0
   cbv
   try simp only[nc]at*
   obtain⟨w1,ae⟩:∃w,w=t0:=⟨_,rfl⟩
   have af:qset ad (qnadd 0 (qnat i)) 0 [D.sc (Value.string t0)]=(l0.set j w1).map cS:=by
    simp only[hE]
    exact Wq ab hi hjl0 (by rw[←ai,ae];rfl)
   obtain⟨l1,ac⟩:∃l,l=l0.set j w1:=⟨_,rfl⟩
   rw[←ac]at af
   have hjl1:j<l1.length:=by rw[ac,List.length_set];exact hjl0
   have al:w1=l1[j]:=by simp[ac]
   have ag:qbin .add .i64 kc0 1=kc0+1:=by simp only[hE,List.length_map,A7,A8,Bb,A9,A6,Az,A1,A5,Au,Ay,Ak,A0,Ax,Aq,A4,Al,Aw,Av,Ba,IntKind.wrap_i64,decide_eq_true_eq,decide_eq_false_iff_not,Bool.not_eq_true',Bool.not_eq_false',Option.getD_none,Option.getD_some,];omega
   generalize hkc1:kc0+1=kc1 at ag
   rw[af,ag]
   generalize aj:l1.map cS=ak
   refine⟨by simp only[hE,List.length_map,A7,A8,Bb,A9,A6,Az,A1,A5,Au,Ay,Ak,A0,Ax,Aq,A4,Al,Aw,Av,Ba,IntKind.wrap_i64,decide_eq_true_eq,decide_eq_false_iff_not,Bool.not_eq_true',Bool.not_eq_false',Option.getD_none,Option.getD_some,];exact⟨by omega,by omega⟩,by simp only[hE];exact U2 ab hi hjl0,by simp only[hE];exact M6 ab hi hjl0 (Nat.le_of_ble_eq_true rfl),?_⟩
   have hfin:l1=mkd (J9 k) a (j+1):=by
    rw[←Y4 hj',←aa,ac]
    try simp only[List.set_set]
    congr 1
    rw[ae]
    simp only[J9,hi]
    rw[←ht0]
    rw[show kc0=k+1*i+0 by omega]
   refine⟨j+1,by omega,by omega,?_,?_⟩
   ·refine .cons rfl (.cons ?_ (.cons ?_ (.nil _)))
    ·show AV.d (D.sc (Value.int IntKind.i64 kc1))= .d (.sc (.int .i64 (k+1*((j+1:Nat):Int))))
     rw[show k+1*((j+1:Nat):Int)=kc1 by omega]
    ·show AV.d (D.sc (Value.int IntKind.i64 (qbin .add .i64 i 1)))=_
     simp only[hE,Nl hi (by omega)]
   ·show[Root.row 1 false ak]=_
    rw[←hfin,aj]
  ·rename_i h2
   simp only[hE,List.length_map,A7,A8,Bb,A9,A6,Az,A1,A5,Au,Ay,Ak,A0,Ax,Aq,A4,Al,Aw,Av,Ba,IntKind.wrap_i64,decide_eq_true_eq,decide_eq_false_iff_not,Bool.not_eq_true',Bool.not_eq_false',Option.getD_none,Option.getD_some]at h2
   cbv
   try simp only[nc]at*
   have hj':j=a.length:=by omega
   subst hj'
   rw[Xan]at aa
   rw[←hQ,←hm']
   refine Ug rfl ?_ ?_
   ·rw[←ah,hi]
   ·show some (Root.row 1 false ad)=_
    rw[←ab,aa]
    rfl
def Ns(k:Int)(j:Nat):Int:=k+1*(j:Int)+0
def I8(k:Int)(n:Nat):List Int:=(List.range n).map (Ns k)
theorem Je{k:Int}{n:Nat}:(I8 k n).length=n:=by simp[I8]
noncomputable def c46:Code:=(Tryz.f46.body).getD .skip
theorem ent46:Cp Tryz.prog 46:=⟨_,Tryz.func46,rfl,rfl⟩
theorem T46{a:List Int}{xs:List (List D)}(hx:a.map cI=xs){na:Nat}(hna:na=a.length)(ha:na<2^40)(k:Int)(h0:0≤k)(h1:k<2^50):
  CallOk Tryz.prog 46 [.ref 0 0 na,.d (.sc (.int .i64 k))] [.row 1 false xs] ⟨.d (.sc (.int .i64 (k+1*(na:Int)))),[],[(0,.row 1 false ((I8 k na).map cI))]⟩:=by
 subst hna
 refine CallOk.of_body (body:=c46) Tryz.func46 rfl (Nat.le_of_ble_eq_true (by kernel_rfl)) rfl rfl ?_
 refine Fg Cx mixed ?_
 have hT:=Cx
 have hm:=mixed
 generalize hP:Tryz.prog=P at*
 generalize hA:std=A
 obtain⟨qbin,qsh,qcmp,qscmp,qbcmp,qbnot,qneg,qwrap,qcat,qssize,qssub,qsget,qlen,qrsub,qapp,qelt,qset,qnth,qdrp,qstr,qint,qbool,qrow,qnat,qnadd,qnsub,qband,qofNat,qstrRow,qmkRow,qmx,qmn,qbytes,qemp⟩:=A
 have hE:=Ar.eqs hA
 dsimp only at hE
 generalize hQ:EndQ P Tryz.f46.results _ _=Q
 generalize hm':a.length=m
 cbv
 try simp only[nc]at*
 refine LpW.of (κ:=Nat) (fun j=>j≤a.length) (fun j=>a.length - j) (fun j=>[(0,.ref 0 0 m),(1,.d (.sc (.int .i64 (k+1*(j:Int))))),(5,.d (.sc (.int .i64 j)))]) (fun j=>[.row 1 false ((mkd (Ns k) a j).map cI)]) 0 (by omega) ?_ ?_ ?_
 ·refine .cons rfl (.cons ?_ (.cons rfl (.nil _)))
  show AV.d (.sc (.int .i64 k))= .d (.sc (.int .i64 (k+1*((0:Nat):Int))))
  rw[show k+1*((0:Nat):Int)=k by omega]
 ·show[Root.row 1 false xs]=[Root.row 1 false ((mkd (Ns k) a 0).map cI)]
  rw[←hx,Uk]
 ·intro j hj
  obtain⟨l0,aa⟩:∃l,l=mkd (Ns k) a j:=⟨_,rfl⟩
  rw[←aa]
  have hll:l0.length=a.length:=by rw[aa];exact Pe hj
  generalize ab:l0.map cI=ad
  generalize hi:(j:Int)=i
  generalize ah:k+1*i=kc0
  refine Fg hT hm ?_
  rw[hA]
  cbv
  try simp only[nc]at*
  split
  ·rename_i h2
   simp only[hE,List.length_map,A7,A8,Bb,A9,A6,Az,A1,A5,Au,Ay,Ak,A0,Ax,Aq,A4,Al,Aw,Av,Ba,IntKind.wrap_i64,decide_eq_true_eq,decide_eq_false_iff_not,Bool.not_eq_true',Bool.not_eq_false',Option.getD_none,Option.getD_some]at h2
   have hj':j<a.length:=by omega
   have hjl0:j<l0.length:=by omega
   obtain⟨w0,ai⟩:∃w,w=l0[j]:=⟨_,rfl⟩
   cbv
   try simp only[nc]at*
   obtain⟨w1,ae⟩:∃w,w=kc0:=⟨_,rfl⟩
   have af:qset ad (qnadd 0 (qnat i)) 0 [D.sc (Value.int IntKind.i64 kc0)]=(l0.set j w1).map cI:=by
    simp only[hE]
    exact Wq ab hi hjl0 (by rw[←ai,ae];rfl)
   obtain⟨l1,ac⟩:∃l,l=l0.set j w1:=⟨_,rfl⟩
   rw[←ac]at af
   have hjl1:j<l1.length:=by rw[ac,List.length_set];exact hjl0
   have al:w1=l1[j]:=by simp[ac]
   have ag:qbin .add .i64 kc0 1=kc0+1:=by simp only[hE,List.length_map,A7,A8,Bb,A9,A6,Az,A1,A5,Au,Ay,Ak,A0,Ax,Aq,A4,Al,Aw,Av,Ba,IntKind.wrap_i64,decide_eq_true_eq,decide_eq_false_iff_not,Bool.not_eq_true',Bool.not_eq_false',Option.getD_none,Option.getD_some,];omega
   generalize hkc1:kc0+1=kc1 at ag
   rw[af,ag]
   generalize aj:l1.map cI=ak
   refine⟨by simp only[hE,List.length_map,A7,A8,Bb,A9,A6,Az,A1,A5,Au,Ay,Ak,A0,Ax,Aq,A4,Al,Aw,Av,Ba,IntKind.wrap_i64,decide_eq_true_eq,decide_eq_false_iff_not,Bool.not_eq_true',Bool.not_eq_false',Option.getD_none,Option.getD_some,];exact⟨by omega,by omega⟩,by simp only[hE];exact U2 ab hi hjl0,by simp only[hE];exact M6 ab hi hjl0 (Nat.le_of_ble_eq_true rfl),?_⟩
   have hfin:l1=mkd (Ns k) a (j+1):=by
    rw[←Y4 hj',←aa,ac]
    try simp only[List.set_set]
    congr 1
    rw[ae]
    simp only[Ns,hi]
    rw[show kc0=k+1*i+0 by omega]
   refine⟨j+1,by omega,by omega,?_,?_⟩
   ·refine .cons rfl (.cons ?_ (.cons ?_ (.nil _)))
    ·show AV.d (D.sc (Value.int IntKind.i64 kc1))= .d (.sc (.int .i64 (k+1*((j+1:Nat):Int))))
     rw[show k+1*((j+1:Nat):Int)=kc1 by omega]
    ·show AV.d (D.sc (Value.int IntKind.i64 (qbin .add .i64 i 1)))=_
     simp only[hE,Nl hi (by omega)]
   ·show[Root.row 1 false ak]=_
    rw[←hfin,aj]
  ·rename_i h2
   simp only[hE,List.length_map,A7,A8,Bb,A9,A6,Az,A1,A5,Au,Ay,Ak,A0,Ax,Aq,A4,Al,Aw,Av,Ba,IntKind.wrap_i64,decide_eq_true_eq,decide_eq_false_iff_not,Bool.not_eq_true',Bool.not_eq_false',Option.getD_none,Option.getD_some]at h2
   cbv
   try simp only[nc]at*
   have hj':j=a.length:=by omega
   subst hj'
   rw[Xan]at aa
   rw[←hQ,←hm']
   refine Ug rfl ?_ ?_
   ·rw[←ah,hi]
   ·show some (Root.row 1 false ad)=_
    rw[←ab,aa]
    rfl
end
section
open Go Go.Proofs
set_option maxRecDepth 20000
noncomputable def c47:Code:=(Tryz.f47.body).getD .skip
theorem ent47:Cp Tryz.prog 47:=⟨_,Tryz.func47,rfl,rfl⟩
theorem T47{n:Nat}{k:Int}{xs:List (List D)}(hx:(I8 k n).map cI=xs)(ha:n<2^40)(h0:0≤k)(h1:k<2^50):
  CallOk Tryz.prog 47 [.d (.row 1 xs),.d (.sc (.int .i64 k))] [] ⟨.d (.sc (.int .i64 (k+1*(n:Int)))),[],[]⟩:=by
 refine CallOk.of_bodyD (body:=c47) Tryz.func47 rfl (Nat.le_of_ble_eq_true (by kernel_rfl)) rfl ?_
 refine Fg Cx mixed ?_
 have hT:=Cx
 have hm:=mixed
 generalize hP:Tryz.prog=P at*
 generalize hA:std=A
 obtain⟨qbin,qsh,qcmp,qscmp,qbcmp,qbnot,qneg,qwrap,qcat,qssize,qssub,qsget,qlen,qrsub,qapp,qelt,qset,qnth,qdrp,qstr,qint,qbool,qrow,qnat,qnadd,qnsub,qband,qofNat,qstrRow,qmkRow,qmx,qmn,qbytes,qemp⟩:=A
 have hE:=Ar.eqs hA
 dsimp only at hE
 generalize hQ:EndD P Tryz.f47.results _=Q
 have hn:=XiT hx
 rw[Je]at hn
 have hself:(∀v:Int,qcmp .neq v v=false)∧(∀v:ByteArray,qscmp .neq v v=false):=by
  refine⟨fun v=>?_,fun v=>?_⟩<;>simp only[hE,Az,Jz]<;>simp
 obtain⟨hself1,hself2⟩:=hself
 cbv
 try simp only[nc]at*
 refine LpW.of (κ:=Nat) (fun j=>j≤n) (fun j=>n - j) (fun j=>[(0,.d (.row 1 xs)),(1,.d (.sc (.int .i64 (k+1*(j:Int))))),(5,.d (.sc (.int .i64 j)))]) (fun j=>[]) 0 (by omega) ?_ (by first|rfl|trivial) ?_
 ·refine .cons rfl (.cons ?_ (.cons rfl (.nil _)))
  show AV.d (.sc (.int .i64 k))= .d (.sc (.int .i64 (k+1*((0:Nat):Int))))
  rw[show k+1*((0:Nat):Int)=k by omega]
 ·intro j hj
  generalize hi:(j:Int)=i
  generalize ab:k+1*i=kc0
  refine Fg hT hm ?_
  rw[hA]
  cbv
  try simp only[nc]at*
  split
  ·rename_i h2
   simp only[hE,List.length_map,A7,A8,Bb,A9,A6,Az,A1,A5,Au,Ay,Ak,A0,Ax,Aq,A4,Al,Aw,Av,Ba,IntKind.wrap_i64,decide_eq_true_eq,decide_eq_false_iff_not,Bool.not_eq_true',Bool.not_eq_false',Option.getD_none,Option.getD_some,hn]at h2
   have hj':j<n:=by omega
   have hjl:j<(I8 k n).length:=by rw[Je];exact hj'
   have hge:(I8 k n)[j]=Ns k j:=by simp[I8]
   have he:std.elt xs i=cI (Ns k j):=by rw[Ey hx hi hjl,hge]
   cbv
   try simp only[nc]at*
   repeat (refine And.intro (by first|(simp only[hE];exact N6 hx hi hjl)|(simp only[hE,Ey hx hi hjl];exact⟨rfl⟩)|(simp only[hE,Ey hx hi hjl];exact⟨Nat.le_of_ble_eq_true rfl⟩)) ?_)
   rw[show qint (qnth (qelt xs i) 0)=kc0 by simp only[hE,he];show k+1*(j:Int)+0=kc0;omega]
   rw[hself1]
   cbv
   try simp only[nc]at*
   have aa:qbin .add .i64 kc0 1=kc0+1:=by simp only[hE,List.length_map,A7,A8,Bb,A9,A6,Az,A1,A5,Au,Ay,Ak,A0,Ax,Aq,A4,Al,Aw,Av,Ba,IntKind.wrap_i64,decide_eq_true_eq,decide_eq_false_iff_not,Bool.not_eq_true',Bool.not_eq_false',Option.getD_none,Option.getD_some,];omega
   generalize hkc1:kc0+1=kc1 at aa
   rw[aa]
   refine⟨j+1,by omega,by omega,?_,by first|rfl|trivial⟩
   refine .cons rfl (.cons ?_ (.cons ?_ (.nil _)))
   ·show AV.d (D.sc (Value.int IntKind.i64 kc1))= .d (.sc (.int .i64 (k+1*((j+1:Nat):Int))))
    rw[show k+1*((j+1:Nat):Int)=kc1 by omega]
   ·show AV.d (D.sc (Value.int IntKind.i64 (qbin .add .i64 i 1)))=_
    simp only[hE,Nl hi (by omega)]
  ·rename_i h2
   simp only[hE,List.length_map,A7,A8,Bb,A9,A6,Az,A1,A5,Au,Ay,Ak,A0,Ax,Aq,A4,Al,Aw,Av,Ba,IntKind.wrap_i64,decide_eq_true_eq,decide_eq_false_iff_not,Bool.not_eq_true',Bool.not_eq_false',Option.getD_none,Option.getD_some,hn]at h2
   cbv
   try simp only[nc]at*
   have hj':j=n:=by omega
   rw[←hQ]
   refine Oo rfl (Xkz ?_)
   omega
end
section
open Go Go.Proofs
set_option maxRecDepth 20000
noncomputable def c42:Code:=(Tryz.f42.body).getD .skip
theorem ent42:Cp Tryz.prog 42:=⟨_,Tryz.func42,rfl,rfl⟩
theorem T42{a_nodes:List Bk}{xa_nodes:List (List D)}(ha_nodes:a_nodes.map Bg=xa_nodes){a_entries:List Ad}{xa_entries:List (List D)}(ha_entries:a_entries.map Ac=xa_entries){a_old:List Ad}{xa_old:List (List D)}(ha_old:a_old.map Ac=xa_old){a_steps:List ByteArray}{xa_steps:List (List D)}(ha_steps:a_steps.map cS=xa_steps){a_room:Int}{a_next:Int}{na_nodes:Nat}(hna_nodes:na_nodes=a_nodes.length){na_entries:Nat}(hna_entries:na_entries=a_entries.length){na_old:Nat}(hna_old:na_old=a_old.length){na_steps:Nat}(hna_steps:na_steps=a_steps.length)(hb:Fy ⟨a_nodes,a_entries,a_old,a_steps,a_room,a_next⟩≤1048576){k:Int}(h0:0≤k)(h1:k<2^45):
  CallOk Tryz.prog 42 [.agg [.ref 0 0 na_nodes,.ref 1 0 na_entries,.ref 2 0 na_old,.ref 3 0 na_steps,.d (.sc (.int .i64 a_room)),.d (.sc (.int .i64 a_next))],.d (.sc (.int .i64 k))] [.row 3 false xa_nodes,.row 2 false xa_entries,.row 2 false xa_old,.row 1 false xa_steps] ⟨.d (.sc (.int .i64 (k+3*(na_nodes:Int)+2*(na_entries:Int)+2*(na_old:Int)+1*(na_steps:Int)))),[],[(0,.row 3 false ((O5 (k) na_nodes).map Bg)),(1,.row 2 false ((Ho (k+3*(na_nodes:Int)) na_entries).map Ac)),(2,.row 2 false ((Ho (k+3*(na_nodes:Int)+2*(na_entries:Int)) na_old).map Ac)),(3,.row 1 false ((K4 (k+3*(na_nodes:Int)+2*(na_entries:Int)+2*(na_old:Int)) na_steps).map cS))]⟩:=by
 have ent21_:=ent21
 have T21_:=@T21
 have ent116_:=XmC
 have T116_:=@T116
 have ent117_:=Xml
 have T117_:=@T117
 have nna_nodes:=Gn a_nodes
 have nna_entries:=Dd a_entries
 have nna_old:=Dd a_old
 have nna_steps:=Fd a_steps
 have hb':Dr a_nodes+Cb a_entries+Cb a_old+Cw a_steps≤1048576:=hb
 have bla_nodes:=Te a_nodes
 have bla_entries:=H8 a_entries
 have bla_old:=H8 a_old
 have bla_steps:=Lq a_steps
 have bna_nodes:(na_nodes:Int)≤1048576:=by omega
 have bna_entries:(na_entries:Int)≤1048576:=by omega
 have bna_old:(na_old:Int)≤1048576:=by omega
 have bna_steps:(na_steps:Int)≤1048576:=by omega
 refine CallOk.of_body (body:=c42) Tryz.func42 rfl (Nat.le_of_ble_eq_true (by kernel_rfl)) rfl rfl ?_
 refine Fg Cx mixed ?_
 have hT:=Cx
 have hm:=mixed
 generalize hP:Tryz.prog=P at*
 generalize hA:std=A
 obtain⟨qbin,qsh,qcmp,qscmp,qbcmp,qbnot,qneg,qwrap,qcat,qssize,qssub,qsget,qlen,qrsub,qapp,qelt,qset,qnth,qdrp,qstr,qint,qbool,qrow,qnat,qnadd,qnsub,qband,qofNat,qstrRow,qmkRow,qmx,qmn,qbytes,qemp⟩:=A
 have hE:=Ar.eqs hA
 dsimp only at hE
 generalize hQ:EndQ P Tryz.f42.results _ _=Q
 cbv
 try simp only[nc]at*
 refine ClW.mut1 (f:=116) rfl rfl rfl rfl (.cons rfl (.cons rfl .nil)) rfl ent116_ (T116_ ha_nodes hna_nodes (by omega) k (by omega) (by omega)) rfl ?_
 generalize hkq0:(k:Int)+3*(na_nodes:Int)=kq0
 generalize hmq0:(O5 k na_nodes).map Bg=mq0
 cbv
 try simp only[nc]at*
 refine ClW.mut1 (f:=117) rfl rfl rfl rfl (.cons rfl (.cons rfl .nil)) rfl ent117_ (T117_ ha_entries hna_entries (by omega) kq0 (by omega) (by omega)) rfl ?_
 generalize hkq1:(kq0:Int)+2*(na_entries:Int)=kq1
 generalize hmq1:(Ho kq0 na_entries).map Ac=mq1
 cbv
 try simp only[nc]at*
 refine ClW.mut1 (f:=117) rfl rfl rfl rfl (.cons rfl (.cons rfl .nil)) rfl ent117_ (T117_ ha_old hna_old (by omega) kq1 (by omega) (by omega)) rfl ?_
 generalize hkq2:(kq1:Int)+2*(na_old:Int)=kq2
 generalize hmq2:(Ho kq1 na_old).map Ac=mq2
 cbv
 try simp only[nc]at*
 refine ClW.mut1 (f:=21) rfl rfl rfl rfl (.cons rfl (.cons rfl .nil)) rfl ent21_ (T21_ ha_steps hna_steps (by omega) kq2 (by omega) (by omega)) rfl ?_
 generalize hkq3:(kq2:Int)+1*(na_steps:Int)=kq3
 generalize hmq3:(K4 kq2 na_steps).map cS=mq3
 cbv
 try simp only[nc]at*
 rw[←hQ]
 refine Xh1 rfl (Xkz (by omega)) ?_ (by simp)
 intro r R hR
 rcases r with _|r
 ·refine⟨_,_,_,rfl,?_⟩
  rw[←hmq0]
  try simp only[←hkq0,←hkq1,←hkq2,←hkq3]
  rfl
 rcases r with _|r
 ·refine⟨_,_,_,rfl,?_⟩
  rw[←hmq1]
  try simp only[←hkq0,←hkq1,←hkq2,←hkq3]
  rfl
 rcases r with _|r
 ·refine⟨_,_,_,rfl,?_⟩
  rw[←hmq2]
  try simp only[←hkq0,←hkq1,←hkq2,←hkq3]
  rfl
 rcases r with _|r
 ·refine⟨_,_,_,rfl,?_⟩
  rw[←hmq3]
  try simp only[←hkq0,←hkq1,←hkq2,←hkq3]
  rfl
 simp at hR
end
end Go.Proofs.YtgdmjbcllgmepaaGreatDoor.Ab
