/- What functions of the program come to, for all arguments in the given bounds. -/
import Derived.Test.YtgdmjbcllgmepaaGreatDoorTich16
import Derived.Test.YtgdmjbcllgmepaaGreatDoorTiZ9
set_option linter.unusedVariables false
set_option linter.unusedSimpArgs false
namespace Go.Proofs.YtgdmjbcllgmepaaGreatDoor.Ab
section
open Go Go.Proofs
set_option maxRecDepth 20000
set_option maxHeartbeats 4000000
def Xag:List (Nat×TyRow):=[ty3,ty4,ty9,XgT,Xa1,ty41]
theorem Z3:Bx Tryz.prog Xag:=Bx.of (by kernel_rfl)
theorem XcB:Setup Tryz.prog Xag:=⟨Z3,mixed⟩
theorem Au{d:Ac}{w:Aa}{r:ByteArray}{a b c:Ac×Aa}(h1:¬60<r.size)(h2:¬w.code_≠0)(hA:O8 d w=a)(hB:appB a=b)(hC:H0 b r=c):(c.1,c.2,c.2.code_)=Ad d w r:=by
 unfold Ad
 rw[if_neg h1,if_neg h2,hA,hB,hC]
theorem Bb{d:Ac}{w:Aa}{r:ByteArray}{a b:Ac×Aa}(h1:¬60<r.size)(h2:¬w.code_≠0)(hA:O8 d w=a)(hB:appB a=b)(hC:b.2.code_≠0):(b.1,b.2,b.2.code_)=Ad d w r:=Au h1 h2 hA hB (if_neg hC)
theorem Be{d:Ac}{w:Aa}{r:ByteArray}{a:Ac×Aa}(h1:¬60<r.size)(h2:¬w.code_≠0)(hA:O8 d w=a)(hC:a.2.code_≠0):(a.1,a.2,a.2.code_)=Ad d w r:=Bb h1 h2 hA (if_neg fun h=>hC h.1) hC
theorem U9{d:Ac}{w:Aa}(hw:w.code_=0)(h:(Qy d w).code_=0):(Qy d w).open_=false:=by
 unfold Qy at h⊢
 split at h
 ·rename_i hc
  rw[if_pos hc]
 ·cases h
theorem Ur{d a:Ac}{w b:Aa}{c:Int}(h1:w.open_=true)(h2:w.code_=0)(h:Cz d w=(a,b,c)):T5 d w=a∧Qy d w=b:=by
 unfold Cz at h
 rw[if_neg (by rw[h1,h2];simp)]at h
 simp only[Prod.mk.injEq]at h
 exact⟨h.1,h.2.1⟩
variable {Ag Ih:List Br} {Bo Bm Bl Bn xwoff Ey Ez Eu Ex xoboff:List (List D)} {Ak Aj In Ik:List Ai} {Ah Ig:List ByteArray} {An Am wver wstr wrol wbas wlin wend wcod Ia H7 obver obstr obrol obbas oblin obend obcod oc:Int} {woff oboff:List Int} {wope obope:Bool} {record:ByteArray} {k:Nat}
theorem Xaz(Aq:Ag.map A8=Bo)(As:Ak.map Ae=Bm)(Av:Aj.map Ae=Bl)(At:Ah.map cS=Bn)(hwoff:woff.map cI=xwoff)(aa:Is (⟨Ag,Ak,Aj,Ah,An,Am⟩:Ac))(hst:Ah.length<800000000)(hw:Pe k (⟨wver,wstr,wrol,wbas,wlin,woff,wend,wope,wcod⟩:Aa))(hk:k≤1000000)(hr:Ad (⟨Ag,Ak,Aj,Ah,An,Am⟩:Ac) (⟨wver,wstr,wrol,wbas,wlin,woff,wend,wope,wcod⟩:Aa) record=(⟨Ih,In,Ik,Ig,Ia,H7⟩,⟨obver,obstr,obrol,obbas,oblin,oboff,obend,obope,obcod⟩,oc))(A6:Ih.map A8=Ey)(A5:In.map Ae=Ez)(A4:Ik.map Ae=Eu)(A7:Ig.map cS=Ex)(hoboff:oboff.map cI=xoboff):Fn Tryz.prog 79 [.agg [.d (.row 3 Bo),.d (.row 2 Bm),.d (.row 2 Bl),.d (.row 1 Bn),I An,I Am],.agg [I wver,I wstr,I wrol,I wbas,I wlin,.d (.row 1 xwoff),I wend,B wope,I wcod],S record] [] ⟨.tup [.agg [.d (.row 3 Ey),.d (.row 2 Ez),.d (.row 2 Eu),.d (.row 1 Ex),I Ia,I H7],.agg [I obver,I obstr,I obrol,I obbas,I oblin,.d (.row 1 xoboff),I obend,B obope,I obcod],I oc],[],[]⟩:=by
 refine Fn.go XcB Tryz.func79 fun P hP Q hQ=>?_
 conv=>cbv
 have ad:Ag.length≤1000000000:=aa.1.1
 have ae:Ak.length≤1000000000:=aa.1.2.2.1
 have af:Aj.length≤1000000000:=aa.1.2.2.2.2.1
 have ab:=Pu hw hk
 simp only[]at ab
 have h_hb_:=hw
 obtain⟨hb_1,hb_2,hb_3,hb_4,-⟩:=h_hb_
 try (simp only[]at hb_1 hb_2 hb_3 hb_4)
 cases wope
 refine .dd hP (Od hwoff (by omega)) ?_
 conv=>cbv
 refine .dd hP (K6 Aq As Av At (by omega) (by omega) (by omega) (by omega)) ?_
 conv=>cbv
 refine .go fun v3 ag=>?_
 conv=>cbv
 refine .gtr (fun h4=>?_) fun h4=>?_
 conv=>cbv
 have e:((⟨Ag,Ak,Aj,Ah,An,Am⟩:Ac),(⟨wver,wstr,wrol,wbas,wlin,woff,wend,false,wcod⟩:Aa),1)=Ad (⟨Ag,Ak,Aj,Ah,An,Am⟩:Ac) (⟨wver,wstr,wrol,wbas,wlin,woff,wend,false,wcod⟩:Aa) record:=(by first|(exfalso;omega)|(unfold Ad;rw[if_pos (by omega)];done)|(unfold Ad;rw[if_neg (by omega),if_pos (by first|omega|(dsimp only;omega))];done)|(have hz:=Au (r:=record) (by omega) (by first|omega|(dsimp only;omega)) hA hB hC;exact hz)|(have hz:=Bb (r:=record) (by omega) (by first|omega|(dsimp only;omega)) hA hB (by first|omega|(dsimp only;omega));exact hz)|(have hz:=Be (r:=record) (by omega) (by first|omega|(dsimp only;omega)) hA (by first|omega|(dsimp only;omega));exact hz))
 rw[hr]at e
 simp only[Prod.mk.injEq,Ac.mk.injEq,Aa.mk.injEq]at e
 obtain⟨⟨rfl,rfl,rfl,rfl,rfl,rfl⟩,⟨rfl,rfl,rfl,rfl,rfl,rfl,rfl,rfl,rfl⟩,rfl⟩:=e
 refine hQ _ _ ?_
 exact .many (.inl rfl) rfl rfl (.agg (.d rfl (Al Aq A6) (.d rfl (Al As A5) (.d rfl (Al Av A4) (.d rfl (Al At A7) (.d rfl rfl (.d rfl rfl (.nil))))))) (.agg (.d rfl rfl (.d rfl rfl (.d rfl rfl (.d rfl rfl (.d rfl rfl (.d rfl (Al hwoff hoboff) (.d rfl rfl (.d rfl rfl (.d rfl rfl (.nil)))))))))) (.d rfl rfl (.nil))))
 conv=>cbv
 refine .neq (fun h5=>?_) fun h5=>?_
 conv=>cbv
 have e:((⟨Ag,Ak,Aj,Ah,An,Am⟩:Ac),(⟨wver,wstr,wrol,wbas,wlin,woff,wend,false,wcod⟩:Aa),wcod)=Ad (⟨Ag,Ak,Aj,Ah,An,Am⟩:Ac) (⟨wver,wstr,wrol,wbas,wlin,woff,wend,false,wcod⟩:Aa) record:=(by first|(exfalso;omega)|(unfold Ad;rw[if_pos (by omega)];done)|(unfold Ad;rw[if_neg (by omega),if_pos (by first|omega|(dsimp only;omega))];done)|(have hz:=Au (r:=record) (by omega) (by first|omega|(dsimp only;omega)) hA hB hC;exact hz)|(have hz:=Bb (r:=record) (by omega) (by first|omega|(dsimp only;omega)) hA hB (by first|omega|(dsimp only;omega));exact hz)|(have hz:=Be (r:=record) (by omega) (by first|omega|(dsimp only;omega)) hA (by first|omega|(dsimp only;omega));exact hz))
 rw[hr]at e
 simp only[Prod.mk.injEq,Ac.mk.injEq,Aa.mk.injEq]at e
 obtain⟨⟨rfl,rfl,rfl,rfl,rfl,rfl⟩,⟨rfl,rfl,rfl,rfl,rfl,rfl,rfl,rfl,rfl⟩,rfl⟩:=e
 refine hQ _ _ ?_
 exact .many (.inl rfl) rfl rfl (.agg (.d rfl (Al Aq A6) (.d rfl (Al As A5) (.d rfl (Al Av A4) (.d rfl (Al At A7) (.d rfl rfl (.d rfl rfl (.nil))))))) (.agg (.d rfl rfl (.d rfl rfl (.d rfl rfl (.d rfl rfl (.d rfl rfl (.d rfl (Al hwoff hoboff) (.d rfl rfl (.d rfl rfl (.d rfl rfl (.nil)))))))))) (.d rfl rfl (.nil))))
 conv=>cbv
 refine .eql (fun h6=>?_) fun h6=>?_
 conv=>cbv
 have hA:O8 (⟨Ag,Ak,Aj,Ah,An,Am⟩:Ac) (⟨wver,wstr,wrol,wbas,wlin,woff,wend,false,wcod⟩:Aa)=((⟨Ag,Ak,Aj,Ah,An,Am⟩:Ac),(⟨wver,wstr,wrol,wbas,wlin,woff,wend,false,wcod⟩:Aa)):=by unfold O8;rw[if_neg (by first|(simp;done)|(exfalso;omega)|(simp;omega))]
 by_cases hbc:Mr (⟨Ag,Ak,Aj,Ah,An,Am⟩:Ac) (⟨wver,wstr,wrol,wbas,wlin,woff,wend,false,wcod⟩:Aa)=0
 have hgB:=Nv (d:=(⟨Ag,Ak,Aj,Ah,An,Am⟩:Ac)) (w:=(⟨wver,wstr,wrol,wbas,wlin,woff,wend,false,wcod⟩:Aa)) aa (by first|omega|(dsimp only;omega))
 have hwB:=Nx (d:=(⟨Ag,Ak,Aj,Ah,An,Am⟩:Ac)) (w:=(⟨wver,wstr,wrol,wbas,wlin,woff,wend,false,wcod⟩:Aa)) hw
 unfold Yv at hwB
 rw[if_pos hbc]at hwB
 have hB:appB ((⟨Ag,Ak,Aj,Ah,An,Am⟩:Ac),(⟨wver,wstr,wrol,wbas,wlin,woff,wend,false,wcod⟩:Aa))=(Ko (⟨Ag,Ak,Aj,Ah,An,Am⟩:Ac) (⟨wver,wstr,wrol,wbas,wlin,woff,wend,false,wcod⟩:Aa),(⟨wver,wstr,wrol,wbas,wlin,[],24,true,wcod⟩:Aa)):=by unfold appB;rw[if_pos ⟨by dsimp only;omega,rfl⟩];unfold Yv;rw[if_pos hbc]
 rcases hbd:Ko (⟨Ag,Ak,Aj,Ah,An,Am⟩:Ac) (⟨wver,wstr,wrol,wbas,wlin,woff,wend,false,wcod⟩:Aa)with⟨bdnod,bdent,bdold,bdste,bdroo,bdnex⟩
 generalize hbdnod:bdnod.map A8=xbdnod
 generalize hbdent:bdent.map Ae=xbdent
 generalize hbdold:bdold.map Ae=xbdold
 generalize hbdste:bdste.map cS=xbdste
 rw[hbd]at hgB hB
 have hsB:=hgB.2
 simp only[]at hsB hwB
 obtain⟨hc_1,hc_2,hc_3,hc_4,-⟩:=id hwB
 try (simp only[]at hc_1 hc_2 hc_3 hc_4)
 refine .bx [10] [] hP (Mb hwoff Aq As Av At aa (by first|omega|(dsimp only;omega)) hw hk hbc hbd hbdnod hbdent hbdold hbdste) rfl rfl rfl rfl ?_
 conv=>cbv
 refine .eql (fun h8=>?_) fun h8=>?_
 conv=>cbv
 by_cases hlc:Li (⟨bdnod,bdent,bdold,bdste,bdroo,bdnex⟩:Ac) (⟨wver,wstr,wrol,wbas,wlin,([]:List Int),24,true,wcod⟩:Aa) record=0
 generalize hxo:(([]:List Int)++[24]).map cI=xo
 obtain⟨nxo,hnx⟩:∃m,m=([]:List Int).length+1:=⟨_,rfl⟩
 obtain⟨en,hen⟩:∃m,24+((Hj (⟨wver,wstr,wrol,wbas,wlin,([]:List Int),24,true,wcod⟩:Aa) record).size:Int)=m:=⟨_,rfl⟩
 have hC:H0 ((⟨bdnod,bdent,bdold,bdste,bdroo,bdnex⟩:Ac),(⟨wver,wstr,wrol,wbas,wlin,([]:List Int),24,true,wcod⟩:Aa)) record=(Kh (⟨bdnod,bdent,bdold,bdste,bdroo,bdnex⟩:Ac) (⟨wver,wstr,wrol,wbas,wlin,([]:List Int),24,true,wcod⟩:Aa) record,(⟨wver,wstr,wrol,wbas,wlin,([]:List Int)++[24],en,true,wcod⟩:Aa)):=by unfold H0;rw[if_pos (by first|omega|(dsimp only;omega))];unfold Rm;rw[if_pos hlc,hen]
 rcases hld:Kh (⟨bdnod,bdent,bdold,bdste,bdroo,bdnex⟩:Ac) (⟨wver,wstr,wrol,wbas,wlin,([]:List Int),24,true,wcod⟩:Aa) record with⟨ldnod,ldent,ldold,ldste,ldroo,ldnex⟩
 generalize hldnod:ldnod.map A8=xldnod
 generalize hldent:ldent.map Ae=xldent
 generalize hldold:ldold.map Ae=xldold
 generalize hldste:ldste.map cS=xldste
 rw[hld]at hC
 refine .bx [10,16] [16] hP (H5 rfl (by first|rfl|omega) hbdnod hbdent hbdold hbdste hgB.1 (by first|omega|(dsimp only;omega)) hwB hk (by omega) hlc hld hldnod hldent hldold hldste hxo hnx hen) rfl rfl rfl rfl ?_
 conv=>cbv
 have e:((⟨ldnod,ldent,ldold,ldste,ldroo,ldnex⟩:Ac),(⟨wver,wstr,wrol,wbas,wlin,(([]:List Int)++[24]),en,true,wcod⟩:Aa),wcod)=Ad (⟨Ag,Ak,Aj,Ah,An,Am⟩:Ac) (⟨wver,wstr,wrol,wbas,wlin,woff,wend,false,wcod⟩:Aa) record:=(by first|(exfalso;omega)|(unfold Ad;rw[if_pos (by omega)];done)|(unfold Ad;rw[if_neg (by omega),if_pos (by first|omega|(dsimp only;omega))];done)|(have hz:=Au (r:=record) (by omega) (by first|omega|(dsimp only;omega)) hA hB hC;exact hz)|(have hz:=Bb (r:=record) (by omega) (by first|omega|(dsimp only;omega)) hA hB (by first|omega|(dsimp only;omega));exact hz)|(have hz:=Be (r:=record) (by omega) (by first|omega|(dsimp only;omega)) hA (by first|omega|(dsimp only;omega));exact hz))
 rw[hr]at e
 simp only[Prod.mk.injEq,Ac.mk.injEq,Aa.mk.injEq]at e
 obtain⟨⟨rfl,rfl,rfl,rfl,rfl,rfl⟩,⟨rfl,rfl,rfl,rfl,rfl,rfl,rfl,rfl,rfl⟩,rfl⟩:=e
 refine hQ _ _ ?_
 exact .many (.inl rfl) rfl rfl (.agg (.d rfl (Al hldnod A6) (.d rfl (Al hldent A5) (.d rfl (Al hldold A4) (.d rfl (Al hldste A7) (.d rfl rfl (.d rfl rfl (.nil))))))) (.agg (.d rfl rfl (.d rfl rfl (.d rfl rfl (.d rfl rfl (.d rfl rfl (.ref rfl (Ap hxo) (Bk hxo hoboff) (.d rfl rfl (.d rfl rfl (.d rfl rfl (.nil)))))))))) (.d rfl rfl (.nil))))
 have hC:H0 ((⟨bdnod,bdent,bdold,bdste,bdroo,bdnex⟩:Ac),(⟨wver,wstr,wrol,wbas,wlin,([]:List Int),24,true,wcod⟩:Aa)) record=(Kh (⟨bdnod,bdent,bdold,bdste,bdroo,bdnex⟩:Ac) (⟨wver,wstr,wrol,wbas,wlin,([]:List Int),24,true,wcod⟩:Aa) record,(⟨wver,wstr,wrol,wbas,wlin,([]:List Int),24,true,2⟩:Aa)):=by unfold H0;rw[if_pos (by first|omega|(dsimp only;omega))];unfold Rm;rw[if_neg hlc]
 rcases hld:Kh (⟨bdnod,bdent,bdold,bdste,bdroo,bdnex⟩:Ac) (⟨wver,wstr,wrol,wbas,wlin,([]:List Int),24,true,wcod⟩:Aa) record with⟨ldnod,ldent,ldold,ldste,ldroo,ldnex⟩
 generalize hldnod:ldnod.map A8=xldnod
 generalize hldent:ldent.map Ae=xldent
 generalize hldold:ldold.map Ae=xldold
 generalize hldste:ldste.map cS=xldste
 rw[hld]at hC
 refine .bx [10,16] [16] hP (Ie rfl (by first|rfl|omega) hbdnod hbdent hbdold hbdste hgB.1 (by first|omega|(dsimp only;omega)) hwB hk (by omega) hlc hld hldnod hldent hldold hldste) rfl rfl rfl rfl ?_
 conv=>cbv
 have e:((⟨ldnod,ldent,ldold,ldste,ldroo,ldnex⟩:Ac),(⟨wver,wstr,wrol,wbas,wlin,([]:List Int),24,true,2⟩:Aa),2)=Ad (⟨Ag,Ak,Aj,Ah,An,Am⟩:Ac) (⟨wver,wstr,wrol,wbas,wlin,woff,wend,false,wcod⟩:Aa) record:=(by first|(exfalso;omega)|(unfold Ad;rw[if_pos (by omega)];done)|(unfold Ad;rw[if_neg (by omega),if_pos (by first|omega|(dsimp only;omega))];done)|(have hz:=Au (r:=record) (by omega) (by first|omega|(dsimp only;omega)) hA hB hC;exact hz)|(have hz:=Bb (r:=record) (by omega) (by first|omega|(dsimp only;omega)) hA hB (by first|omega|(dsimp only;omega));exact hz)|(have hz:=Be (r:=record) (by omega) (by first|omega|(dsimp only;omega)) hA (by first|omega|(dsimp only;omega));exact hz))
 rw[hr]at e
 simp only[Prod.mk.injEq,Ac.mk.injEq,Aa.mk.injEq]at e
 obtain⟨⟨rfl,rfl,rfl,rfl,rfl,rfl⟩,⟨rfl,rfl,rfl,rfl,rfl,rfl,rfl,rfl,rfl⟩,rfl⟩:=e
 refine hQ _ _ ?_
 exact .many (.inl rfl) rfl rfl (.agg (.d rfl (Al hldnod A6) (.d rfl (Al hldent A5) (.d rfl (Al hldold A4) (.d rfl (Al hldste A7) (.d rfl rfl (.d rfl rfl (.nil))))))) (.agg (.d rfl rfl (.d rfl rfl (.d rfl rfl (.d rfl rfl (.d rfl rfl (.ref rfl rfl (by rw[←hoboff];rfl) (.d rfl rfl (.d rfl rfl (.d rfl rfl (.nil)))))))))) (.d rfl rfl (.nil))))
 conv=>cbv
 have e:((⟨bdnod,bdent,bdold,bdste,bdroo,bdnex⟩:Ac),(⟨wver,wstr,wrol,wbas,wlin,([]:List Int),24,true,wcod⟩:Aa),wcod)=Ad (⟨Ag,Ak,Aj,Ah,An,Am⟩:Ac) (⟨wver,wstr,wrol,wbas,wlin,woff,wend,false,wcod⟩:Aa) record:=(by first|(exfalso;omega)|(unfold Ad;rw[if_pos (by omega)];done)|(unfold Ad;rw[if_neg (by omega),if_pos (by first|omega|(dsimp only;omega))];done)|(have hz:=Au (r:=record) (by omega) (by first|omega|(dsimp only;omega)) hA hB hC;exact hz)|(have hz:=Bb (r:=record) (by omega) (by first|omega|(dsimp only;omega)) hA hB (by first|omega|(dsimp only;omega));exact hz)|(have hz:=Be (r:=record) (by omega) (by first|omega|(dsimp only;omega)) hA (by first|omega|(dsimp only;omega));exact hz))
 rw[hr]at e
 simp only[Prod.mk.injEq,Ac.mk.injEq,Aa.mk.injEq]at e
 obtain⟨⟨rfl,rfl,rfl,rfl,rfl,rfl⟩,⟨rfl,rfl,rfl,rfl,rfl,rfl,rfl,rfl,rfl⟩,rfl⟩:=e
 refine hQ _ _ ?_
 exact .many (.inl rfl) rfl rfl (.agg (.d rfl (Al hbdnod A6) (.d rfl (Al hbdent A5) (.d rfl (Al hbdold A4) (.d rfl (Al hbdste A7) (.d rfl rfl (.d rfl rfl (.nil))))))) (.agg (.d rfl rfl (.d rfl rfl (.d rfl rfl (.d rfl rfl (.d rfl rfl (.ref rfl rfl (by rw[←hoboff];rfl) (.d rfl rfl (.d rfl rfl (.d rfl rfl (.nil)))))))))) (.d rfl rfl (.nil))))
 obtain⟨bc,hbe⟩:∃c,Mr (⟨Ag,Ak,Aj,Ah,An,Am⟩:Ac) (⟨wver,wstr,wrol,wbas,wlin,woff,wend,false,wcod⟩:Aa)=c:=⟨_,rfl⟩
 rw[hbe]at hbc
 have hB:appB ((⟨Ag,Ak,Aj,Ah,An,Am⟩:Ac),(⟨wver,wstr,wrol,wbas,wlin,woff,wend,false,wcod⟩:Aa))=(Ko (⟨Ag,Ak,Aj,Ah,An,Am⟩:Ac) (⟨wver,wstr,wrol,wbas,wlin,woff,wend,false,wcod⟩:Aa),(⟨wver,wstr,wrol,wbas,wlin,woff,wend,false,bc⟩:Aa)):=by unfold appB;rw[if_pos ⟨by dsimp only;omega,rfl⟩];unfold Yv;rw[hbe,if_neg hbc]
 rcases hbd:Ko (⟨Ag,Ak,Aj,Ah,An,Am⟩:Ac) (⟨wver,wstr,wrol,wbas,wlin,woff,wend,false,wcod⟩:Aa)with⟨bdnod,bdent,bdold,bdste,bdroo,bdnex⟩
 generalize hbdnod:bdnod.map A8=xbdnod
 generalize hbdent:bdent.map Ae=xbdent
 generalize hbdold:bdold.map Ae=xbdold
 generalize hbdste:bdste.map cS=xbdste
 rw[hbd]at hB
 refine .bx [10] [] hP (Me hwoff Aq As Av At aa (by first|omega|(dsimp only;omega)) hw hk hbe hbc hbd hbdnod hbdent hbdold hbdste) rfl rfl rfl rfl ?_
 conv=>cbv
 refine .eql (fun h8=>?_) fun h8=>?_
 conv=>cbv
 first|(exfalso;omega)|exact absurd (hopA (by omega)) (by decide)
 conv=>cbv
 have e:((⟨bdnod,bdent,bdold,bdste,bdroo,bdnex⟩:Ac),(⟨wver,wstr,wrol,wbas,wlin,woff,wend,false,bc⟩:Aa),bc)=Ad (⟨Ag,Ak,Aj,Ah,An,Am⟩:Ac) (⟨wver,wstr,wrol,wbas,wlin,woff,wend,false,wcod⟩:Aa) record:=(by first|(exfalso;omega)|(unfold Ad;rw[if_pos (by omega)];done)|(unfold Ad;rw[if_neg (by omega),if_pos (by first|omega|(dsimp only;omega))];done)|(have hz:=Au (r:=record) (by omega) (by first|omega|(dsimp only;omega)) hA hB hC;exact hz)|(have hz:=Bb (r:=record) (by omega) (by first|omega|(dsimp only;omega)) hA hB (by first|omega|(dsimp only;omega));exact hz)|(have hz:=Be (r:=record) (by omega) (by first|omega|(dsimp only;omega)) hA (by first|omega|(dsimp only;omega));exact hz))
 rw[hr]at e
 simp only[Prod.mk.injEq,Ac.mk.injEq,Aa.mk.injEq]at e
 obtain⟨⟨rfl,rfl,rfl,rfl,rfl,rfl⟩,⟨rfl,rfl,rfl,rfl,rfl,rfl,rfl,rfl,rfl⟩,rfl⟩:=e
 refine hQ _ _ ?_
 exact .many (.inl rfl) rfl rfl (.agg (.d rfl (Al hbdnod A6) (.d rfl (Al hbdent A5) (.d rfl (Al hbdold A4) (.d rfl (Al hbdste A7) (.d rfl rfl (.d rfl rfl (.nil))))))) (.agg (.d rfl rfl (.d rfl rfl (.d rfl rfl (.d rfl rfl (.d rfl rfl (.d rfl (Al hwoff hoboff) (.d rfl rfl (.d rfl rfl (.d rfl rfl (.nil)))))))))) (.d rfl rfl (.nil))))
 conv=>cbv
 refine .eql (fun h7=>?_) fun h7=>?_
 conv=>cbv
 first|(exfalso;omega)|exact absurd (hopA (by omega)) (by decide)
 conv=>cbv
 have e:((⟨Ag,Ak,Aj,Ah,An,Am⟩:Ac),(⟨wver,wstr,wrol,wbas,wlin,woff,wend,false,wcod⟩:Aa),wcod)=Ad (⟨Ag,Ak,Aj,Ah,An,Am⟩:Ac) (⟨wver,wstr,wrol,wbas,wlin,woff,wend,false,wcod⟩:Aa) record:=(by first|(exfalso;omega)|(unfold Ad;rw[if_pos (by omega)];done)|(unfold Ad;rw[if_neg (by omega),if_pos (by first|omega|(dsimp only;omega))];done)|(have hz:=Au (r:=record) (by omega) (by first|omega|(dsimp only;omega)) hA hB hC;exact hz)|(have hz:=Bb (r:=record) (by omega) (by first|omega|(dsimp only;omega)) hA hB (by first|omega|(dsimp only;omega));exact hz)|(have hz:=Be (r:=record) (by omega) (by first|omega|(dsimp only;omega)) hA (by first|omega|(dsimp only;omega));exact hz))
 rw[hr]at e
 simp only[Prod.mk.injEq,Ac.mk.injEq,Aa.mk.injEq]at e
 obtain⟨⟨rfl,rfl,rfl,rfl,rfl,rfl⟩,⟨rfl,rfl,rfl,rfl,rfl,rfl,rfl,rfl,rfl⟩,rfl⟩:=e
 refine hQ _ _ ?_
 exact .many (.inl rfl) rfl rfl (.agg (.d rfl (Al Aq A6) (.d rfl (Al As A5) (.d rfl (Al Av A4) (.d rfl (Al At A7) (.d rfl rfl (.d rfl rfl (.nil))))))) (.agg (.d rfl rfl (.d rfl rfl (.d rfl rfl (.d rfl rfl (.d rfl rfl (.d rfl (Al hwoff hoboff) (.d rfl rfl (.d rfl rfl (.d rfl rfl (.nil)))))))))) (.d rfl rfl (.nil))))
 obtain⟨n2,ac⟩:∃m,m=woff.length:=⟨_,rfl⟩
 refine .ddN hP (Zz hwoff (by omega) ac) rfl ?_
 conv=>cbv
 refine .dd hP (K6 Aq As Av At (by omega) (by omega) (by omega) (by omega)) ?_
 conv=>cbv
 refine .go fun v4 ah=>?_
 conv=>cbv
 refine .gtr (fun h5=>?_) fun h5=>?_
 conv=>cbv
 have e:((⟨Ag,Ak,Aj,Ah,An,Am⟩:Ac),(⟨wver,wstr,wrol,wbas,wlin,woff,wend,true,wcod⟩:Aa),1)=Ad (⟨Ag,Ak,Aj,Ah,An,Am⟩:Ac) (⟨wver,wstr,wrol,wbas,wlin,woff,wend,true,wcod⟩:Aa) record:=(by first|(exfalso;omega)|(unfold Ad;rw[if_pos (by omega)];done)|(unfold Ad;rw[if_neg (by omega),if_pos (by first|omega|(dsimp only;omega))];done)|(have hz:=Au (r:=record) (by omega) (by first|omega|(dsimp only;omega)) hA hB hC;exact hz)|(have hz:=Bb (r:=record) (by omega) (by first|omega|(dsimp only;omega)) hA hB (by first|omega|(dsimp only;omega));exact hz)|(have hz:=Be (r:=record) (by omega) (by first|omega|(dsimp only;omega)) hA (by first|omega|(dsimp only;omega));exact hz))
 rw[hr]at e
 simp only[Prod.mk.injEq,Ac.mk.injEq,Aa.mk.injEq]at e
 obtain⟨⟨rfl,rfl,rfl,rfl,rfl,rfl⟩,⟨rfl,rfl,rfl,rfl,rfl,rfl,rfl,rfl,rfl⟩,rfl⟩:=e
 refine hQ _ _ ?_
 exact .many (.inl rfl) rfl rfl (.agg (.d rfl (Al Aq A6) (.d rfl (Al As A5) (.d rfl (Al Av A4) (.d rfl (Al At A7) (.d rfl rfl (.d rfl rfl (.nil))))))) (.agg (.d rfl rfl (.d rfl rfl (.d rfl rfl (.d rfl rfl (.d rfl rfl (.ref rfl (Ap hwoff) (Bk hwoff hoboff) (.d rfl rfl (.d rfl rfl (.d rfl rfl (.nil)))))))))) (.d rfl rfl (.nil))))
 conv=>cbv
 refine .neq (fun h6=>?_) fun h6=>?_
 conv=>cbv
 have e:((⟨Ag,Ak,Aj,Ah,An,Am⟩:Ac),(⟨wver,wstr,wrol,wbas,wlin,woff,wend,true,wcod⟩:Aa),wcod)=Ad (⟨Ag,Ak,Aj,Ah,An,Am⟩:Ac) (⟨wver,wstr,wrol,wbas,wlin,woff,wend,true,wcod⟩:Aa) record:=(by first|(exfalso;omega)|(unfold Ad;rw[if_pos (by omega)];done)|(unfold Ad;rw[if_neg (by omega),if_pos (by first|omega|(dsimp only;omega))];done)|(have hz:=Au (r:=record) (by omega) (by first|omega|(dsimp only;omega)) hA hB hC;exact hz)|(have hz:=Bb (r:=record) (by omega) (by first|omega|(dsimp only;omega)) hA hB (by first|omega|(dsimp only;omega));exact hz)|(have hz:=Be (r:=record) (by omega) (by first|omega|(dsimp only;omega)) hA (by first|omega|(dsimp only;omega));exact hz))
 rw[hr]at e
 simp only[Prod.mk.injEq,Ac.mk.injEq,Aa.mk.injEq]at e
 obtain⟨⟨rfl,rfl,rfl,rfl,rfl,rfl⟩,⟨rfl,rfl,rfl,rfl,rfl,rfl,rfl,rfl,rfl⟩,rfl⟩:=e
 refine hQ _ _ ?_
 exact .many (.inl rfl) rfl rfl (.agg (.d rfl (Al Aq A6) (.d rfl (Al As A5) (.d rfl (Al Av A4) (.d rfl (Al At A7) (.d rfl rfl (.d rfl rfl (.nil))))))) (.agg (.d rfl rfl (.d rfl rfl (.d rfl rfl (.d rfl rfl (.d rfl rfl (.ref rfl (Ap hwoff) (Bk hwoff hoboff) (.d rfl rfl (.d rfl rfl (.d rfl rfl (.nil)))))))))) (.d rfl rfl (.nil))))
 conv=>cbv
 refine .go fun v7 ai=>?_
 conv=>cbv
 refine .geq (fun h8=>?_) fun h8=>?_
 conv=>cbv
 rcases hrl:Cz (⟨Ag,Ak,Aj,Ah,An,Am⟩:Ac) (⟨wver,wstr,wrol,wbas,wlin,woff,wend,true,wcod⟩:Aa)with⟨⟨rlnod,rlent,rlold,rlste,rlroo,rlnex⟩,⟨lwver,lwstr,lwrol,lwbas,lwlin,lwoff,lwend,lwope,lwcod⟩,rlc⟩
 obtain⟨hrA,hrB⟩:=Ur (d:=(⟨Ag,Ak,Aj,Ah,An,Am⟩:Ac)) (w:=(⟨wver,wstr,wrol,wbas,wlin,woff,wend,true,wcod⟩:Aa)) rfl (by first|omega|(dsimp only;omega)) hrl
 have hA:O8 (⟨Ag,Ak,Aj,Ah,An,Am⟩:Ac) (⟨wver,wstr,wrol,wbas,wlin,woff,wend,true,wcod⟩:Aa)=((⟨rlnod,rlent,rlold,rlste,rlroo,rlnex⟩:Ac),(⟨lwver,lwstr,lwrol,lwbas,lwlin,lwoff,lwend,lwope,lwcod⟩:Aa)):=by unfold O8;rw[if_pos ⟨rfl,by dsimp only;omega⟩,hrA,hrB]
 have hgA:=W9 (d:=(⟨Ag,Ak,Aj,Ah,An,Am⟩:Ac)) (w:=(⟨wver,wstr,wrol,wbas,wlin,woff,wend,true,wcod⟩:Aa)) aa
 have hwA:=Wj (d:=(⟨Ag,Ak,Aj,Ah,An,Am⟩:Ac)) (w:=(⟨wver,wstr,wrol,wbas,wlin,woff,wend,true,wcod⟩:Aa)) hw
 have hopA:lwcod=0→lwope=false:=fun h=>by have:=U9 (d:=(⟨Ag,Ak,Aj,Ah,An,Am⟩:Ac)) (w:=(⟨wver,wstr,wrol,wbas,wlin,woff,wend,true,wcod⟩:Aa)) (by first|omega|(dsimp only;omega)) (by rw[hrB];exact h);rw[hrB]at this;exact this
 rw[hrA]at hgA
 rw[hrB]at hwA
 have hsA:=hgA.2
 simp only[]at hsA
 obtain⟨ha_1,ha_2,ha_3,ha_4,-⟩:=id hwA
 try (simp only[]at ha_1 ha_2 ha_3 ha_4)
 generalize hrlnod:rlnod.map A8=xrlnod
 generalize hrlent:rlent.map Ae=xrlent
 generalize hrlold:rlold.map Ae=xrlold
 generalize hrlste:rlste.map cS=xrlste
 generalize hlwoff:lwoff.map cI=xlwoff
 refine .lntD hP (Xfb Aq As Av At hwoff aa (by omega) hw hk hrl hrlnod hrlent hrlold hrlste hlwoff) (.agg (.d rfl (.d rfl (.d rfl (.d rfl (.d rfl (.d rfl .nil)))))) (.agg (.d rfl (.d rfl (.d rfl (.d rfl (.d rfl (.ref rfl (Ap hwoff) (.d rfl (.d rfl (.d rfl .nil))))))))) .nil)) ?_
 conv=>cbv
 refine .eql (fun h10=>?_) fun h10=>?_
 conv=>cbv
 cases lwope
 conv=>cbv
 by_cases hbc:Mr (⟨rlnod,rlent,rlold,rlste,rlroo,rlnex⟩:Ac) (⟨lwver,lwstr,lwrol,lwbas,lwlin,lwoff,lwend,false,lwcod⟩:Aa)=0
 have hgB:=Nv (d:=(⟨rlnod,rlent,rlold,rlste,rlroo,rlnex⟩:Ac)) (w:=(⟨lwver,lwstr,lwrol,lwbas,lwlin,lwoff,lwend,false,lwcod⟩:Aa)) hgA.1 (by first|omega|(dsimp only;omega))
 have hwB:=Nx (d:=(⟨rlnod,rlent,rlold,rlste,rlroo,rlnex⟩:Ac)) (w:=(⟨lwver,lwstr,lwrol,lwbas,lwlin,lwoff,lwend,false,lwcod⟩:Aa)) hwA
 unfold Yv at hwB
 rw[if_pos hbc]at hwB
 have hB:appB ((⟨rlnod,rlent,rlold,rlste,rlroo,rlnex⟩:Ac),(⟨lwver,lwstr,lwrol,lwbas,lwlin,lwoff,lwend,false,lwcod⟩:Aa))=(Ko (⟨rlnod,rlent,rlold,rlste,rlroo,rlnex⟩:Ac) (⟨lwver,lwstr,lwrol,lwbas,lwlin,lwoff,lwend,false,lwcod⟩:Aa),(⟨lwver,lwstr,lwrol,lwbas,lwlin,[],24,true,lwcod⟩:Aa)):=by unfold appB;rw[if_pos ⟨by dsimp only;omega,rfl⟩];unfold Yv;rw[if_pos hbc]
 rcases hbd:Ko (⟨rlnod,rlent,rlold,rlste,rlroo,rlnex⟩:Ac) (⟨lwver,lwstr,lwrol,lwbas,lwlin,lwoff,lwend,false,lwcod⟩:Aa)with⟨bdnod,bdent,bdold,bdste,bdroo,bdnex⟩
 generalize hbdnod:bdnod.map A8=xbdnod
 generalize hbdent:bdent.map Ae=xbdent
 generalize hbdold:bdold.map Ae=xbdold
 generalize hbdste:bdste.map cS=xbdste
 rw[hbd]at hgB hB
 have hsB:=hgB.2
 simp only[]at hsB hwB
 obtain⟨hc_1,hc_2,hc_3,hc_4,-⟩:=id hwB
 try (simp only[]at hc_1 hc_2 hc_3 hc_4)
 refine .bx [11] [] hP (Mb hlwoff hrlnod hrlent hrlold hrlste hgA.1 (by first|omega|(dsimp only;omega)) hwA hk hbc hbd hbdnod hbdent hbdold hbdste) rfl rfl rfl rfl ?_
 conv=>cbv
 refine .eql (fun h12=>?_) fun h12=>?_
 conv=>cbv
 by_cases hlc:Li (⟨bdnod,bdent,bdold,bdste,bdroo,bdnex⟩:Ac) (⟨lwver,lwstr,lwrol,lwbas,lwlin,([]:List Int),24,true,lwcod⟩:Aa) record=0
 generalize hxo:(([]:List Int)++[24]).map cI=xo
 obtain⟨nxo,hnx⟩:∃m,m=([]:List Int).length+1:=⟨_,rfl⟩
 obtain⟨en,hen⟩:∃m,24+((Hj (⟨lwver,lwstr,lwrol,lwbas,lwlin,([]:List Int),24,true,lwcod⟩:Aa) record).size:Int)=m:=⟨_,rfl⟩
 have hC:H0 ((⟨bdnod,bdent,bdold,bdste,bdroo,bdnex⟩:Ac),(⟨lwver,lwstr,lwrol,lwbas,lwlin,([]:List Int),24,true,lwcod⟩:Aa)) record=(Kh (⟨bdnod,bdent,bdold,bdste,bdroo,bdnex⟩:Ac) (⟨lwver,lwstr,lwrol,lwbas,lwlin,([]:List Int),24,true,lwcod⟩:Aa) record,(⟨lwver,lwstr,lwrol,lwbas,lwlin,([]:List Int)++[24],en,true,lwcod⟩:Aa)):=by unfold H0;rw[if_pos (by first|omega|(dsimp only;omega))];unfold Rm;rw[if_pos hlc,hen]
 rcases hld:Kh (⟨bdnod,bdent,bdold,bdste,bdroo,bdnex⟩:Ac) (⟨lwver,lwstr,lwrol,lwbas,lwlin,([]:List Int),24,true,lwcod⟩:Aa) record with⟨ldnod,ldent,ldold,ldste,ldroo,ldnex⟩
 generalize hldnod:ldnod.map A8=xldnod
 generalize hldent:ldent.map Ae=xldent
 generalize hldold:ldold.map Ae=xldold
 generalize hldste:ldste.map cS=xldste
 rw[hld]at hC
 refine .bx [11,17] [17] hP (H5 rfl (by first|rfl|omega) hbdnod hbdent hbdold hbdste hgB.1 (by first|omega|(dsimp only;omega)) hwB hk (by omega) hlc hld hldnod hldent hldold hldste hxo hnx hen) rfl rfl rfl rfl ?_
 conv=>cbv
 have e:((⟨ldnod,ldent,ldold,ldste,ldroo,ldnex⟩:Ac),(⟨lwver,lwstr,lwrol,lwbas,lwlin,(([]:List Int)++[24]),en,true,lwcod⟩:Aa),lwcod)=Ad (⟨Ag,Ak,Aj,Ah,An,Am⟩:Ac) (⟨wver,wstr,wrol,wbas,wlin,woff,wend,true,wcod⟩:Aa) record:=(by first|(exfalso;omega)|(unfold Ad;rw[if_pos (by omega)];done)|(unfold Ad;rw[if_neg (by omega),if_pos (by first|omega|(dsimp only;omega))];done)|(have hz:=Au (r:=record) (by omega) (by first|omega|(dsimp only;omega)) hA hB hC;exact hz)|(have hz:=Bb (r:=record) (by omega) (by first|omega|(dsimp only;omega)) hA hB (by first|omega|(dsimp only;omega));exact hz)|(have hz:=Be (r:=record) (by omega) (by first|omega|(dsimp only;omega)) hA (by first|omega|(dsimp only;omega));exact hz))
 rw[hr]at e
 simp only[Prod.mk.injEq,Ac.mk.injEq,Aa.mk.injEq]at e
 obtain⟨⟨rfl,rfl,rfl,rfl,rfl,rfl⟩,⟨rfl,rfl,rfl,rfl,rfl,rfl,rfl,rfl,rfl⟩,rfl⟩:=e
 refine hQ _ _ ?_
 exact .many (.inl rfl) rfl rfl (.agg (.d rfl (Al hldnod A6) (.d rfl (Al hldent A5) (.d rfl (Al hldold A4) (.d rfl (Al hldste A7) (.d rfl rfl (.d rfl rfl (.nil))))))) (.agg (.d rfl rfl (.d rfl rfl (.d rfl rfl (.d rfl rfl (.d rfl rfl (.ref rfl (Ap hxo) (Bk hxo hoboff) (.d rfl rfl (.d rfl rfl (.d rfl rfl (.nil)))))))))) (.d rfl rfl (.nil))))
 have hC:H0 ((⟨bdnod,bdent,bdold,bdste,bdroo,bdnex⟩:Ac),(⟨lwver,lwstr,lwrol,lwbas,lwlin,([]:List Int),24,true,lwcod⟩:Aa)) record=(Kh (⟨bdnod,bdent,bdold,bdste,bdroo,bdnex⟩:Ac) (⟨lwver,lwstr,lwrol,lwbas,lwlin,([]:List Int),24,true,lwcod⟩:Aa) record,(⟨lwver,lwstr,lwrol,lwbas,lwlin,([]:List Int),24,true,2⟩:Aa)):=by unfold H0;rw[if_pos (by first|omega|(dsimp only;omega))];unfold Rm;rw[if_neg hlc]
 rcases hld:Kh (⟨bdnod,bdent,bdold,bdste,bdroo,bdnex⟩:Ac) (⟨lwver,lwstr,lwrol,lwbas,lwlin,([]:List Int),24,true,lwcod⟩:Aa) record with⟨ldnod,ldent,ldold,ldste,ldroo,ldnex⟩
 generalize hldnod:ldnod.map A8=xldnod
 generalize hldent:ldent.map Ae=xldent
 generalize hldold:ldold.map Ae=xldold
 generalize hldste:ldste.map cS=xldste
 rw[hld]at hC
 refine .bx [11,17] [17] hP (Ie rfl (by first|rfl|omega) hbdnod hbdent hbdold hbdste hgB.1 (by first|omega|(dsimp only;omega)) hwB hk (by omega) hlc hld hldnod hldent hldold hldste) rfl rfl rfl rfl ?_
 conv=>cbv
 have e:((⟨ldnod,ldent,ldold,ldste,ldroo,ldnex⟩:Ac),(⟨lwver,lwstr,lwrol,lwbas,lwlin,([]:List Int),24,true,2⟩:Aa),2)=Ad (⟨Ag,Ak,Aj,Ah,An,Am⟩:Ac) (⟨wver,wstr,wrol,wbas,wlin,woff,wend,true,wcod⟩:Aa) record:=(by first|(exfalso;omega)|(unfold Ad;rw[if_pos (by omega)];done)|(unfold Ad;rw[if_neg (by omega),if_pos (by first|omega|(dsimp only;omega))];done)|(have hz:=Au (r:=record) (by omega) (by first|omega|(dsimp only;omega)) hA hB hC;exact hz)|(have hz:=Bb (r:=record) (by omega) (by first|omega|(dsimp only;omega)) hA hB (by first|omega|(dsimp only;omega));exact hz)|(have hz:=Be (r:=record) (by omega) (by first|omega|(dsimp only;omega)) hA (by first|omega|(dsimp only;omega));exact hz))
 rw[hr]at e
 simp only[Prod.mk.injEq,Ac.mk.injEq,Aa.mk.injEq]at e
 obtain⟨⟨rfl,rfl,rfl,rfl,rfl,rfl⟩,⟨rfl,rfl,rfl,rfl,rfl,rfl,rfl,rfl,rfl⟩,rfl⟩:=e
 refine hQ _ _ ?_
 exact .many (.inl rfl) rfl rfl (.agg (.d rfl (Al hldnod A6) (.d rfl (Al hldent A5) (.d rfl (Al hldold A4) (.d rfl (Al hldste A7) (.d rfl rfl (.d rfl rfl (.nil))))))) (.agg (.d rfl rfl (.d rfl rfl (.d rfl rfl (.d rfl rfl (.d rfl rfl (.ref rfl rfl (by rw[←hoboff];rfl) (.d rfl rfl (.d rfl rfl (.d rfl rfl (.nil)))))))))) (.d rfl rfl (.nil))))
 conv=>cbv
 have e:((⟨bdnod,bdent,bdold,bdste,bdroo,bdnex⟩:Ac),(⟨lwver,lwstr,lwrol,lwbas,lwlin,([]:List Int),24,true,lwcod⟩:Aa),lwcod)=Ad (⟨Ag,Ak,Aj,Ah,An,Am⟩:Ac) (⟨wver,wstr,wrol,wbas,wlin,woff,wend,true,wcod⟩:Aa) record:=(by first|(exfalso;omega)|(unfold Ad;rw[if_pos (by omega)];done)|(unfold Ad;rw[if_neg (by omega),if_pos (by first|omega|(dsimp only;omega))];done)|(have hz:=Au (r:=record) (by omega) (by first|omega|(dsimp only;omega)) hA hB hC;exact hz)|(have hz:=Bb (r:=record) (by omega) (by first|omega|(dsimp only;omega)) hA hB (by first|omega|(dsimp only;omega));exact hz)|(have hz:=Be (r:=record) (by omega) (by first|omega|(dsimp only;omega)) hA (by first|omega|(dsimp only;omega));exact hz))
 rw[hr]at e
 simp only[Prod.mk.injEq,Ac.mk.injEq,Aa.mk.injEq]at e
 obtain⟨⟨rfl,rfl,rfl,rfl,rfl,rfl⟩,⟨rfl,rfl,rfl,rfl,rfl,rfl,rfl,rfl,rfl⟩,rfl⟩:=e
 refine hQ _ _ ?_
 exact .many (.inl rfl) rfl rfl (.agg (.d rfl (Al hbdnod A6) (.d rfl (Al hbdent A5) (.d rfl (Al hbdold A4) (.d rfl (Al hbdste A7) (.d rfl rfl (.d rfl rfl (.nil))))))) (.agg (.d rfl rfl (.d rfl rfl (.d rfl rfl (.d rfl rfl (.d rfl rfl (.ref rfl rfl (by rw[←hoboff];rfl) (.d rfl rfl (.d rfl rfl (.d rfl rfl (.nil)))))))))) (.d rfl rfl (.nil))))
 obtain⟨bc,hbe⟩:∃c,Mr (⟨rlnod,rlent,rlold,rlste,rlroo,rlnex⟩:Ac) (⟨lwver,lwstr,lwrol,lwbas,lwlin,lwoff,lwend,false,lwcod⟩:Aa)=c:=⟨_,rfl⟩
 rw[hbe]at hbc
 have hB:appB ((⟨rlnod,rlent,rlold,rlste,rlroo,rlnex⟩:Ac),(⟨lwver,lwstr,lwrol,lwbas,lwlin,lwoff,lwend,false,lwcod⟩:Aa))=(Ko (⟨rlnod,rlent,rlold,rlste,rlroo,rlnex⟩:Ac) (⟨lwver,lwstr,lwrol,lwbas,lwlin,lwoff,lwend,false,lwcod⟩:Aa),(⟨lwver,lwstr,lwrol,lwbas,lwlin,lwoff,lwend,false,bc⟩:Aa)):=by unfold appB;rw[if_pos ⟨by dsimp only;omega,rfl⟩];unfold Yv;rw[hbe,if_neg hbc]
 rcases hbd:Ko (⟨rlnod,rlent,rlold,rlste,rlroo,rlnex⟩:Ac) (⟨lwver,lwstr,lwrol,lwbas,lwlin,lwoff,lwend,false,lwcod⟩:Aa)with⟨bdnod,bdent,bdold,bdste,bdroo,bdnex⟩
 generalize hbdnod:bdnod.map A8=xbdnod
 generalize hbdent:bdent.map Ae=xbdent
 generalize hbdold:bdold.map Ae=xbdold
 generalize hbdste:bdste.map cS=xbdste
 rw[hbd]at hB
 refine .bx [11] [] hP (Me hlwoff hrlnod hrlent hrlold hrlste hgA.1 (by first|omega|(dsimp only;omega)) hwA hk hbe hbc hbd hbdnod hbdent hbdold hbdste) rfl rfl rfl rfl ?_
 conv=>cbv
 refine .eql (fun h12=>?_) fun h12=>?_
 conv=>cbv
 first|(exfalso;omega)|exact absurd (hopA (by omega)) (by decide)
 conv=>cbv
 have e:((⟨bdnod,bdent,bdold,bdste,bdroo,bdnex⟩:Ac),(⟨lwver,lwstr,lwrol,lwbas,lwlin,lwoff,lwend,false,bc⟩:Aa),bc)=Ad (⟨Ag,Ak,Aj,Ah,An,Am⟩:Ac) (⟨wver,wstr,wrol,wbas,wlin,woff,wend,true,wcod⟩:Aa) record:=(by first|(exfalso;omega)|(unfold Ad;rw[if_pos (by omega)];done)|(unfold Ad;rw[if_neg (by omega),if_pos (by first|omega|(dsimp only;omega))];done)|(have hz:=Au (r:=record) (by omega) (by first|omega|(dsimp only;omega)) hA hB hC;exact hz)|(have hz:=Bb (r:=record) (by omega) (by first|omega|(dsimp only;omega)) hA hB (by first|omega|(dsimp only;omega));exact hz)|(have hz:=Be (r:=record) (by omega) (by first|omega|(dsimp only;omega)) hA (by first|omega|(dsimp only;omega));exact hz))
 rw[hr]at e
 simp only[Prod.mk.injEq,Ac.mk.injEq,Aa.mk.injEq]at e
 obtain⟨⟨rfl,rfl,rfl,rfl,rfl,rfl⟩,⟨rfl,rfl,rfl,rfl,rfl,rfl,rfl,rfl,rfl⟩,rfl⟩:=e
 refine hQ _ _ ?_
 exact .many (.inl rfl) rfl rfl (.agg (.d rfl (Al hbdnod A6) (.d rfl (Al hbdent A5) (.d rfl (Al hbdold A4) (.d rfl (Al hbdste A7) (.d rfl rfl (.d rfl rfl (.nil))))))) (.agg (.d rfl rfl (.d rfl rfl (.d rfl rfl (.d rfl rfl (.d rfl rfl (.d rfl (Al hlwoff hoboff) (.d rfl rfl (.d rfl rfl (.d rfl rfl (.nil)))))))))) (.d rfl rfl (.nil))))
 conv=>cbv
 refine .eql (fun h11=>?_) fun h11=>?_
 conv=>cbv
 first|(exfalso;omega)|exact absurd (hopA (by omega)) (by decide)
 conv=>cbv
 have e:((⟨rlnod,rlent,rlold,rlste,rlroo,rlnex⟩:Ac),(⟨lwver,lwstr,lwrol,lwbas,lwlin,lwoff,lwend,true,lwcod⟩:Aa),lwcod)=Ad (⟨Ag,Ak,Aj,Ah,An,Am⟩:Ac) (⟨wver,wstr,wrol,wbas,wlin,woff,wend,true,wcod⟩:Aa) record:=(by first|(exfalso;omega)|(unfold Ad;rw[if_pos (by omega)];done)|(unfold Ad;rw[if_neg (by omega),if_pos (by first|omega|(dsimp only;omega))];done)|(have hz:=Au (r:=record) (by omega) (by first|omega|(dsimp only;omega)) hA hB hC;exact hz)|(have hz:=Bb (r:=record) (by omega) (by first|omega|(dsimp only;omega)) hA hB (by first|omega|(dsimp only;omega));exact hz)|(have hz:=Be (r:=record) (by omega) (by first|omega|(dsimp only;omega)) hA (by first|omega|(dsimp only;omega));exact hz))
 rw[hr]at e
 simp only[Prod.mk.injEq,Ac.mk.injEq,Aa.mk.injEq]at e
 obtain⟨⟨rfl,rfl,rfl,rfl,rfl,rfl⟩,⟨rfl,rfl,rfl,rfl,rfl,rfl,rfl,rfl,rfl⟩,rfl⟩:=e
 refine hQ _ _ ?_
 exact .many (.inl rfl) rfl rfl (.agg (.d rfl (Al hrlnod A6) (.d rfl (Al hrlent A5) (.d rfl (Al hrlold A4) (.d rfl (Al hrlste A7) (.d rfl rfl (.d rfl rfl (.nil))))))) (.agg (.d rfl rfl (.d rfl rfl (.d rfl rfl (.d rfl rfl (.d rfl rfl (.d rfl (Al hlwoff hoboff) (.d rfl rfl (.d rfl rfl (.d rfl rfl (.nil)))))))))) (.d rfl rfl (.nil))))
 conv=>cbv
 refine .eql (fun h11=>?_) fun h11=>?_
 conv=>cbv
 first|(exfalso;omega)|exact absurd (hopA (by omega)) (by decide)
 conv=>cbv
 have e:((⟨rlnod,rlent,rlold,rlste,rlroo,rlnex⟩:Ac),(⟨lwver,lwstr,lwrol,lwbas,lwlin,lwoff,lwend,lwope,lwcod⟩:Aa),lwcod)=Ad (⟨Ag,Ak,Aj,Ah,An,Am⟩:Ac) (⟨wver,wstr,wrol,wbas,wlin,woff,wend,true,wcod⟩:Aa) record:=(by first|(exfalso;omega)|(unfold Ad;rw[if_pos (by omega)];done)|(unfold Ad;rw[if_neg (by omega),if_pos (by first|omega|(dsimp only;omega))];done)|(have hz:=Au (r:=record) (by omega) (by first|omega|(dsimp only;omega)) hA hB hC;exact hz)|(have hz:=Bb (r:=record) (by omega) (by first|omega|(dsimp only;omega)) hA hB (by first|omega|(dsimp only;omega));exact hz)|(have hz:=Be (r:=record) (by omega) (by first|omega|(dsimp only;omega)) hA (by first|omega|(dsimp only;omega));exact hz))
 rw[hr]at e
 simp only[Prod.mk.injEq,Ac.mk.injEq,Aa.mk.injEq]at e
 obtain⟨⟨rfl,rfl,rfl,rfl,rfl,rfl⟩,⟨rfl,rfl,rfl,rfl,rfl,rfl,rfl,rfl,rfl⟩,rfl⟩:=e
 refine hQ _ _ ?_
 exact .many (.inl rfl) rfl rfl (.agg (.d rfl (Al hrlnod A6) (.d rfl (Al hrlent A5) (.d rfl (Al hrlold A4) (.d rfl (Al hrlste A7) (.d rfl rfl (.d rfl rfl (.nil))))))) (.agg (.d rfl rfl (.d rfl rfl (.d rfl rfl (.d rfl rfl (.d rfl rfl (.d rfl (Al hlwoff hoboff) (.d rfl rfl (.d rfl rfl (.d rfl rfl (.nil)))))))))) (.d rfl rfl (.nil))))
 conv=>cbv
 refine .eql (fun h9=>?_) fun h9=>?_
 conv=>cbv
 refine .eql (fun h10=>?_) fun h10=>?_
 conv=>cbv
 have hA:O8 (⟨Ag,Ak,Aj,Ah,An,Am⟩:Ac) (⟨wver,wstr,wrol,wbas,wlin,woff,wend,true,wcod⟩:Aa)=((⟨Ag,Ak,Aj,Ah,An,Am⟩:Ac),(⟨wver,wstr,wrol,wbas,wlin,woff,wend,true,wcod⟩:Aa)):=by unfold O8;rw[if_neg (by first|(simp;done)|(exfalso;omega)|(simp;omega))]
 have hB:appB ((⟨Ag,Ak,Aj,Ah,An,Am⟩:Ac),(⟨wver,wstr,wrol,wbas,wlin,woff,wend,true,wcod⟩:Aa))=((⟨Ag,Ak,Aj,Ah,An,Am⟩:Ac),(⟨wver,wstr,wrol,wbas,wlin,woff,wend,true,wcod⟩:Aa)):=by unfold appB;rw[if_neg (by first|(simp;done)|(exfalso;omega)|(simp;omega))]
 by_cases hlc:Li (⟨Ag,Ak,Aj,Ah,An,Am⟩:Ac) (⟨wver,wstr,wrol,wbas,wlin,woff,wend,true,wcod⟩:Aa) record=0
 generalize hxo:(woff++[wend]).map cI=xo
 obtain⟨nxo,hnx⟩:∃m,m=woff.length+1:=⟨_,rfl⟩
 obtain⟨en,hen⟩:∃m,wend+((Hj (⟨wver,wstr,wrol,wbas,wlin,woff,wend,true,wcod⟩:Aa) record).size:Int)=m:=⟨_,rfl⟩
 have hC:H0 ((⟨Ag,Ak,Aj,Ah,An,Am⟩:Ac),(⟨wver,wstr,wrol,wbas,wlin,woff,wend,true,wcod⟩:Aa)) record=(Kh (⟨Ag,Ak,Aj,Ah,An,Am⟩:Ac) (⟨wver,wstr,wrol,wbas,wlin,woff,wend,true,wcod⟩:Aa) record,(⟨wver,wstr,wrol,wbas,wlin,woff++[wend],en,true,wcod⟩:Aa)):=by unfold H0;rw[if_pos (by first|omega|(dsimp only;omega))];unfold Rm;rw[if_pos hlc,hen]
 rcases hld:Kh (⟨Ag,Ak,Aj,Ah,An,Am⟩:Ac) (⟨wver,wstr,wrol,wbas,wlin,woff,wend,true,wcod⟩:Aa) record with⟨ldnod,ldent,ldold,ldste,ldroo,ldnex⟩
 generalize hldnod:ldnod.map A8=xldnod
 generalize hldent:ldent.map Ae=xldent
 generalize hldold:ldold.map Ae=xldold
 generalize hldste:ldste.map cS=xldste
 rw[hld]at hC
 refine .bx [11,9] [9] hP (H5 hwoff (by first|rfl|omega) Aq As Av At aa (by first|omega|(dsimp only;omega)) hw hk (by omega) hlc hld hldnod hldent hldold hldste hxo hnx hen) rfl rfl rfl rfl ?_
 conv=>cbv
 have e:((⟨ldnod,ldent,ldold,ldste,ldroo,ldnex⟩:Ac),(⟨wver,wstr,wrol,wbas,wlin,woff++[wend],en,true,wcod⟩:Aa),wcod)=Ad (⟨Ag,Ak,Aj,Ah,An,Am⟩:Ac) (⟨wver,wstr,wrol,wbas,wlin,woff,wend,true,wcod⟩:Aa) record:=(by first|(exfalso;omega)|(unfold Ad;rw[if_pos (by omega)];done)|(unfold Ad;rw[if_neg (by omega),if_pos (by first|omega|(dsimp only;omega))];done)|(have hz:=Au (r:=record) (by omega) (by first|omega|(dsimp only;omega)) hA hB hC;exact hz)|(have hz:=Bb (r:=record) (by omega) (by first|omega|(dsimp only;omega)) hA hB (by first|omega|(dsimp only;omega));exact hz)|(have hz:=Be (r:=record) (by omega) (by first|omega|(dsimp only;omega)) hA (by first|omega|(dsimp only;omega));exact hz))
 rw[hr]at e
 simp only[Prod.mk.injEq,Ac.mk.injEq,Aa.mk.injEq]at e
 obtain⟨⟨rfl,rfl,rfl,rfl,rfl,rfl⟩,⟨rfl,rfl,rfl,rfl,rfl,rfl,rfl,rfl,rfl⟩,rfl⟩:=e
 refine hQ _ _ ?_
 exact .many (.inl rfl) rfl rfl (.agg (.d rfl (Al hldnod A6) (.d rfl (Al hldent A5) (.d rfl (Al hldold A4) (.d rfl (Al hldste A7) (.d rfl rfl (.d rfl rfl (.nil))))))) (.agg (.d rfl rfl (.d rfl rfl (.d rfl rfl (.d rfl rfl (.d rfl rfl (.ref rfl (Ap hxo) (Bk hxo hoboff) (.d rfl rfl (.d rfl rfl (.d rfl rfl (.nil)))))))))) (.d rfl rfl (.nil))))
 have hC:H0 ((⟨Ag,Ak,Aj,Ah,An,Am⟩:Ac),(⟨wver,wstr,wrol,wbas,wlin,woff,wend,true,wcod⟩:Aa)) record=(Kh (⟨Ag,Ak,Aj,Ah,An,Am⟩:Ac) (⟨wver,wstr,wrol,wbas,wlin,woff,wend,true,wcod⟩:Aa) record,(⟨wver,wstr,wrol,wbas,wlin,woff,wend,true,2⟩:Aa)):=by unfold H0;rw[if_pos (by first|omega|(dsimp only;omega))];unfold Rm;rw[if_neg hlc]
 rcases hld:Kh (⟨Ag,Ak,Aj,Ah,An,Am⟩:Ac) (⟨wver,wstr,wrol,wbas,wlin,woff,wend,true,wcod⟩:Aa) record with⟨ldnod,ldent,ldold,ldste,ldroo,ldnex⟩
 generalize hldnod:ldnod.map A8=xldnod
 generalize hldent:ldent.map Ae=xldent
 generalize hldold:ldold.map Ae=xldold
 generalize hldste:ldste.map cS=xldste
 rw[hld]at hC
 refine .bx [11,9] [9] hP (Ie hwoff (by first|rfl|omega) Aq As Av At aa (by first|omega|(dsimp only;omega)) hw hk (by omega) hlc hld hldnod hldent hldold hldste) rfl rfl rfl rfl ?_
 conv=>cbv
 have e:((⟨ldnod,ldent,ldold,ldste,ldroo,ldnex⟩:Ac),(⟨wver,wstr,wrol,wbas,wlin,woff,wend,true,2⟩:Aa),2)=Ad (⟨Ag,Ak,Aj,Ah,An,Am⟩:Ac) (⟨wver,wstr,wrol,wbas,wlin,woff,wend,true,wcod⟩:Aa) record:=(by first|(exfalso;omega)|(unfold Ad;rw[if_pos (by omega)];done)|(unfold Ad;rw[if_neg (by omega),if_pos (by first|omega|(dsimp only;omega))];done)|(have hz:=Au (r:=record) (by omega) (by first|omega|(dsimp only;omega)) hA hB hC;exact hz)|(have hz:=Bb (r:=record) (by omega) (by first|omega|(dsimp only;omega)) hA hB (by first|omega|(dsimp only;omega));exact hz)|(have hz:=Be (r:=record) (by omega) (by first|omega|(dsimp only;omega)) hA (by first|omega|(dsimp only;omega));exact hz))
 rw[hr]at e
 simp only[Prod.mk.injEq,Ac.mk.injEq,Aa.mk.injEq]at e
 obtain⟨⟨rfl,rfl,rfl,rfl,rfl,rfl⟩,⟨rfl,rfl,rfl,rfl,rfl,rfl,rfl,rfl,rfl⟩,rfl⟩:=e
 refine hQ _ _ ?_
 exact .many (.inl rfl) rfl rfl (.agg (.d rfl (Al hldnod A6) (.d rfl (Al hldent A5) (.d rfl (Al hldold A4) (.d rfl (Al hldste A7) (.d rfl rfl (.d rfl rfl (.nil))))))) (.agg (.d rfl rfl (.d rfl rfl (.d rfl rfl (.d rfl rfl (.d rfl rfl (.ref rfl (Ap hwoff) (Bk hwoff hoboff) (.d rfl rfl (.d rfl rfl (.d rfl rfl (.nil)))))))))) (.d rfl rfl (.nil))))
 conv=>cbv
 have e:((⟨Ag,Ak,Aj,Ah,An,Am⟩:Ac),(⟨wver,wstr,wrol,wbas,wlin,woff,wend,true,wcod⟩:Aa),wcod)=Ad (⟨Ag,Ak,Aj,Ah,An,Am⟩:Ac) (⟨wver,wstr,wrol,wbas,wlin,woff,wend,true,wcod⟩:Aa) record:=(by first|(exfalso;omega)|(unfold Ad;rw[if_pos (by omega)];done)|(unfold Ad;rw[if_neg (by omega),if_pos (by first|omega|(dsimp only;omega))];done)|(have hz:=Au (r:=record) (by omega) (by first|omega|(dsimp only;omega)) hA hB hC;exact hz)|(have hz:=Bb (r:=record) (by omega) (by first|omega|(dsimp only;omega)) hA hB (by first|omega|(dsimp only;omega));exact hz)|(have hz:=Be (r:=record) (by omega) (by first|omega|(dsimp only;omega)) hA (by first|omega|(dsimp only;omega));exact hz))
 rw[hr]at e
 simp only[Prod.mk.injEq,Ac.mk.injEq,Aa.mk.injEq]at e
 obtain⟨⟨rfl,rfl,rfl,rfl,rfl,rfl⟩,⟨rfl,rfl,rfl,rfl,rfl,rfl,rfl,rfl,rfl⟩,rfl⟩:=e
 refine hQ _ _ ?_
 exact .many (.inl rfl) rfl rfl (.agg (.d rfl (Al Aq A6) (.d rfl (Al As A5) (.d rfl (Al Av A4) (.d rfl (Al At A7) (.d rfl rfl (.d rfl rfl (.nil))))))) (.agg (.d rfl rfl (.d rfl rfl (.d rfl rfl (.d rfl rfl (.d rfl rfl (.ref rfl (Ap hwoff) (Bk hwoff hoboff) (.d rfl rfl (.d rfl rfl (.d rfl rfl (.nil)))))))))) (.d rfl rfl (.nil))))
 conv=>cbv
 refine .eql (fun h10=>?_) fun h10=>?_
 conv=>cbv
 have hA:O8 (⟨Ag,Ak,Aj,Ah,An,Am⟩:Ac) (⟨wver,wstr,wrol,wbas,wlin,woff,wend,true,wcod⟩:Aa)=((⟨Ag,Ak,Aj,Ah,An,Am⟩:Ac),(⟨wver,wstr,wrol,wbas,wlin,woff,wend,true,wcod⟩:Aa)):=by unfold O8;rw[if_neg (by first|(simp;done)|(exfalso;omega)|(simp;omega))]
 have hB:appB ((⟨Ag,Ak,Aj,Ah,An,Am⟩:Ac),(⟨wver,wstr,wrol,wbas,wlin,woff,wend,true,wcod⟩:Aa))=((⟨Ag,Ak,Aj,Ah,An,Am⟩:Ac),(⟨wver,wstr,wrol,wbas,wlin,woff,wend,true,wcod⟩:Aa)):=by unfold appB;rw[if_neg (by first|(simp;done)|(exfalso;omega)|(simp;omega))]
 by_cases hlc:Li (⟨Ag,Ak,Aj,Ah,An,Am⟩:Ac) (⟨wver,wstr,wrol,wbas,wlin,woff,wend,true,wcod⟩:Aa) record=0
 generalize hxo:(woff++[wend]).map cI=xo
 obtain⟨nxo,hnx⟩:∃m,m=woff.length+1:=⟨_,rfl⟩
 obtain⟨en,hen⟩:∃m,wend+((Hj (⟨wver,wstr,wrol,wbas,wlin,woff,wend,true,wcod⟩:Aa) record).size:Int)=m:=⟨_,rfl⟩
 have hC:H0 ((⟨Ag,Ak,Aj,Ah,An,Am⟩:Ac),(⟨wver,wstr,wrol,wbas,wlin,woff,wend,true,wcod⟩:Aa)) record=(Kh (⟨Ag,Ak,Aj,Ah,An,Am⟩:Ac) (⟨wver,wstr,wrol,wbas,wlin,woff,wend,true,wcod⟩:Aa) record,(⟨wver,wstr,wrol,wbas,wlin,woff++[wend],en,true,wcod⟩:Aa)):=by unfold H0;rw[if_pos (by first|omega|(dsimp only;omega))];unfold Rm;rw[if_pos hlc,hen]
 rcases hld:Kh (⟨Ag,Ak,Aj,Ah,An,Am⟩:Ac) (⟨wver,wstr,wrol,wbas,wlin,woff,wend,true,wcod⟩:Aa) record with⟨ldnod,ldent,ldold,ldste,ldroo,ldnex⟩
 generalize hldnod:ldnod.map A8=xldnod
 generalize hldent:ldent.map Ae=xldent
 generalize hldold:ldold.map Ae=xldold
 generalize hldste:ldste.map cS=xldste
 rw[hld]at hC
 refine .bx [11,9] [9] hP (H5 hwoff (by first|rfl|omega) Aq As Av At aa (by first|omega|(dsimp only;omega)) hw hk (by omega) hlc hld hldnod hldent hldold hldste hxo hnx hen) rfl rfl rfl rfl ?_
 conv=>cbv
 have e:((⟨ldnod,ldent,ldold,ldste,ldroo,ldnex⟩:Ac),(⟨wver,wstr,wrol,wbas,wlin,woff++[wend],en,true,wcod⟩:Aa),wcod)=Ad (⟨Ag,Ak,Aj,Ah,An,Am⟩:Ac) (⟨wver,wstr,wrol,wbas,wlin,woff,wend,true,wcod⟩:Aa) record:=(by first|(exfalso;omega)|(unfold Ad;rw[if_pos (by omega)];done)|(unfold Ad;rw[if_neg (by omega),if_pos (by first|omega|(dsimp only;omega))];done)|(have hz:=Au (r:=record) (by omega) (by first|omega|(dsimp only;omega)) hA hB hC;exact hz)|(have hz:=Bb (r:=record) (by omega) (by first|omega|(dsimp only;omega)) hA hB (by first|omega|(dsimp only;omega));exact hz)|(have hz:=Be (r:=record) (by omega) (by first|omega|(dsimp only;omega)) hA (by first|omega|(dsimp only;omega));exact hz))
 rw[hr]at e
 simp only[Prod.mk.injEq,Ac.mk.injEq,Aa.mk.injEq]at e
 obtain⟨⟨rfl,rfl,rfl,rfl,rfl,rfl⟩,⟨rfl,rfl,rfl,rfl,rfl,rfl,rfl,rfl,rfl⟩,rfl⟩:=e
 refine hQ _ _ ?_
 exact .many (.inl rfl) rfl rfl (.agg (.d rfl (Al hldnod A6) (.d rfl (Al hldent A5) (.d rfl (Al hldold A4) (.d rfl (Al hldste A7) (.d rfl rfl (.d rfl rfl (.nil))))))) (.agg (.d rfl rfl (.d rfl rfl (.d rfl rfl (.d rfl rfl (.d rfl rfl (.ref rfl (Ap hxo) (Bk hxo hoboff) (.d rfl rfl (.d rfl rfl (.d rfl rfl (.nil)))))))))) (.d rfl rfl (.nil))))
 have hC:H0 ((⟨Ag,Ak,Aj,Ah,An,Am⟩:Ac),(⟨wver,wstr,wrol,wbas,wlin,woff,wend,true,wcod⟩:Aa)) record=(Kh (⟨Ag,Ak,Aj,Ah,An,Am⟩:Ac) (⟨wver,wstr,wrol,wbas,wlin,woff,wend,true,wcod⟩:Aa) record,(⟨wver,wstr,wrol,wbas,wlin,woff,wend,true,2⟩:Aa)):=by unfold H0;rw[if_pos (by first|omega|(dsimp only;omega))];unfold Rm;rw[if_neg hlc]
 rcases hld:Kh (⟨Ag,Ak,Aj,Ah,An,Am⟩:Ac) (⟨wver,wstr,wrol,wbas,wlin,woff,wend,true,wcod⟩:Aa) record with⟨ldnod,ldent,ldold,ldste,ldroo,ldnex⟩
 generalize hldnod:ldnod.map A8=xldnod
 generalize hldent:ldent.map Ae=xldent
 generalize hldold:ldold.map Ae=xldold
 generalize hldste:ldste.map cS=xldste
 rw[hld]at hC
 refine .bx [11,9] [9] hP (Ie hwoff (by first|rfl|omega) Aq As Av At aa (by first|omega|(dsimp only;omega)) hw hk (by omega) hlc hld hldnod hldent hldold hldste) rfl rfl rfl rfl ?_
 conv=>cbv
 have e:((⟨ldnod,ldent,ldold,ldste,ldroo,ldnex⟩:Ac),(⟨wver,wstr,wrol,wbas,wlin,woff,wend,true,2⟩:Aa),2)=Ad (⟨Ag,Ak,Aj,Ah,An,Am⟩:Ac) (⟨wver,wstr,wrol,wbas,wlin,woff,wend,true,wcod⟩:Aa) record:=(by first|(exfalso;omega)|(unfold Ad;rw[if_pos (by omega)];done)|(unfold Ad;rw[if_neg (by omega),if_pos (by first|omega|(dsimp only;omega))];done)|(have hz:=Au (r:=record) (by omega) (by first|omega|(dsimp only;omega)) hA hB hC;exact hz)|(have hz:=Bb (r:=record) (by omega) (by first|omega|(dsimp only;omega)) hA hB (by first|omega|(dsimp only;omega));exact hz)|(have hz:=Be (r:=record) (by omega) (by first|omega|(dsimp only;omega)) hA (by first|omega|(dsimp only;omega));exact hz))
 rw[hr]at e
 simp only[Prod.mk.injEq,Ac.mk.injEq,Aa.mk.injEq]at e
 obtain⟨⟨rfl,rfl,rfl,rfl,rfl,rfl⟩,⟨rfl,rfl,rfl,rfl,rfl,rfl,rfl,rfl,rfl⟩,rfl⟩:=e
 refine hQ _ _ ?_
 exact .many (.inl rfl) rfl rfl (.agg (.d rfl (Al hldnod A6) (.d rfl (Al hldent A5) (.d rfl (Al hldold A4) (.d rfl (Al hldste A7) (.d rfl rfl (.d rfl rfl (.nil))))))) (.agg (.d rfl rfl (.d rfl rfl (.d rfl rfl (.d rfl rfl (.d rfl rfl (.ref rfl (Ap hwoff) (Bk hwoff hoboff) (.d rfl rfl (.d rfl rfl (.d rfl rfl (.nil)))))))))) (.d rfl rfl (.nil))))
 conv=>cbv
 have e:((⟨Ag,Ak,Aj,Ah,An,Am⟩:Ac),(⟨wver,wstr,wrol,wbas,wlin,woff,wend,true,wcod⟩:Aa),wcod)=Ad (⟨Ag,Ak,Aj,Ah,An,Am⟩:Ac) (⟨wver,wstr,wrol,wbas,wlin,woff,wend,true,wcod⟩:Aa) record:=(by first|(exfalso;omega)|(unfold Ad;rw[if_pos (by omega)];done)|(unfold Ad;rw[if_neg (by omega),if_pos (by first|omega|(dsimp only;omega))];done)|(have hz:=Au (r:=record) (by omega) (by first|omega|(dsimp only;omega)) hA hB hC;exact hz)|(have hz:=Bb (r:=record) (by omega) (by first|omega|(dsimp only;omega)) hA hB (by first|omega|(dsimp only;omega));exact hz)|(have hz:=Be (r:=record) (by omega) (by first|omega|(dsimp only;omega)) hA (by first|omega|(dsimp only;omega));exact hz))
 rw[hr]at e
 simp only[Prod.mk.injEq,Ac.mk.injEq,Aa.mk.injEq]at e
 obtain⟨⟨rfl,rfl,rfl,rfl,rfl,rfl⟩,⟨rfl,rfl,rfl,rfl,rfl,rfl,rfl,rfl,rfl⟩,rfl⟩:=e
 refine hQ _ _ ?_
 exact .many (.inl rfl) rfl rfl (.agg (.d rfl (Al Aq A6) (.d rfl (Al As A5) (.d rfl (Al Av A4) (.d rfl (Al At A7) (.d rfl rfl (.d rfl rfl (.nil))))))) (.agg (.d rfl rfl (.d rfl rfl (.d rfl rfl (.d rfl rfl (.d rfl rfl (.ref rfl (Ap hwoff) (Bk hwoff hoboff) (.d rfl rfl (.d rfl rfl (.d rfl rfl (.nil)))))))))) (.d rfl rfl (.nil))))
theorem XaP(Aq:Ag.map A8=Bo)(As:Ak.map Ae=Bm)(Av:Aj.map Ae=Bl)(At:Ah.map cS=Bn)(hwoff:woff.map cI=xwoff)(a5:Is (⟨Ag,Ak,Aj,Ah,An,Am⟩:Ac))(hst:Ah.length<800000000)(hw:Pe k (⟨wver,wstr,wrol,wbas,wlin,woff,wend,wope,wcod⟩:Aa))(hk:k≤1000000)(hr:Ad (⟨Ag,Ak,Aj,Ah,An,Am⟩:Ac) (⟨wver,wstr,wrol,wbas,wlin,woff,wend,wope,wcod⟩:Aa) record=(⟨Ih,In,Ik,Ig,Ia,H7⟩,⟨obver,obstr,obrol,obbas,oblin,oboff,obend,obope,obcod⟩,oc))(A6:Ih.map A8=Ey)(A5:In.map Ae=Ez)(A4:Ik.map Ae=Eu)(A7:Ig.map cS=Ex)(hoboff:oboff.map cI=xoboff):Fn Tryz.prog 76 [.agg [.d (.row 3 Bo),.d (.row 2 Bm),.d (.row 2 Bl),.d (.row 1 Bn),I An,I Am],.agg [I wver,I wstr,I wrol,I wbas,I wlin,.d (.row 1 xwoff),I wend,B wope,I wcod],S record] [] ⟨.tup [.agg [.d (.row 3 Ey),.d (.row 2 Ez),.d (.row 2 Eu),.d (.row 1 Ex),I Ia,I H7],.agg [I obver,I obstr,I obrol,I obbas,I oblin,.d (.row 1 xoboff),I obend,B obope,I obcod],I oc],[],[]⟩:=by
 refine Fn.go XcB Tryz.func76 fun P hP Q hQ=>?_
 conv=>cbv
 have d7:Ag.length≤1000000000:=a5.1.1
 have d8:Ak.length≤1000000000:=a5.1.2.2.1
 have d9:Aj.length≤1000000000:=a5.1.2.2.2.2.1
 have dx:=Pu hw hk
 simp only[]at dx
 have h_hb_:=hw
 obtain⟨hb_1,hb_2,hb_3,hb_4,-⟩:=h_hb_
 try (simp only[]at hb_1 hb_2 hb_3 hb_4)
 refine .dd hP (Uz Aq As Av At (by omega) (by omega) (by omega) (by omega)) ?_
 conv=>cbv
 cases wope
 refine .dd hP (Ul hwoff (by omega)) ?_
 conv=>cbv
 refine .go fun v3 ea=>?_
 conv=>cbv
 refine .gtr (fun h4=>?_) fun h4=>?_
 conv=>cbv
 have e:((⟨Ag,Ak,Aj,Ah,An,Am⟩:Ac),(⟨wver,wstr,wrol,wbas,wlin,woff,wend,false,wcod⟩:Aa),1)=Ad (⟨Ag,Ak,Aj,Ah,An,Am⟩:Ac) (⟨wver,wstr,wrol,wbas,wlin,woff,wend,false,wcod⟩:Aa) record:=(by first|(exfalso;omega)|(unfold Ad;rw[if_pos (by omega)];done)|(unfold Ad;rw[if_neg (by omega),if_pos (by first|omega|(dsimp only;omega))];done)|(have hz:=Au (r:=record) (by omega) (by first|omega|(dsimp only;omega)) hA hB hC;exact hz)|(have hz:=Bb (r:=record) (by omega) (by first|omega|(dsimp only;omega)) hA hB (by first|omega|(dsimp only;omega));exact hz)|(have hz:=Be (r:=record) (by omega) (by first|omega|(dsimp only;omega)) hA (by first|omega|(dsimp only;omega));exact hz)|(have hz:=Au (r:=record) (by omega) (by first|omega|(dsimp only;omega)) hA hB hC;obtain rfl:wcod=0:=(by omega);exact hz)|(have hz:=Au (r:=record) (by omega) (by first|omega|(dsimp only;omega)) hA hB hC;obtain rfl:lwcod=0:=(by omega);exact hz))
 rw[hr]at e
 simp only[Prod.mk.injEq,Ac.mk.injEq,Aa.mk.injEq]at e
 obtain⟨⟨rfl,rfl,rfl,rfl,rfl,rfl⟩,⟨rfl,rfl,rfl,rfl,rfl,rfl,rfl,rfl,rfl⟩,rfl⟩:=e
 refine hQ _ _ ?_
 exact .many (.inl rfl) rfl rfl (.agg (.d rfl (Al Aq A6) (.d rfl (Al As A5) (.d rfl (Al Av A4) (.d rfl (Al At A7) (.d rfl rfl (.d rfl rfl (.nil))))))) (.agg (.d rfl rfl (.d rfl rfl (.d rfl rfl (.d rfl rfl (.d rfl rfl (.d rfl (Al hwoff hoboff) (.d rfl rfl (.d rfl rfl (.d rfl rfl (.nil)))))))))) (.d rfl rfl (.nil))))
 conv=>cbv
 refine .neq (fun h5=>?_) fun h5=>?_
 conv=>cbv
 have e:((⟨Ag,Ak,Aj,Ah,An,Am⟩:Ac),(⟨wver,wstr,wrol,wbas,wlin,woff,wend,false,wcod⟩:Aa),wcod)=Ad (⟨Ag,Ak,Aj,Ah,An,Am⟩:Ac) (⟨wver,wstr,wrol,wbas,wlin,woff,wend,false,wcod⟩:Aa) record:=(by first|(exfalso;omega)|(unfold Ad;rw[if_pos (by omega)];done)|(unfold Ad;rw[if_neg (by omega),if_pos (by first|omega|(dsimp only;omega))];done)|(have hz:=Au (r:=record) (by omega) (by first|omega|(dsimp only;omega)) hA hB hC;exact hz)|(have hz:=Bb (r:=record) (by omega) (by first|omega|(dsimp only;omega)) hA hB (by first|omega|(dsimp only;omega));exact hz)|(have hz:=Be (r:=record) (by omega) (by first|omega|(dsimp only;omega)) hA (by first|omega|(dsimp only;omega));exact hz)|(have hz:=Au (r:=record) (by omega) (by first|omega|(dsimp only;omega)) hA hB hC;obtain rfl:wcod=0:=(by omega);exact hz)|(have hz:=Au (r:=record) (by omega) (by first|omega|(dsimp only;omega)) hA hB hC;obtain rfl:lwcod=0:=(by omega);exact hz))
 rw[hr]at e
 simp only[Prod.mk.injEq,Ac.mk.injEq,Aa.mk.injEq]at e
 obtain⟨⟨rfl,rfl,rfl,rfl,rfl,rfl⟩,⟨rfl,rfl,rfl,rfl,rfl,rfl,rfl,rfl,rfl⟩,rfl⟩:=e
 refine hQ _ _ ?_
 exact .many (.inl rfl) rfl rfl (.agg (.d rfl (Al Aq A6) (.d rfl (Al As A5) (.d rfl (Al Av A4) (.d rfl (Al At A7) (.d rfl rfl (.d rfl rfl (.nil))))))) (.agg (.d rfl rfl (.d rfl rfl (.d rfl rfl (.d rfl rfl (.d rfl rfl (.d rfl (Al hwoff hoboff) (.d rfl rfl (.d rfl rfl (.d rfl rfl (.nil)))))))))) (.d rfl rfl (.nil))))
 conv=>cbv
 refine .eql (fun h6=>?_) fun h6=>?_
 conv=>cbv
 have hA:O8 (⟨Ag,Ak,Aj,Ah,An,Am⟩:Ac) (⟨wver,wstr,wrol,wbas,wlin,woff,wend,false,wcod⟩:Aa)=((⟨Ag,Ak,Aj,Ah,An,Am⟩:Ac),(⟨wver,wstr,wrol,wbas,wlin,woff,wend,false,wcod⟩:Aa)):=by unfold O8;rw[if_neg (by first|(simp;done)|(exfalso;omega)|(simp;omega))]
 by_cases hbc:Mr (⟨Ag,Ak,Aj,Ah,An,Am⟩:Ac) (⟨wver,wstr,wrol,wbas,wlin,woff,wend,false,wcod⟩:Aa)=0
 have hgB:=Nv (d:=(⟨Ag,Ak,Aj,Ah,An,Am⟩:Ac)) (w:=(⟨wver,wstr,wrol,wbas,wlin,woff,wend,false,wcod⟩:Aa)) a5 (by first|omega|(dsimp only;omega))
 have hwB:=Nx (d:=(⟨Ag,Ak,Aj,Ah,An,Am⟩:Ac)) (w:=(⟨wver,wstr,wrol,wbas,wlin,woff,wend,false,wcod⟩:Aa)) hw
 unfold Yv at hwB
 rw[if_pos hbc]at hwB
 have hB:appB ((⟨Ag,Ak,Aj,Ah,An,Am⟩:Ac),(⟨wver,wstr,wrol,wbas,wlin,woff,wend,false,wcod⟩:Aa))=(Ko (⟨Ag,Ak,Aj,Ah,An,Am⟩:Ac) (⟨wver,wstr,wrol,wbas,wlin,woff,wend,false,wcod⟩:Aa),(⟨wver,wstr,wrol,wbas,wlin,[],24,true,wcod⟩:Aa)):=by unfold appB;rw[if_pos ⟨by dsimp only;omega,rfl⟩];unfold Yv;rw[if_pos hbc]
 rcases hbd:Ko (⟨Ag,Ak,Aj,Ah,An,Am⟩:Ac) (⟨wver,wstr,wrol,wbas,wlin,woff,wend,false,wcod⟩:Aa)with⟨bdnod,bdent,bdold,bdste,bdroo,bdnex⟩
 generalize hbdnod:bdnod.map A8=xbdnod
 generalize hbdent:bdent.map Ae=xbdent
 generalize hbdold:bdold.map Ae=xbdold
 generalize hbdste:bdste.map cS=xbdste
 rw[hbd]at hgB hB
 have hsB:=hgB.2
 simp only[]at hsB hwB
 obtain⟨hc_1,hc_2,hc_3,hc_4,-⟩:=id hwB
 try (simp only[]at hc_1 hc_2 hc_3 hc_4)
 refine .ddN hP (Vg Aq As Av At hwoff a5 (by first|omega|(dsimp only;omega)) hw hk hbc hbd hbdnod hbdent hbdold hbdste) rfl ?_
 conv=>cbv
 refine .neq (fun h8=>?_) fun h8=>?_
 conv=>cbv
 have e:((⟨bdnod,bdent,bdold,bdste,bdroo,bdnex⟩:Ac),(⟨wver,wstr,wrol,wbas,wlin,([]:List Int),24,true,wcod⟩:Aa),wcod)=Ad (⟨Ag,Ak,Aj,Ah,An,Am⟩:Ac) (⟨wver,wstr,wrol,wbas,wlin,woff,wend,false,wcod⟩:Aa) record:=(by first|(exfalso;omega)|(unfold Ad;rw[if_pos (by omega)];done)|(unfold Ad;rw[if_neg (by omega),if_pos (by first|omega|(dsimp only;omega))];done)|(have hz:=Au (r:=record) (by omega) (by first|omega|(dsimp only;omega)) hA hB hC;exact hz)|(have hz:=Bb (r:=record) (by omega) (by first|omega|(dsimp only;omega)) hA hB (by first|omega|(dsimp only;omega));exact hz)|(have hz:=Be (r:=record) (by omega) (by first|omega|(dsimp only;omega)) hA (by first|omega|(dsimp only;omega));exact hz)|(have hz:=Au (r:=record) (by omega) (by first|omega|(dsimp only;omega)) hA hB hC;obtain rfl:wcod=0:=(by omega);exact hz)|(have hz:=Au (r:=record) (by omega) (by first|omega|(dsimp only;omega)) hA hB hC;obtain rfl:lwcod=0:=(by omega);exact hz))
 rw[hr]at e
 simp only[Prod.mk.injEq,Ac.mk.injEq,Aa.mk.injEq]at e
 obtain⟨⟨rfl,rfl,rfl,rfl,rfl,rfl⟩,⟨rfl,rfl,rfl,rfl,rfl,rfl,rfl,rfl,rfl⟩,rfl⟩:=e
 refine hQ _ _ ?_
 exact .many (.inl rfl) rfl rfl (.agg (.d rfl (Al hbdnod A6) (.d rfl (Al hbdent A5) (.d rfl (Al hbdold A4) (.d rfl (Al hbdste A7) (.d rfl rfl (.d rfl rfl (.nil))))))) (.agg (.d rfl rfl (.d rfl rfl (.d rfl rfl (.d rfl rfl (.d rfl rfl (.ref rfl rfl (by rw[←hoboff];rfl) (.d rfl rfl (.d rfl rfl (.d rfl rfl (.nil)))))))))) (.d rfl rfl (.nil))))
 conv=>cbv
 refine .go fun v9 ck=>?_
 conv=>cbv
 refine .add fun de cg=>?_
 conv=>cbv
 generalize bn:Aw wver de record=ca
 have zr11:=Cg bn
 refine .dd hP (Do (by omega) bn) ?_
 conv=>cbv
 generalize bp:Af wbas=df
 refine .dd hP (Cm bp) ?_
 conv=>cbv
 rcases a4:Ao (⟨bdnod,bdent,bdold,bdste,bdroo,bdnex⟩:Ac) df ca with⟨⟨ag,ah,ai,aj,ap,aq⟩,ch⟩
 generalize a6:ag.map A8=cm
 generalize a7:ah.map Ae=cn
 generalize a8:ai.map Ae=co
 generalize a9:aj.map cS=cp
 refine .dd hP (Cy hbdnod hbdent hbdold hbdste hgB.1.1.1 hgB.1.1.2.2.1 hgB.1.1.2.2.2.2.1 (by omega) hgB.1.2.2 hgB.1 (by omega) a4 a6 a7 a8 a9) ?_
 conv=>cbv
 refine .neq (fun h14=>?_) fun h14=>?_
 conv=>cbv
 have hlf:Hj (⟨wver,wstr,wrol,wbas,wlin,([]:List Int),24,true,wcod⟩:Aa) record=ca:=by unfold Hj;dsimp only;rw[←bn,cg,ck]<;>first|rfl|(congr 1;omega)|(congr 1;simp;omega)|(congr 1;simp)
 have hca:Ao (⟨bdnod,bdent,bdold,bdste,bdroo,bdnex⟩:Ac) (Af wbas) (Hj (⟨wver,wstr,wrol,wbas,wlin,([]:List Int),24,true,wcod⟩:Aa) record)=((⟨ag,ah,ai,aj,ap,aq⟩:Ac),ch):=by rw[hlf,bp];exact a4
 have bo:Li (⟨bdnod,bdent,bdold,bdste,bdroo,bdnex⟩:Ac) (⟨wver,wstr,wrol,wbas,wlin,([]:List Int),24,true,wcod⟩:Aa) record=2:=by unfold Li;dsimp only;rw[hca];exact if_pos h14
 have hC:H0 ((⟨bdnod,bdent,bdold,bdste,bdroo,bdnex⟩:Ac),(⟨wver,wstr,wrol,wbas,wlin,([]:List Int),24,true,wcod⟩:Aa)) record=((⟨ag,ah,ai,aj,ap,aq⟩:Ac),(⟨wver,wstr,wrol,wbas,wlin,([]:List Int),24,true,2⟩:Aa)):=by unfold H0;rw[if_pos (by first|omega|(dsimp only;omega))];unfold Kh Rm;rw[bo,if_neg (by decide)];dsimp only;rw[hca]
 have e:((⟨ag,ah,ai,aj,ap,aq⟩:Ac),(⟨wver,wstr,wrol,wbas,wlin,([]:List Int),24,true,2⟩:Aa),2)=Ad (⟨Ag,Ak,Aj,Ah,An,Am⟩:Ac) (⟨wver,wstr,wrol,wbas,wlin,woff,wend,false,wcod⟩:Aa) record:=(by first|(exfalso;omega)|(unfold Ad;rw[if_pos (by omega)];done)|(unfold Ad;rw[if_neg (by omega),if_pos (by first|omega|(dsimp only;omega))];done)|(have hz:=Au (r:=record) (by omega) (by first|omega|(dsimp only;omega)) hA hB hC;exact hz)|(have hz:=Bb (r:=record) (by omega) (by first|omega|(dsimp only;omega)) hA hB (by first|omega|(dsimp only;omega));exact hz)|(have hz:=Be (r:=record) (by omega) (by first|omega|(dsimp only;omega)) hA (by first|omega|(dsimp only;omega));exact hz)|(have hz:=Au (r:=record) (by omega) (by first|omega|(dsimp only;omega)) hA hB hC;obtain rfl:wcod=0:=(by omega);exact hz)|(have hz:=Au (r:=record) (by omega) (by first|omega|(dsimp only;omega)) hA hB hC;obtain rfl:lwcod=0:=(by omega);exact hz))
 rw[hr]at e
 simp only[Prod.mk.injEq,Ac.mk.injEq,Aa.mk.injEq]at e
 obtain⟨⟨rfl,rfl,rfl,rfl,rfl,rfl⟩,⟨rfl,rfl,rfl,rfl,rfl,rfl,rfl,rfl,rfl⟩,rfl⟩:=e
 refine hQ _ _ ?_
 exact .many (.inl rfl) rfl rfl (.agg (.d rfl (Al a6 A6) (.d rfl (Al a7 A5) (.d rfl (Al a8 A4) (.d rfl (Al a9 A7) (.d rfl rfl (.d rfl rfl (.nil))))))) (.agg (.d rfl rfl (.d rfl rfl (.d rfl rfl (.d rfl rfl (.d rfl rfl (.ref rfl rfl (by rw[←hoboff];rfl) (.d rfl rfl (.d rfl rfl (.d rfl rfl (.nil)))))))))) (.d rfl rfl (.nil))))
 conv=>cbv
 refine .one (24:Int) (show([]:List Int).map cI=[]from rfl) rfl (hl:=rfl) fun d5 eb dy db=>?_
 conv=>cbv
 refine .go fun ec dn=>?_
 conv=>cbv
 refine .add fun dp dq=>?_
 conv=>cbv
 have hlf:Hj (⟨wver,wstr,wrol,wbas,wlin,([]:List Int),24,true,wcod⟩:Aa) record=ca:=by unfold Hj;dsimp only;rw[←bn,cg,ck]<;>first|rfl|(congr 1;omega)|(congr 1;simp;omega)|(congr 1;simp)
 have hca:Ao (⟨bdnod,bdent,bdold,bdste,bdroo,bdnex⟩:Ac) (Af wbas) (Hj (⟨wver,wstr,wrol,wbas,wlin,([]:List Int),24,true,wcod⟩:Aa) record)=((⟨ag,ah,ai,aj,ap,aq⟩:Ac),ch):=by rw[hlf,bp];exact a4
 have ce:Li (⟨bdnod,bdent,bdold,bdste,bdroo,bdnex⟩:Ac) (⟨wver,wstr,wrol,wbas,wlin,([]:List Int),24,true,wcod⟩:Aa) record=0:=by unfold Li;dsimp only;rw[hca];exact if_neg (by first|omega|(dsimp only;omega))
 have hC:H0 ((⟨bdnod,bdent,bdold,bdste,bdroo,bdnex⟩:Ac),(⟨wver,wstr,wrol,wbas,wlin,([]:List Int),24,true,wcod⟩:Aa)) record=((⟨ag,ah,ai,aj,ap,aq⟩:Ac),(⟨wver,wstr,wrol,wbas,wlin,([]:List Int)++[24],dp,true,wcod⟩:Aa)):=by unfold H0;rw[if_pos (by first|omega|(dsimp only;omega))];unfold Kh Rm;rw[ce,if_pos rfl];dsimp only;rw[hca,hlf,dq,dn]
 have e:((⟨ag,ah,ai,aj,ap,aq⟩:Ac),(⟨wver,wstr,wrol,wbas,wlin,(([]:List Int)++[24]),dp,true,wcod⟩:Aa),0)=Ad (⟨Ag,Ak,Aj,Ah,An,Am⟩:Ac) (⟨wver,wstr,wrol,wbas,wlin,woff,wend,false,wcod⟩:Aa) record:=(by first|(exfalso;omega)|(unfold Ad;rw[if_pos (by omega)];done)|(unfold Ad;rw[if_neg (by omega),if_pos (by first|omega|(dsimp only;omega))];done)|(have hz:=Au (r:=record) (by omega) (by first|omega|(dsimp only;omega)) hA hB hC;exact hz)|(have hz:=Bb (r:=record) (by omega) (by first|omega|(dsimp only;omega)) hA hB (by first|omega|(dsimp only;omega));exact hz)|(have hz:=Be (r:=record) (by omega) (by first|omega|(dsimp only;omega)) hA (by first|omega|(dsimp only;omega));exact hz)|(have hz:=Au (r:=record) (by omega) (by first|omega|(dsimp only;omega)) hA hB hC;obtain rfl:wcod=0:=(by omega);exact hz)|(have hz:=Au (r:=record) (by omega) (by first|omega|(dsimp only;omega)) hA hB hC;obtain rfl:lwcod=0:=(by omega);exact hz))
 rw[hr]at e
 simp only[Prod.mk.injEq,Ac.mk.injEq,Aa.mk.injEq]at e
 obtain⟨⟨rfl,rfl,rfl,rfl,rfl,rfl⟩,⟨rfl,rfl,rfl,rfl,rfl,rfl,rfl,rfl,rfl⟩,rfl⟩:=e
 refine hQ _ _ ?_
 exact .many (.inl rfl) rfl rfl (.agg (.d rfl (Al a6 A6) (.d rfl (Al a7 A5) (.d rfl (Al a8 A4) (.d rfl (Al a9 A7) (.d rfl rfl (.d rfl rfl (.nil))))))) (.agg (.d rfl rfl (.d rfl rfl (.d rfl rfl (.d rfl rfl (.d rfl rfl (.ref rfl (Ap db) (Bk db hoboff) (.d rfl rfl (.d rfl rfl (.d rfl rfl (.nil)))))))))) (.d rfl rfl (.nil))))
 obtain⟨bc,hbe⟩:∃c,Mr (⟨Ag,Ak,Aj,Ah,An,Am⟩:Ac) (⟨wver,wstr,wrol,wbas,wlin,woff,wend,false,wcod⟩:Aa)=c:=⟨_,rfl⟩
 rw[hbe]at hbc
 have hB:appB ((⟨Ag,Ak,Aj,Ah,An,Am⟩:Ac),(⟨wver,wstr,wrol,wbas,wlin,woff,wend,false,wcod⟩:Aa))=(Ko (⟨Ag,Ak,Aj,Ah,An,Am⟩:Ac) (⟨wver,wstr,wrol,wbas,wlin,woff,wend,false,wcod⟩:Aa),(⟨wver,wstr,wrol,wbas,wlin,woff,wend,false,bc⟩:Aa)):=by unfold appB;rw[if_pos ⟨by dsimp only;omega,rfl⟩];unfold Yv;rw[hbe,if_neg hbc]
 have hgB:=Nv (d:=(⟨Ag,Ak,Aj,Ah,An,Am⟩:Ac)) (w:=(⟨wver,wstr,wrol,wbas,wlin,woff,wend,false,wcod⟩:Aa)) a5 (by first|omega|(dsimp only;omega))
 have hwB:=Nx (d:=(⟨Ag,Ak,Aj,Ah,An,Am⟩:Ac)) (w:=(⟨wver,wstr,wrol,wbas,wlin,woff,wend,false,wcod⟩:Aa)) hw
 unfold Yv at hwB
 rw[hbe,if_neg hbc]at hwB
 rcases hbd:Ko (⟨Ag,Ak,Aj,Ah,An,Am⟩:Ac) (⟨wver,wstr,wrol,wbas,wlin,woff,wend,false,wcod⟩:Aa)with⟨bdnod,bdent,bdold,bdste,bdroo,bdnex⟩
 generalize hbdnod:bdnod.map A8=xbdnod
 generalize hbdent:bdent.map Ae=xbdent
 generalize hbdold:bdold.map Ae=xbdold
 generalize hbdste:bdste.map cS=xbdste
 rw[hbd]at hgB hB
 have hsB:=hgB.2
 simp only[]at hsB hwB
 refine .dd hP (Ux Aq As Av At hwoff a5 (by first|omega|(dsimp only;omega)) hw hk hbe hbc hbd hbdnod hbdent hbdold hbdste) ?_
 conv=>cbv
 refine .neq (fun h8=>?_) fun h8=>?_
 conv=>cbv
 have e:((⟨bdnod,bdent,bdold,bdste,bdroo,bdnex⟩:Ac),(⟨wver,wstr,wrol,wbas,wlin,woff,wend,false,bc⟩:Aa),bc)=Ad (⟨Ag,Ak,Aj,Ah,An,Am⟩:Ac) (⟨wver,wstr,wrol,wbas,wlin,woff,wend,false,wcod⟩:Aa) record:=(by first|(exfalso;omega)|(unfold Ad;rw[if_pos (by omega)];done)|(unfold Ad;rw[if_neg (by omega),if_pos (by first|omega|(dsimp only;omega))];done)|(have hz:=Au (r:=record) (by omega) (by first|omega|(dsimp only;omega)) hA hB hC;exact hz)|(have hz:=Bb (r:=record) (by omega) (by first|omega|(dsimp only;omega)) hA hB (by first|omega|(dsimp only;omega));exact hz)|(have hz:=Be (r:=record) (by omega) (by first|omega|(dsimp only;omega)) hA (by first|omega|(dsimp only;omega));exact hz)|(have hz:=Au (r:=record) (by omega) (by first|omega|(dsimp only;omega)) hA hB hC;obtain rfl:wcod=0:=(by omega);exact hz)|(have hz:=Au (r:=record) (by omega) (by first|omega|(dsimp only;omega)) hA hB hC;obtain rfl:lwcod=0:=(by omega);exact hz))
 rw[hr]at e
 simp only[Prod.mk.injEq,Ac.mk.injEq,Aa.mk.injEq]at e
 obtain⟨⟨rfl,rfl,rfl,rfl,rfl,rfl⟩,⟨rfl,rfl,rfl,rfl,rfl,rfl,rfl,rfl,rfl⟩,rfl⟩:=e
 refine hQ _ _ ?_
 exact .many (.inl rfl) rfl rfl (.agg (.d rfl (Al hbdnod A6) (.d rfl (Al hbdent A5) (.d rfl (Al hbdold A4) (.d rfl (Al hbdste A7) (.d rfl rfl (.d rfl rfl (.nil))))))) (.agg (.d rfl rfl (.d rfl rfl (.d rfl rfl (.d rfl rfl (.d rfl rfl (.d rfl (Al hwoff hoboff) (.d rfl rfl (.d rfl rfl (.d rfl rfl (.nil)))))))))) (.d rfl rfl (.nil))))
 conv=>cbv
 refine .go hwoff fun v9 ck=>?_
 conv=>cbv
 refine .add fun de cg=>?_
 conv=>cbv
 generalize bn:Aw wver de record=ca
 have zr11:=Cg bn
 refine .dd hP (Do (by omega) bn) ?_
 conv=>cbv
 generalize bp:Af wbas=df
 refine .dd hP (Cm bp) ?_
 conv=>cbv
 rcases a4:Ao (⟨bdnod,bdent,bdold,bdste,bdroo,bdnex⟩:Ac) df ca with⟨⟨ag,ah,ai,aj,ap,aq⟩,ch⟩
 generalize a6:ag.map A8=cm
 generalize a7:ah.map Ae=cn
 generalize a8:ai.map Ae=co
 generalize a9:aj.map cS=cp
 refine .dd hP (Cy hbdnod hbdent hbdold hbdste hgB.1.1.1 hgB.1.1.2.2.1 hgB.1.1.2.2.2.2.1 (by omega) hgB.1.2.2 hgB.1 (by omega) a4 a6 a7 a8 a9) ?_
 conv=>cbv
 refine .neq (fun h14=>?_) fun h14=>?_
 conv=>cbv
 have hlf:Hj (⟨wver,wstr,wrol,wbas,wlin,woff,wend,false,bc⟩:Aa) record=ca:=by unfold Hj;dsimp only;rw[←bn,cg,ck]<;>first|rfl|(congr 1;omega)|(congr 1;simp;omega)|(congr 1;simp)
 have hca:Ao (⟨bdnod,bdent,bdold,bdste,bdroo,bdnex⟩:Ac) (Af wbas) (Hj (⟨wver,wstr,wrol,wbas,wlin,woff,wend,false,bc⟩:Aa) record)=((⟨ag,ah,ai,aj,ap,aq⟩:Ac),ch):=by rw[hlf,bp];exact a4
 have bo:Li (⟨bdnod,bdent,bdold,bdste,bdroo,bdnex⟩:Ac) (⟨wver,wstr,wrol,wbas,wlin,woff,wend,false,bc⟩:Aa) record=2:=by unfold Li;dsimp only;rw[hca];exact if_pos h14
 have hC:H0 ((⟨bdnod,bdent,bdold,bdste,bdroo,bdnex⟩:Ac),(⟨wver,wstr,wrol,wbas,wlin,woff,wend,false,bc⟩:Aa)) record=((⟨ag,ah,ai,aj,ap,aq⟩:Ac),(⟨wver,wstr,wrol,wbas,wlin,woff,wend,false,2⟩:Aa)):=by unfold H0;rw[if_pos (by first|omega|(dsimp only;omega))];unfold Kh Rm;rw[bo,if_neg (by decide)];dsimp only;rw[hca]
 have e:((⟨ag,ah,ai,aj,ap,aq⟩:Ac),(⟨wver,wstr,wrol,wbas,wlin,woff,wend,false,2⟩:Aa),2)=Ad (⟨Ag,Ak,Aj,Ah,An,Am⟩:Ac) (⟨wver,wstr,wrol,wbas,wlin,woff,wend,false,wcod⟩:Aa) record:=(by first|(exfalso;omega)|(unfold Ad;rw[if_pos (by omega)];done)|(unfold Ad;rw[if_neg (by omega),if_pos (by first|omega|(dsimp only;omega))];done)|(have hz:=Au (r:=record) (by omega) (by first|omega|(dsimp only;omega)) hA hB hC;exact hz)|(have hz:=Bb (r:=record) (by omega) (by first|omega|(dsimp only;omega)) hA hB (by first|omega|(dsimp only;omega));exact hz)|(have hz:=Be (r:=record) (by omega) (by first|omega|(dsimp only;omega)) hA (by first|omega|(dsimp only;omega));exact hz)|(have hz:=Au (r:=record) (by omega) (by first|omega|(dsimp only;omega)) hA hB hC;obtain rfl:wcod=0:=(by omega);exact hz)|(have hz:=Au (r:=record) (by omega) (by first|omega|(dsimp only;omega)) hA hB hC;obtain rfl:lwcod=0:=(by omega);exact hz))
 rw[hr]at e
 simp only[Prod.mk.injEq,Ac.mk.injEq,Aa.mk.injEq]at e
 obtain⟨⟨rfl,rfl,rfl,rfl,rfl,rfl⟩,⟨rfl,rfl,rfl,rfl,rfl,rfl,rfl,rfl,rfl⟩,rfl⟩:=e
 refine hQ _ _ ?_
 exact .many (.inl rfl) rfl rfl (.agg (.d rfl (Al a6 A6) (.d rfl (Al a7 A5) (.d rfl (Al a8 A4) (.d rfl (Al a9 A7) (.d rfl rfl (.d rfl rfl (.nil))))))) (.agg (.d rfl rfl (.d rfl rfl (.d rfl rfl (.d rfl rfl (.d rfl rfl (.d rfl (Al hwoff hoboff) (.d rfl rfl (.d rfl rfl (.d rfl rfl (.nil)))))))))) (.d rfl rfl (.nil))))
 conv=>cbv
 first|(exfalso;omega)|exact absurd (hopA (by omega)) (by decide)
 conv=>cbv
 refine .neq (fun h7=>?_) fun h7=>?_
 conv=>cbv
 have e:((⟨Ag,Ak,Aj,Ah,An,Am⟩:Ac),(⟨wver,wstr,wrol,wbas,wlin,woff,wend,false,wcod⟩:Aa),wcod)=Ad (⟨Ag,Ak,Aj,Ah,An,Am⟩:Ac) (⟨wver,wstr,wrol,wbas,wlin,woff,wend,false,wcod⟩:Aa) record:=(by first|(exfalso;omega)|(unfold Ad;rw[if_pos (by omega)];done)|(unfold Ad;rw[if_neg (by omega),if_pos (by first|omega|(dsimp only;omega))];done)|(have hz:=Au (r:=record) (by omega) (by first|omega|(dsimp only;omega)) hA hB hC;exact hz)|(have hz:=Bb (r:=record) (by omega) (by first|omega|(dsimp only;omega)) hA hB (by first|omega|(dsimp only;omega));exact hz)|(have hz:=Be (r:=record) (by omega) (by first|omega|(dsimp only;omega)) hA (by first|omega|(dsimp only;omega));exact hz)|(have hz:=Au (r:=record) (by omega) (by first|omega|(dsimp only;omega)) hA hB hC;obtain rfl:wcod=0:=(by omega);exact hz)|(have hz:=Au (r:=record) (by omega) (by first|omega|(dsimp only;omega)) hA hB hC;obtain rfl:lwcod=0:=(by omega);exact hz))
 rw[hr]at e
 simp only[Prod.mk.injEq,Ac.mk.injEq,Aa.mk.injEq]at e
 obtain⟨⟨rfl,rfl,rfl,rfl,rfl,rfl⟩,⟨rfl,rfl,rfl,rfl,rfl,rfl,rfl,rfl,rfl⟩,rfl⟩:=e
 refine hQ _ _ ?_
 exact .many (.inl rfl) rfl rfl (.agg (.d rfl (Al Aq A6) (.d rfl (Al As A5) (.d rfl (Al Av A4) (.d rfl (Al At A7) (.d rfl rfl (.d rfl rfl (.nil))))))) (.agg (.d rfl rfl (.d rfl rfl (.d rfl rfl (.d rfl rfl (.d rfl rfl (.d rfl (Al hwoff hoboff) (.d rfl rfl (.d rfl rfl (.d rfl rfl (.nil)))))))))) (.d rfl rfl (.nil))))
 conv=>cbv
 refine .go hwoff fun v8 dz=>?_
 conv=>cbv
 refine .add fun v9 ck=>?_
 conv=>cbv
 generalize c3:Aw wver v9 record=dr
 have zr10:=Cg c3
 refine .dd hP (Do (by omega) c3) ?_
 conv=>cbv
 generalize bn:Af wbas=ca
 refine .dd hP (Cm bn) ?_
 conv=>cbv
 have hA:O8 (⟨Ag,Ak,Aj,Ah,An,Am⟩:Ac) (⟨wver,wstr,wrol,wbas,wlin,woff,wend,false,wcod⟩:Aa)=((⟨Ag,Ak,Aj,Ah,An,Am⟩:Ac),(⟨wver,wstr,wrol,wbas,wlin,woff,wend,false,wcod⟩:Aa)):=by unfold O8;rw[if_neg (by first|(simp;done)|(exfalso;omega)|(simp;omega))]
 have hB:appB ((⟨Ag,Ak,Aj,Ah,An,Am⟩:Ac),(⟨wver,wstr,wrol,wbas,wlin,woff,wend,false,wcod⟩:Aa))=((⟨Ag,Ak,Aj,Ah,An,Am⟩:Ac),(⟨wver,wstr,wrol,wbas,wlin,woff,wend,false,wcod⟩:Aa)):=by unfold appB;rw[if_neg (by first|(simp;done)|(exfalso;omega)|(simp;omega))]
 rcases bp:Ao (⟨Ag,Ak,Aj,Ah,An,Am⟩:Ac) ca dr with⟨⟨bq,bt,bu,bv,b0,b2⟩,ds⟩
 generalize b4:bq.map A8=dj
 generalize b5:bt.map Ae=dk
 generalize b6:bu.map Ae=dl
 generalize b7:bv.map cS=dm
 refine .dd hP (Cy Aq As Av At a5.1.1 a5.1.2.2.1 a5.1.2.2.2.2.1 (by omega) a5.2.2 a5 (by omega) bp b4 b5 b6 b7) ?_
 conv=>cbv
 refine .neq (fun h13=>?_) fun h13=>?_
 conv=>cbv
 have hlf:Hj (⟨wver,wstr,wrol,wbas,wlin,woff,wend,false,wcod⟩:Aa) record=dr:=by unfold Hj;dsimp only;rw[←c3,ck,dz]<;>first|rfl|(congr 1;omega)|(congr 1;simp;omega)|(congr 1;simp)
 have hca:Ao (⟨Ag,Ak,Aj,Ah,An,Am⟩:Ac) (Af wbas) (Hj (⟨wver,wstr,wrol,wbas,wlin,woff,wend,false,wcod⟩:Aa) record)=((⟨bq,bt,bu,bv,b0,b2⟩:Ac),ds):=by rw[hlf,bn];exact bp
 have bo:Li (⟨Ag,Ak,Aj,Ah,An,Am⟩:Ac) (⟨wver,wstr,wrol,wbas,wlin,woff,wend,false,wcod⟩:Aa) record=2:=by unfold Li;dsimp only;rw[hca];exact if_pos h13
 have hC:H0 ((⟨Ag,Ak,Aj,Ah,An,Am⟩:Ac),(⟨wver,wstr,wrol,wbas,wlin,woff,wend,false,wcod⟩:Aa)) record=((⟨bq,bt,bu,bv,b0,b2⟩:Ac),(⟨wver,wstr,wrol,wbas,wlin,woff,wend,false,2⟩:Aa)):=by unfold H0;rw[if_pos (by first|omega|(dsimp only;omega))];unfold Kh Rm;rw[bo,if_neg (by decide)];dsimp only;rw[hca]
 have e:((⟨bq,bt,bu,bv,b0,b2⟩:Ac),(⟨wver,wstr,wrol,wbas,wlin,woff,wend,false,2⟩:Aa),2)=Ad (⟨Ag,Ak,Aj,Ah,An,Am⟩:Ac) (⟨wver,wstr,wrol,wbas,wlin,woff,wend,false,wcod⟩:Aa) record:=(by first|(exfalso;omega)|(unfold Ad;rw[if_pos (by omega)];done)|(unfold Ad;rw[if_neg (by omega),if_pos (by first|omega|(dsimp only;omega))];done)|(have hz:=Au (r:=record) (by omega) (by first|omega|(dsimp only;omega)) hA hB hC;exact hz)|(have hz:=Bb (r:=record) (by omega) (by first|omega|(dsimp only;omega)) hA hB (by first|omega|(dsimp only;omega));exact hz)|(have hz:=Be (r:=record) (by omega) (by first|omega|(dsimp only;omega)) hA (by first|omega|(dsimp only;omega));exact hz)|(have hz:=Au (r:=record) (by omega) (by first|omega|(dsimp only;omega)) hA hB hC;obtain rfl:wcod=0:=(by omega);exact hz)|(have hz:=Au (r:=record) (by omega) (by first|omega|(dsimp only;omega)) hA hB hC;obtain rfl:lwcod=0:=(by omega);exact hz))
 rw[hr]at e
 simp only[Prod.mk.injEq,Ac.mk.injEq,Aa.mk.injEq]at e
 obtain⟨⟨rfl,rfl,rfl,rfl,rfl,rfl⟩,⟨rfl,rfl,rfl,rfl,rfl,rfl,rfl,rfl,rfl⟩,rfl⟩:=e
 refine hQ _ _ ?_
 exact .many (.inl rfl) rfl rfl (.agg (.d rfl (Al b4 A6) (.d rfl (Al b5 A5) (.d rfl (Al b6 A4) (.d rfl (Al b7 A7) (.d rfl rfl (.d rfl rfl (.nil))))))) (.agg (.d rfl rfl (.d rfl rfl (.d rfl rfl (.d rfl rfl (.d rfl rfl (.d rfl (Al hwoff hoboff) (.d rfl rfl (.d rfl rfl (.d rfl rfl (.nil)))))))))) (.d rfl rfl (.nil))))
 conv=>cbv
 first|(exfalso;omega)|exact absurd (hopA (by omega)) (by decide)
 obtain⟨n3,d0⟩:∃m,m=woff.length:=⟨_,rfl⟩
 refine .ddN hP (XeU hwoff (by omega) d0) rfl ?_
 conv=>cbv
 refine .go fun v4 ed=>?_
 conv=>cbv
 refine .gtr (fun h5=>?_) fun h5=>?_
 conv=>cbv
 have e:((⟨Ag,Ak,Aj,Ah,An,Am⟩:Ac),(⟨wver,wstr,wrol,wbas,wlin,woff,wend,true,wcod⟩:Aa),1)=Ad (⟨Ag,Ak,Aj,Ah,An,Am⟩:Ac) (⟨wver,wstr,wrol,wbas,wlin,woff,wend,true,wcod⟩:Aa) record:=(by first|(exfalso;omega)|(unfold Ad;rw[if_pos (by omega)];done)|(unfold Ad;rw[if_neg (by omega),if_pos (by first|omega|(dsimp only;omega))];done)|(have hz:=Au (r:=record) (by omega) (by first|omega|(dsimp only;omega)) hA hB hC;exact hz)|(have hz:=Bb (r:=record) (by omega) (by first|omega|(dsimp only;omega)) hA hB (by first|omega|(dsimp only;omega));exact hz)|(have hz:=Be (r:=record) (by omega) (by first|omega|(dsimp only;omega)) hA (by first|omega|(dsimp only;omega));exact hz)|(have hz:=Au (r:=record) (by omega) (by first|omega|(dsimp only;omega)) hA hB hC;obtain rfl:wcod=0:=(by omega);exact hz)|(have hz:=Au (r:=record) (by omega) (by first|omega|(dsimp only;omega)) hA hB hC;obtain rfl:lwcod=0:=(by omega);exact hz))
 rw[hr]at e
 simp only[Prod.mk.injEq,Ac.mk.injEq,Aa.mk.injEq]at e
 obtain⟨⟨rfl,rfl,rfl,rfl,rfl,rfl⟩,⟨rfl,rfl,rfl,rfl,rfl,rfl,rfl,rfl,rfl⟩,rfl⟩:=e
 refine hQ _ _ ?_
 exact .many (.inl rfl) rfl rfl (.agg (.d rfl (Al Aq A6) (.d rfl (Al As A5) (.d rfl (Al Av A4) (.d rfl (Al At A7) (.d rfl rfl (.d rfl rfl (.nil))))))) (.agg (.d rfl rfl (.d rfl rfl (.d rfl rfl (.d rfl rfl (.d rfl rfl (.ref rfl (Ap hwoff) (Bk hwoff hoboff) (.d rfl rfl (.d rfl rfl (.d rfl rfl (.nil)))))))))) (.d rfl rfl (.nil))))
 conv=>cbv
 refine .neq (fun h6=>?_) fun h6=>?_
 conv=>cbv
 have e:((⟨Ag,Ak,Aj,Ah,An,Am⟩:Ac),(⟨wver,wstr,wrol,wbas,wlin,woff,wend,true,wcod⟩:Aa),wcod)=Ad (⟨Ag,Ak,Aj,Ah,An,Am⟩:Ac) (⟨wver,wstr,wrol,wbas,wlin,woff,wend,true,wcod⟩:Aa) record:=(by first|(exfalso;omega)|(unfold Ad;rw[if_pos (by omega)];done)|(unfold Ad;rw[if_neg (by omega),if_pos (by first|omega|(dsimp only;omega))];done)|(have hz:=Au (r:=record) (by omega) (by first|omega|(dsimp only;omega)) hA hB hC;exact hz)|(have hz:=Bb (r:=record) (by omega) (by first|omega|(dsimp only;omega)) hA hB (by first|omega|(dsimp only;omega));exact hz)|(have hz:=Be (r:=record) (by omega) (by first|omega|(dsimp only;omega)) hA (by first|omega|(dsimp only;omega));exact hz)|(have hz:=Au (r:=record) (by omega) (by first|omega|(dsimp only;omega)) hA hB hC;obtain rfl:wcod=0:=(by omega);exact hz)|(have hz:=Au (r:=record) (by omega) (by first|omega|(dsimp only;omega)) hA hB hC;obtain rfl:lwcod=0:=(by omega);exact hz))
 rw[hr]at e
 simp only[Prod.mk.injEq,Ac.mk.injEq,Aa.mk.injEq]at e
 obtain⟨⟨rfl,rfl,rfl,rfl,rfl,rfl⟩,⟨rfl,rfl,rfl,rfl,rfl,rfl,rfl,rfl,rfl⟩,rfl⟩:=e
 refine hQ _ _ ?_
 exact .many (.inl rfl) rfl rfl (.agg (.d rfl (Al Aq A6) (.d rfl (Al As A5) (.d rfl (Al Av A4) (.d rfl (Al At A7) (.d rfl rfl (.d rfl rfl (.nil))))))) (.agg (.d rfl rfl (.d rfl rfl (.d rfl rfl (.d rfl rfl (.d rfl rfl (.ref rfl (Ap hwoff) (Bk hwoff hoboff) (.d rfl rfl (.d rfl rfl (.d rfl rfl (.nil)))))))))) (.d rfl rfl (.nil))))
 conv=>cbv
 refine .go fun v7 ee=>?_
 conv=>cbv
 refine .geq (fun h8=>?_) fun h8=>?_
 conv=>cbv
 rcases hrl:Cz (⟨Ag,Ak,Aj,Ah,An,Am⟩:Ac) (⟨wver,wstr,wrol,wbas,wlin,woff,wend,true,wcod⟩:Aa)with⟨⟨rlnod,rlent,rlold,rlste,rlroo,rlnex⟩,⟨lwver,lwstr,lwrol,lwbas,lwlin,lwoff,lwend,lwope,lwcod⟩,rlc⟩
 obtain⟨hrA,hrB⟩:=Ur (d:=(⟨Ag,Ak,Aj,Ah,An,Am⟩:Ac)) (w:=(⟨wver,wstr,wrol,wbas,wlin,woff,wend,true,wcod⟩:Aa)) rfl (by first|omega|(dsimp only;omega)) hrl
 have hA:O8 (⟨Ag,Ak,Aj,Ah,An,Am⟩:Ac) (⟨wver,wstr,wrol,wbas,wlin,woff,wend,true,wcod⟩:Aa)=((⟨rlnod,rlent,rlold,rlste,rlroo,rlnex⟩:Ac),(⟨lwver,lwstr,lwrol,lwbas,lwlin,lwoff,lwend,lwope,lwcod⟩:Aa)):=by unfold O8;rw[if_pos ⟨rfl,by dsimp only;omega⟩,hrA,hrB]
 have hgA:=W9 (d:=(⟨Ag,Ak,Aj,Ah,An,Am⟩:Ac)) (w:=(⟨wver,wstr,wrol,wbas,wlin,woff,wend,true,wcod⟩:Aa)) a5
 have hwA:=Wj (d:=(⟨Ag,Ak,Aj,Ah,An,Am⟩:Ac)) (w:=(⟨wver,wstr,wrol,wbas,wlin,woff,wend,true,wcod⟩:Aa)) hw
 have hopA:lwcod=0→lwope=false:=fun h=>by have:=U9 (d:=(⟨Ag,Ak,Aj,Ah,An,Am⟩:Ac)) (w:=(⟨wver,wstr,wrol,wbas,wlin,woff,wend,true,wcod⟩:Aa)) (by first|omega|(dsimp only;omega)) (by rw[hrB];exact h);rw[hrB]at this;exact this
 rw[hrA]at hgA
 rw[hrB]at hwA
 have hsA:=hgA.2
 simp only[]at hsA
 obtain⟨ha_1,ha_2,ha_3,ha_4,-⟩:=id hwA
 try (simp only[]at ha_1 ha_2 ha_3 ha_4)
 generalize hrlnod:rlnod.map A8=xrlnod
 generalize hrlent:rlent.map Ae=xrlent
 generalize hrlold:rlold.map Ae=xrlold
 generalize hrlste:rlste.map cS=xrlste
 generalize hlwoff:lwoff.map cI=xlwoff
 refine .lntD hP (Xd5 Aq As Av At hwoff a5 (by omega) hw hk hrl hrlnod hrlent hrlold hrlste hlwoff) (.agg (.d rfl (.d rfl (.d rfl (.d rfl (.d rfl (.d rfl .nil)))))) (.agg (.d rfl (.d rfl (.d rfl (.d rfl (.d rfl (.ref rfl (Ap hwoff) (.d rfl (.d rfl (.d rfl .nil))))))))) .nil)) ?_
 conv=>cbv
 refine .eql (fun h10=>?_) fun h10=>?_
 conv=>cbv
 cases lwope
 conv=>cbv
 by_cases hbc:Mr (⟨rlnod,rlent,rlold,rlste,rlroo,rlnex⟩:Ac) (⟨lwver,lwstr,lwrol,lwbas,lwlin,lwoff,lwend,false,lwcod⟩:Aa)=0
 have hgB:=Nv (d:=(⟨rlnod,rlent,rlold,rlste,rlroo,rlnex⟩:Ac)) (w:=(⟨lwver,lwstr,lwrol,lwbas,lwlin,lwoff,lwend,false,lwcod⟩:Aa)) hgA.1 (by first|omega|(dsimp only;omega))
 have hwB:=Nx (d:=(⟨rlnod,rlent,rlold,rlste,rlroo,rlnex⟩:Ac)) (w:=(⟨lwver,lwstr,lwrol,lwbas,lwlin,lwoff,lwend,false,lwcod⟩:Aa)) hwA
 unfold Yv at hwB
 rw[if_pos hbc]at hwB
 have hB:appB ((⟨rlnod,rlent,rlold,rlste,rlroo,rlnex⟩:Ac),(⟨lwver,lwstr,lwrol,lwbas,lwlin,lwoff,lwend,false,lwcod⟩:Aa))=(Ko (⟨rlnod,rlent,rlold,rlste,rlroo,rlnex⟩:Ac) (⟨lwver,lwstr,lwrol,lwbas,lwlin,lwoff,lwend,false,lwcod⟩:Aa),(⟨lwver,lwstr,lwrol,lwbas,lwlin,[],24,true,lwcod⟩:Aa)):=by unfold appB;rw[if_pos ⟨by dsimp only;omega,rfl⟩];unfold Yv;rw[if_pos hbc]
 rcases hbd:Ko (⟨rlnod,rlent,rlold,rlste,rlroo,rlnex⟩:Ac) (⟨lwver,lwstr,lwrol,lwbas,lwlin,lwoff,lwend,false,lwcod⟩:Aa)with⟨bdnod,bdent,bdold,bdste,bdroo,bdnex⟩
 generalize hbdnod:bdnod.map A8=xbdnod
 generalize hbdent:bdent.map Ae=xbdent
 generalize hbdold:bdold.map Ae=xbdold
 generalize hbdste:bdste.map cS=xbdste
 rw[hbd]at hgB hB
 have hsB:=hgB.2
 simp only[]at hsB hwB
 obtain⟨hc_1,hc_2,hc_3,hc_4,-⟩:=id hwB
 try (simp only[]at hc_1 hc_2 hc_3 hc_4)
 refine .ddN hP (Vg hrlnod hrlent hrlold hrlste hlwoff hgA.1 (by first|omega|(dsimp only;omega)) hwA hk hbc hbd hbdnod hbdent hbdold hbdste) rfl ?_
 conv=>cbv
 refine .neq (fun h12=>?_) fun h12=>?_
 conv=>cbv
 have e:((⟨bdnod,bdent,bdold,bdste,bdroo,bdnex⟩:Ac),(⟨lwver,lwstr,lwrol,lwbas,lwlin,([]:List Int),24,true,lwcod⟩:Aa),lwcod)=Ad (⟨Ag,Ak,Aj,Ah,An,Am⟩:Ac) (⟨wver,wstr,wrol,wbas,wlin,woff,wend,true,wcod⟩:Aa) record:=(by first|(exfalso;omega)|(unfold Ad;rw[if_pos (by omega)];done)|(unfold Ad;rw[if_neg (by omega),if_pos (by first|omega|(dsimp only;omega))];done)|(have hz:=Au (r:=record) (by omega) (by first|omega|(dsimp only;omega)) hA hB hC;exact hz)|(have hz:=Bb (r:=record) (by omega) (by first|omega|(dsimp only;omega)) hA hB (by first|omega|(dsimp only;omega));exact hz)|(have hz:=Be (r:=record) (by omega) (by first|omega|(dsimp only;omega)) hA (by first|omega|(dsimp only;omega));exact hz)|(have hz:=Au (r:=record) (by omega) (by first|omega|(dsimp only;omega)) hA hB hC;obtain rfl:wcod=0:=(by omega);exact hz)|(have hz:=Au (r:=record) (by omega) (by first|omega|(dsimp only;omega)) hA hB hC;obtain rfl:lwcod=0:=(by omega);exact hz))
 rw[hr]at e
 simp only[Prod.mk.injEq,Ac.mk.injEq,Aa.mk.injEq]at e
 obtain⟨⟨rfl,rfl,rfl,rfl,rfl,rfl⟩,⟨rfl,rfl,rfl,rfl,rfl,rfl,rfl,rfl,rfl⟩,rfl⟩:=e
 refine hQ _ _ ?_
 exact .many (.inl rfl) rfl rfl (.agg (.d rfl (Al hbdnod A6) (.d rfl (Al hbdent A5) (.d rfl (Al hbdold A4) (.d rfl (Al hbdste A7) (.d rfl rfl (.d rfl rfl (.nil))))))) (.agg (.d rfl rfl (.d rfl rfl (.d rfl rfl (.d rfl rfl (.d rfl rfl (.ref rfl rfl (by rw[←hoboff];rfl) (.d rfl rfl (.d rfl rfl (.d rfl rfl (.nil)))))))))) (.d rfl rfl (.nil))))
 conv=>cbv
 refine .go fun c5 bz=>?_
 conv=>cbv
 refine .add fun dg ci=>?_
 conv=>cbv
 generalize ao:Aw lwver dg record=b3
 have zr15:=Cg ao
 refine .dd hP (Do (by omega) ao) ?_
 conv=>cbv
 generalize bm:Af lwbas=dh
 refine .dd hP (Cm bm) ?_
 conv=>cbv
 rcases b8:Ao (⟨bdnod,bdent,bdold,bdste,bdroo,bdnex⟩:Ac) dh b3 with⟨⟨ak,al,am,an,ar,au⟩,cj⟩
 generalize ba:ak.map A8=cq
 generalize bb:al.map Ae=cr
 generalize bd:am.map Ae=ct
 generalize be:an.map cS=cu
 refine .dd hP (Cy hbdnod hbdent hbdold hbdste hgB.1.1.1 hgB.1.1.2.2.1 hgB.1.1.2.2.2.2.1 (by omega) hgB.1.2.2 hgB.1 (by omega) b8 ba bb bd be) ?_
 conv=>cbv
 refine .neq (fun h18=>?_) fun h18=>?_
 conv=>cbv
 have hlf:Hj (⟨lwver,lwstr,lwrol,lwbas,lwlin,([]:List Int),24,true,lwcod⟩:Aa) record=b3:=by unfold Hj;dsimp only;rw[←ao,ci,bz]<;>first|rfl|(congr 1;omega)|(congr 1;simp;omega)|(congr 1;simp)
 have hca:Ao (⟨bdnod,bdent,bdold,bdste,bdroo,bdnex⟩:Ac) (Af lwbas) (Hj (⟨lwver,lwstr,lwrol,lwbas,lwlin,([]:List Int),24,true,lwcod⟩:Aa) record)=((⟨ak,al,am,an,ar,au⟩:Ac),cj):=by rw[hlf,bm];exact b8
 have bo:Li (⟨bdnod,bdent,bdold,bdste,bdroo,bdnex⟩:Ac) (⟨lwver,lwstr,lwrol,lwbas,lwlin,([]:List Int),24,true,lwcod⟩:Aa) record=2:=by unfold Li;dsimp only;rw[hca];exact if_pos h18
 have hC:H0 ((⟨bdnod,bdent,bdold,bdste,bdroo,bdnex⟩:Ac),(⟨lwver,lwstr,lwrol,lwbas,lwlin,([]:List Int),24,true,lwcod⟩:Aa)) record=((⟨ak,al,am,an,ar,au⟩:Ac),(⟨lwver,lwstr,lwrol,lwbas,lwlin,([]:List Int),24,true,2⟩:Aa)):=by unfold H0;rw[if_pos (by first|omega|(dsimp only;omega))];unfold Kh Rm;rw[bo,if_neg (by decide)];dsimp only;rw[hca]
 have e:((⟨ak,al,am,an,ar,au⟩:Ac),(⟨lwver,lwstr,lwrol,lwbas,lwlin,([]:List Int),24,true,2⟩:Aa),2)=Ad (⟨Ag,Ak,Aj,Ah,An,Am⟩:Ac) (⟨wver,wstr,wrol,wbas,wlin,woff,wend,true,wcod⟩:Aa) record:=(by first|(exfalso;omega)|(unfold Ad;rw[if_pos (by omega)];done)|(unfold Ad;rw[if_neg (by omega),if_pos (by first|omega|(dsimp only;omega))];done)|(have hz:=Au (r:=record) (by omega) (by first|omega|(dsimp only;omega)) hA hB hC;exact hz)|(have hz:=Bb (r:=record) (by omega) (by first|omega|(dsimp only;omega)) hA hB (by first|omega|(dsimp only;omega));exact hz)|(have hz:=Be (r:=record) (by omega) (by first|omega|(dsimp only;omega)) hA (by first|omega|(dsimp only;omega));exact hz)|(have hz:=Au (r:=record) (by omega) (by first|omega|(dsimp only;omega)) hA hB hC;obtain rfl:wcod=0:=(by omega);exact hz)|(have hz:=Au (r:=record) (by omega) (by first|omega|(dsimp only;omega)) hA hB hC;obtain rfl:lwcod=0:=(by omega);exact hz))
 rw[hr]at e
 simp only[Prod.mk.injEq,Ac.mk.injEq,Aa.mk.injEq]at e
 obtain⟨⟨rfl,rfl,rfl,rfl,rfl,rfl⟩,⟨rfl,rfl,rfl,rfl,rfl,rfl,rfl,rfl,rfl⟩,rfl⟩:=e
 refine hQ _ _ ?_
 exact .many (.inl rfl) rfl rfl (.agg (.d rfl (Al ba A6) (.d rfl (Al bb A5) (.d rfl (Al bd A4) (.d rfl (Al be A7) (.d rfl rfl (.d rfl rfl (.nil))))))) (.agg (.d rfl rfl (.d rfl rfl (.d rfl rfl (.d rfl rfl (.d rfl rfl (.ref rfl rfl (by rw[←hoboff];rfl) (.d rfl rfl (.d rfl rfl (.d rfl rfl (.nil)))))))))) (.d rfl rfl (.nil))))
 conv=>cbv
 refine .one (24:Int) (show([]:List Int).map cI=[]from rfl) rfl (hl:=rfl) fun d6 ef d1 dc=>?_
 conv=>cbv
 refine .go fun eg dt=>?_
 conv=>cbv
 refine .add fun du dv=>?_
 conv=>cbv
 have hlf:Hj (⟨lwver,lwstr,lwrol,lwbas,lwlin,([]:List Int),24,true,lwcod⟩:Aa) record=b3:=by unfold Hj;dsimp only;rw[←ao,ci,bz]<;>first|rfl|(congr 1;omega)|(congr 1;simp;omega)|(congr 1;simp)
 have hca:Ao (⟨bdnod,bdent,bdold,bdste,bdroo,bdnex⟩:Ac) (Af lwbas) (Hj (⟨lwver,lwstr,lwrol,lwbas,lwlin,([]:List Int),24,true,lwcod⟩:Aa) record)=((⟨ak,al,am,an,ar,au⟩:Ac),cj):=by rw[hlf,bm];exact b8
 have ce:Li (⟨bdnod,bdent,bdold,bdste,bdroo,bdnex⟩:Ac) (⟨lwver,lwstr,lwrol,lwbas,lwlin,([]:List Int),24,true,lwcod⟩:Aa) record=0:=by unfold Li;dsimp only;rw[hca];exact if_neg (by first|omega|(dsimp only;omega))
 have hC:H0 ((⟨bdnod,bdent,bdold,bdste,bdroo,bdnex⟩:Ac),(⟨lwver,lwstr,lwrol,lwbas,lwlin,([]:List Int),24,true,lwcod⟩:Aa)) record=((⟨ak,al,am,an,ar,au⟩:Ac),(⟨lwver,lwstr,lwrol,lwbas,lwlin,([]:List Int)++[24],du,true,lwcod⟩:Aa)):=by unfold H0;rw[if_pos (by first|omega|(dsimp only;omega))];unfold Kh Rm;rw[ce,if_pos rfl];dsimp only;rw[hca,hlf,dv,dt]
 have e:((⟨ak,al,am,an,ar,au⟩:Ac),(⟨lwver,lwstr,lwrol,lwbas,lwlin,(([]:List Int)++[24]),du,true,lwcod⟩:Aa),0)=Ad (⟨Ag,Ak,Aj,Ah,An,Am⟩:Ac) (⟨wver,wstr,wrol,wbas,wlin,woff,wend,true,wcod⟩:Aa) record:=(by first|(exfalso;omega)|(unfold Ad;rw[if_pos (by omega)];done)|(unfold Ad;rw[if_neg (by omega),if_pos (by first|omega|(dsimp only;omega))];done)|(have hz:=Au (r:=record) (by omega) (by first|omega|(dsimp only;omega)) hA hB hC;exact hz)|(have hz:=Bb (r:=record) (by omega) (by first|omega|(dsimp only;omega)) hA hB (by first|omega|(dsimp only;omega));exact hz)|(have hz:=Be (r:=record) (by omega) (by first|omega|(dsimp only;omega)) hA (by first|omega|(dsimp only;omega));exact hz)|(have hz:=Au (r:=record) (by omega) (by first|omega|(dsimp only;omega)) hA hB hC;obtain rfl:wcod=0:=(by omega);exact hz)|(have hz:=Au (r:=record) (by omega) (by first|omega|(dsimp only;omega)) hA hB hC;obtain rfl:lwcod=0:=(by omega);exact hz))
 rw[hr]at e
 simp only[Prod.mk.injEq,Ac.mk.injEq,Aa.mk.injEq]at e
 obtain⟨⟨rfl,rfl,rfl,rfl,rfl,rfl⟩,⟨rfl,rfl,rfl,rfl,rfl,rfl,rfl,rfl,rfl⟩,rfl⟩:=e
 refine hQ _ _ ?_
 exact .many (.inl rfl) rfl rfl (.agg (.d rfl (Al ba A6) (.d rfl (Al bb A5) (.d rfl (Al bd A4) (.d rfl (Al be A7) (.d rfl rfl (.d rfl rfl (.nil))))))) (.agg (.d rfl rfl (.d rfl rfl (.d rfl rfl (.d rfl rfl (.d rfl rfl (.ref rfl (Ap dc) (Bk dc hoboff) (.d rfl rfl (.d rfl rfl (.d rfl rfl (.nil)))))))))) (.d rfl rfl (.nil))))
 obtain⟨bc,hbe⟩:∃c,Mr (⟨rlnod,rlent,rlold,rlste,rlroo,rlnex⟩:Ac) (⟨lwver,lwstr,lwrol,lwbas,lwlin,lwoff,lwend,false,lwcod⟩:Aa)=c:=⟨_,rfl⟩
 rw[hbe]at hbc
 have hB:appB ((⟨rlnod,rlent,rlold,rlste,rlroo,rlnex⟩:Ac),(⟨lwver,lwstr,lwrol,lwbas,lwlin,lwoff,lwend,false,lwcod⟩:Aa))=(Ko (⟨rlnod,rlent,rlold,rlste,rlroo,rlnex⟩:Ac) (⟨lwver,lwstr,lwrol,lwbas,lwlin,lwoff,lwend,false,lwcod⟩:Aa),(⟨lwver,lwstr,lwrol,lwbas,lwlin,lwoff,lwend,false,bc⟩:Aa)):=by unfold appB;rw[if_pos ⟨by dsimp only;omega,rfl⟩];unfold Yv;rw[hbe,if_neg hbc]
 have hgB:=Nv (d:=(⟨rlnod,rlent,rlold,rlste,rlroo,rlnex⟩:Ac)) (w:=(⟨lwver,lwstr,lwrol,lwbas,lwlin,lwoff,lwend,false,lwcod⟩:Aa)) hgA.1 (by first|omega|(dsimp only;omega))
 have hwB:=Nx (d:=(⟨rlnod,rlent,rlold,rlste,rlroo,rlnex⟩:Ac)) (w:=(⟨lwver,lwstr,lwrol,lwbas,lwlin,lwoff,lwend,false,lwcod⟩:Aa)) hwA
 unfold Yv at hwB
 rw[hbe,if_neg hbc]at hwB
 rcases hbd:Ko (⟨rlnod,rlent,rlold,rlste,rlroo,rlnex⟩:Ac) (⟨lwver,lwstr,lwrol,lwbas,lwlin,lwoff,lwend,false,lwcod⟩:Aa)with⟨bdnod,bdent,bdold,bdste,bdroo,bdnex⟩
 generalize hbdnod:bdnod.map A8=xbdnod
 generalize hbdent:bdent.map Ae=xbdent
 generalize hbdold:bdold.map Ae=xbdold
 generalize hbdste:bdste.map cS=xbdste
 rw[hbd]at hgB hB
 have hsB:=hgB.2
 simp only[]at hsB hwB
 refine .dd hP (Ux hrlnod hrlent hrlold hrlste hlwoff hgA.1 (by first|omega|(dsimp only;omega)) hwA hk hbe hbc hbd hbdnod hbdent hbdold hbdste) ?_
 conv=>cbv
 refine .neq (fun h12=>?_) fun h12=>?_
 conv=>cbv
 have e:((⟨bdnod,bdent,bdold,bdste,bdroo,bdnex⟩:Ac),(⟨lwver,lwstr,lwrol,lwbas,lwlin,lwoff,lwend,false,bc⟩:Aa),bc)=Ad (⟨Ag,Ak,Aj,Ah,An,Am⟩:Ac) (⟨wver,wstr,wrol,wbas,wlin,woff,wend,true,wcod⟩:Aa) record:=(by first|(exfalso;omega)|(unfold Ad;rw[if_pos (by omega)];done)|(unfold Ad;rw[if_neg (by omega),if_pos (by first|omega|(dsimp only;omega))];done)|(have hz:=Au (r:=record) (by omega) (by first|omega|(dsimp only;omega)) hA hB hC;exact hz)|(have hz:=Bb (r:=record) (by omega) (by first|omega|(dsimp only;omega)) hA hB (by first|omega|(dsimp only;omega));exact hz)|(have hz:=Be (r:=record) (by omega) (by first|omega|(dsimp only;omega)) hA (by first|omega|(dsimp only;omega));exact hz)|(have hz:=Au (r:=record) (by omega) (by first|omega|(dsimp only;omega)) hA hB hC;obtain rfl:wcod=0:=(by omega);exact hz)|(have hz:=Au (r:=record) (by omega) (by first|omega|(dsimp only;omega)) hA hB hC;obtain rfl:lwcod=0:=(by omega);exact hz))
 rw[hr]at e
 simp only[Prod.mk.injEq,Ac.mk.injEq,Aa.mk.injEq]at e
 obtain⟨⟨rfl,rfl,rfl,rfl,rfl,rfl⟩,⟨rfl,rfl,rfl,rfl,rfl,rfl,rfl,rfl,rfl⟩,rfl⟩:=e
 refine hQ _ _ ?_
 exact .many (.inl rfl) rfl rfl (.agg (.d rfl (Al hbdnod A6) (.d rfl (Al hbdent A5) (.d rfl (Al hbdold A4) (.d rfl (Al hbdste A7) (.d rfl rfl (.d rfl rfl (.nil))))))) (.agg (.d rfl rfl (.d rfl rfl (.d rfl rfl (.d rfl rfl (.d rfl rfl (.d rfl (Al hlwoff hoboff) (.d rfl rfl (.d rfl rfl (.d rfl rfl (.nil)))))))))) (.d rfl rfl (.nil))))
 conv=>cbv
 refine .go hlwoff fun c5 bz=>?_
 conv=>cbv
 refine .add fun dg ci=>?_
 conv=>cbv
 generalize ao:Aw lwver dg record=b3
 have zr15:=Cg ao
 refine .dd hP (Do (by omega) ao) ?_
 conv=>cbv
 generalize bm:Af lwbas=dh
 refine .dd hP (Cm bm) ?_
 conv=>cbv
 rcases b8:Ao (⟨bdnod,bdent,bdold,bdste,bdroo,bdnex⟩:Ac) dh b3 with⟨⟨ak,al,am,an,ar,au⟩,cj⟩
 generalize ba:ak.map A8=cq
 generalize bb:al.map Ae=cr
 generalize bd:am.map Ae=ct
 generalize be:an.map cS=cu
 refine .dd hP (Cy hbdnod hbdent hbdold hbdste hgB.1.1.1 hgB.1.1.2.2.1 hgB.1.1.2.2.2.2.1 (by omega) hgB.1.2.2 hgB.1 (by omega) b8 ba bb bd be) ?_
 conv=>cbv
 refine .neq (fun h18=>?_) fun h18=>?_
 conv=>cbv
 have hlf:Hj (⟨lwver,lwstr,lwrol,lwbas,lwlin,lwoff,lwend,false,bc⟩:Aa) record=b3:=by unfold Hj;dsimp only;rw[←ao,ci,bz]<;>first|rfl|(congr 1;omega)|(congr 1;simp;omega)|(congr 1;simp)
 have hca:Ao (⟨bdnod,bdent,bdold,bdste,bdroo,bdnex⟩:Ac) (Af lwbas) (Hj (⟨lwver,lwstr,lwrol,lwbas,lwlin,lwoff,lwend,false,bc⟩:Aa) record)=((⟨ak,al,am,an,ar,au⟩:Ac),cj):=by rw[hlf,bm];exact b8
 have bo:Li (⟨bdnod,bdent,bdold,bdste,bdroo,bdnex⟩:Ac) (⟨lwver,lwstr,lwrol,lwbas,lwlin,lwoff,lwend,false,bc⟩:Aa) record=2:=by unfold Li;dsimp only;rw[hca];exact if_pos h18
 have hC:H0 ((⟨bdnod,bdent,bdold,bdste,bdroo,bdnex⟩:Ac),(⟨lwver,lwstr,lwrol,lwbas,lwlin,lwoff,lwend,false,bc⟩:Aa)) record=((⟨ak,al,am,an,ar,au⟩:Ac),(⟨lwver,lwstr,lwrol,lwbas,lwlin,lwoff,lwend,false,2⟩:Aa)):=by unfold H0;rw[if_pos (by first|omega|(dsimp only;omega))];unfold Kh Rm;rw[bo,if_neg (by decide)];dsimp only;rw[hca]
 have e:((⟨ak,al,am,an,ar,au⟩:Ac),(⟨lwver,lwstr,lwrol,lwbas,lwlin,lwoff,lwend,false,2⟩:Aa),2)=Ad (⟨Ag,Ak,Aj,Ah,An,Am⟩:Ac) (⟨wver,wstr,wrol,wbas,wlin,woff,wend,true,wcod⟩:Aa) record:=(by first|(exfalso;omega)|(unfold Ad;rw[if_pos (by omega)];done)|(unfold Ad;rw[if_neg (by omega),if_pos (by first|omega|(dsimp only;omega))];done)|(have hz:=Au (r:=record) (by omega) (by first|omega|(dsimp only;omega)) hA hB hC;exact hz)|(have hz:=Bb (r:=record) (by omega) (by first|omega|(dsimp only;omega)) hA hB (by first|omega|(dsimp only;omega));exact hz)|(have hz:=Be (r:=record) (by omega) (by first|omega|(dsimp only;omega)) hA (by first|omega|(dsimp only;omega));exact hz)|(have hz:=Au (r:=record) (by omega) (by first|omega|(dsimp only;omega)) hA hB hC;obtain rfl:wcod=0:=(by omega);exact hz)|(have hz:=Au (r:=record) (by omega) (by first|omega|(dsimp only;omega)) hA hB hC;obtain rfl:lwcod=0:=(by omega);exact hz))
 rw[hr]at e
 simp only[Prod.mk.injEq,Ac.mk.injEq,Aa.mk.injEq]at e
 obtain⟨⟨rfl,rfl,rfl,rfl,rfl,rfl⟩,⟨rfl,rfl,rfl,rfl,rfl,rfl,rfl,rfl,rfl⟩,rfl⟩:=e
 refine hQ _ _ ?_
 exact .many (.inl rfl) rfl rfl (.agg (.d rfl (Al ba A6) (.d rfl (Al bb A5) (.d rfl (Al bd A4) (.d rfl (Al be A7) (.d rfl rfl (.d rfl rfl (.nil))))))) (.agg (.d rfl rfl (.d rfl rfl (.d rfl rfl (.d rfl rfl (.d rfl rfl (.d rfl (Al hlwoff hoboff) (.d rfl rfl (.d rfl rfl (.d rfl rfl (.nil)))))))))) (.d rfl rfl (.nil))))
 conv=>cbv
 first|(exfalso;omega)|exact absurd (hopA (by omega)) (by decide)
 conv=>cbv
 refine .neq (fun h11=>?_) fun h11=>?_
 conv=>cbv
 have e:((⟨rlnod,rlent,rlold,rlste,rlroo,rlnex⟩:Ac),(⟨lwver,lwstr,lwrol,lwbas,lwlin,lwoff,lwend,true,lwcod⟩:Aa),lwcod)=Ad (⟨Ag,Ak,Aj,Ah,An,Am⟩:Ac) (⟨wver,wstr,wrol,wbas,wlin,woff,wend,true,wcod⟩:Aa) record:=(by first|(exfalso;omega)|(unfold Ad;rw[if_pos (by omega)];done)|(unfold Ad;rw[if_neg (by omega),if_pos (by first|omega|(dsimp only;omega))];done)|(have hz:=Au (r:=record) (by omega) (by first|omega|(dsimp only;omega)) hA hB hC;exact hz)|(have hz:=Bb (r:=record) (by omega) (by first|omega|(dsimp only;omega)) hA hB (by first|omega|(dsimp only;omega));exact hz)|(have hz:=Be (r:=record) (by omega) (by first|omega|(dsimp only;omega)) hA (by first|omega|(dsimp only;omega));exact hz)|(have hz:=Au (r:=record) (by omega) (by first|omega|(dsimp only;omega)) hA hB hC;obtain rfl:wcod=0:=(by omega);exact hz)|(have hz:=Au (r:=record) (by omega) (by first|omega|(dsimp only;omega)) hA hB hC;obtain rfl:lwcod=0:=(by omega);exact hz))
 rw[hr]at e
 simp only[Prod.mk.injEq,Ac.mk.injEq,Aa.mk.injEq]at e
 obtain⟨⟨rfl,rfl,rfl,rfl,rfl,rfl⟩,⟨rfl,rfl,rfl,rfl,rfl,rfl,rfl,rfl,rfl⟩,rfl⟩:=e
 refine hQ _ _ ?_
 exact .many (.inl rfl) rfl rfl (.agg (.d rfl (Al hrlnod A6) (.d rfl (Al hrlent A5) (.d rfl (Al hrlold A4) (.d rfl (Al hrlste A7) (.d rfl rfl (.d rfl rfl (.nil))))))) (.agg (.d rfl rfl (.d rfl rfl (.d rfl rfl (.d rfl rfl (.d rfl rfl (.d rfl (Al hlwoff hoboff) (.d rfl rfl (.d rfl rfl (.d rfl rfl (.nil)))))))))) (.d rfl rfl (.nil))))
 conv=>cbv
 refine .go hlwoff fun c6 bw=>?_
 conv=>cbv
 refine .add fun c5 bz=>?_
 conv=>cbv
 generalize bf:Aw lwver c5 record=b9
 have zr14:=Cg bf
 refine .dd hP (Do (by omega) bf) ?_
 conv=>cbv
 generalize ao:Af lwbas=b3
 refine .dd hP (Cm ao) ?_
 conv=>cbv
 have hB:appB ((⟨rlnod,rlent,rlold,rlste,rlroo,rlnex⟩:Ac),(⟨lwver,lwstr,lwrol,lwbas,lwlin,lwoff,lwend,true,lwcod⟩:Aa))=((⟨rlnod,rlent,rlold,rlste,rlroo,rlnex⟩:Ac),(⟨lwver,lwstr,lwrol,lwbas,lwlin,lwoff,lwend,true,lwcod⟩:Aa)):=by unfold appB;rw[if_neg (by first|(simp;done)|(exfalso;omega)|(simp;omega))]
 rcases bm:Ao (⟨rlnod,rlent,rlold,rlste,rlroo,rlnex⟩:Ac) b3 b9 with⟨⟨aw,ax,ay,az,bg,bh⟩,c7⟩
 generalize bi:aw.map A8=cv
 generalize bj:ax.map Ae=cw
 generalize bk:ay.map Ae=cx
 generalize bl:az.map cS=cy
 refine .dd hP (Cy hrlnod hrlent hrlold hrlste hgA.1.1.1 hgA.1.1.2.2.1 hgA.1.1.2.2.2.2.1 (by omega) hgA.1.2.2 hgA.1 (by omega) bm bi bj bk bl) ?_
 conv=>cbv
 refine .neq (fun h17=>?_) fun h17=>?_
 conv=>cbv
 have hlf:Hj (⟨lwver,lwstr,lwrol,lwbas,lwlin,lwoff,lwend,true,lwcod⟩:Aa) record=b9:=by unfold Hj;dsimp only;rw[←bf,bz,bw]<;>first|rfl|(congr 1;omega)|(congr 1;simp;omega)|(congr 1;simp)
 have hca:Ao (⟨rlnod,rlent,rlold,rlste,rlroo,rlnex⟩:Ac) (Af lwbas) (Hj (⟨lwver,lwstr,lwrol,lwbas,lwlin,lwoff,lwend,true,lwcod⟩:Aa) record)=((⟨aw,ax,ay,az,bg,bh⟩:Ac),c7):=by rw[hlf,ao];exact bm
 have bo:Li (⟨rlnod,rlent,rlold,rlste,rlroo,rlnex⟩:Ac) (⟨lwver,lwstr,lwrol,lwbas,lwlin,lwoff,lwend,true,lwcod⟩:Aa) record=2:=by unfold Li;dsimp only;rw[hca];exact if_pos h17
 have hC:H0 ((⟨rlnod,rlent,rlold,rlste,rlroo,rlnex⟩:Ac),(⟨lwver,lwstr,lwrol,lwbas,lwlin,lwoff,lwend,true,lwcod⟩:Aa)) record=((⟨aw,ax,ay,az,bg,bh⟩:Ac),(⟨lwver,lwstr,lwrol,lwbas,lwlin,lwoff,lwend,true,2⟩:Aa)):=by unfold H0;rw[if_pos (by first|omega|(dsimp only;omega))];unfold Kh Rm;rw[bo,if_neg (by decide)];dsimp only;rw[hca]
 have e:((⟨aw,ax,ay,az,bg,bh⟩:Ac),(⟨lwver,lwstr,lwrol,lwbas,lwlin,lwoff,lwend,true,2⟩:Aa),2)=Ad (⟨Ag,Ak,Aj,Ah,An,Am⟩:Ac) (⟨wver,wstr,wrol,wbas,wlin,woff,wend,true,wcod⟩:Aa) record:=(by first|(exfalso;omega)|(unfold Ad;rw[if_pos (by omega)];done)|(unfold Ad;rw[if_neg (by omega),if_pos (by first|omega|(dsimp only;omega))];done)|(have hz:=Au (r:=record) (by omega) (by first|omega|(dsimp only;omega)) hA hB hC;exact hz)|(have hz:=Bb (r:=record) (by omega) (by first|omega|(dsimp only;omega)) hA hB (by first|omega|(dsimp only;omega));exact hz)|(have hz:=Be (r:=record) (by omega) (by first|omega|(dsimp only;omega)) hA (by first|omega|(dsimp only;omega));exact hz)|(have hz:=Au (r:=record) (by omega) (by first|omega|(dsimp only;omega)) hA hB hC;obtain rfl:wcod=0:=(by omega);exact hz)|(have hz:=Au (r:=record) (by omega) (by first|omega|(dsimp only;omega)) hA hB hC;obtain rfl:lwcod=0:=(by omega);exact hz))
 rw[hr]at e
 simp only[Prod.mk.injEq,Ac.mk.injEq,Aa.mk.injEq]at e
 obtain⟨⟨rfl,rfl,rfl,rfl,rfl,rfl⟩,⟨rfl,rfl,rfl,rfl,rfl,rfl,rfl,rfl,rfl⟩,rfl⟩:=e
 refine hQ _ _ ?_
 exact .many (.inl rfl) rfl rfl (.agg (.d rfl (Al bi A6) (.d rfl (Al bj A5) (.d rfl (Al bk A4) (.d rfl (Al bl A7) (.d rfl rfl (.d rfl rfl (.nil))))))) (.agg (.d rfl rfl (.d rfl rfl (.d rfl rfl (.d rfl rfl (.d rfl rfl (.d rfl (Al hlwoff hoboff) (.d rfl rfl (.d rfl rfl (.d rfl rfl (.nil)))))))))) (.d rfl rfl (.nil))))
 conv=>cbv
 first|(exfalso;omega)|exact absurd (hopA (by omega)) (by decide)
 conv=>cbv
 refine .neq (fun h11=>?_) fun h11=>?_
 conv=>cbv
 have e:((⟨rlnod,rlent,rlold,rlste,rlroo,rlnex⟩:Ac),(⟨lwver,lwstr,lwrol,lwbas,lwlin,lwoff,lwend,lwope,lwcod⟩:Aa),lwcod)=Ad (⟨Ag,Ak,Aj,Ah,An,Am⟩:Ac) (⟨wver,wstr,wrol,wbas,wlin,woff,wend,true,wcod⟩:Aa) record:=(by first|(exfalso;omega)|(unfold Ad;rw[if_pos (by omega)];done)|(unfold Ad;rw[if_neg (by omega),if_pos (by first|omega|(dsimp only;omega))];done)|(have hz:=Au (r:=record) (by omega) (by first|omega|(dsimp only;omega)) hA hB hC;exact hz)|(have hz:=Bb (r:=record) (by omega) (by first|omega|(dsimp only;omega)) hA hB (by first|omega|(dsimp only;omega));exact hz)|(have hz:=Be (r:=record) (by omega) (by first|omega|(dsimp only;omega)) hA (by first|omega|(dsimp only;omega));exact hz)|(have hz:=Au (r:=record) (by omega) (by first|omega|(dsimp only;omega)) hA hB hC;obtain rfl:wcod=0:=(by omega);exact hz)|(have hz:=Au (r:=record) (by omega) (by first|omega|(dsimp only;omega)) hA hB hC;obtain rfl:lwcod=0:=(by omega);exact hz))
 rw[hr]at e
 simp only[Prod.mk.injEq,Ac.mk.injEq,Aa.mk.injEq]at e
 obtain⟨⟨rfl,rfl,rfl,rfl,rfl,rfl⟩,⟨rfl,rfl,rfl,rfl,rfl,rfl,rfl,rfl,rfl⟩,rfl⟩:=e
 refine hQ _ _ ?_
 exact .many (.inl rfl) rfl rfl (.agg (.d rfl (Al hrlnod A6) (.d rfl (Al hrlent A5) (.d rfl (Al hrlold A4) (.d rfl (Al hrlste A7) (.d rfl rfl (.d rfl rfl (.nil))))))) (.agg (.d rfl rfl (.d rfl rfl (.d rfl rfl (.d rfl rfl (.d rfl rfl (.d rfl (Al hlwoff hoboff) (.d rfl rfl (.d rfl rfl (.d rfl rfl (.nil)))))))))) (.d rfl rfl (.nil))))
 conv=>cbv
 refine .go hlwoff fun c6 bw=>?_
 conv=>cbv
 refine .add fun c5 bz=>?_
 conv=>cbv
 generalize bf:Aw lwver c5 record=b9
 have zr14:=Cg bf
 refine .dd hP (Do (by omega) bf) ?_
 conv=>cbv
 generalize ao:Af lwbas=b3
 refine .dd hP (Cm ao) ?_
 conv=>cbv
 have hB:appB ((⟨rlnod,rlent,rlold,rlste,rlroo,rlnex⟩:Ac),(⟨lwver,lwstr,lwrol,lwbas,lwlin,lwoff,lwend,lwope,lwcod⟩:Aa))=((⟨rlnod,rlent,rlold,rlste,rlroo,rlnex⟩:Ac),(⟨lwver,lwstr,lwrol,lwbas,lwlin,lwoff,lwend,lwope,lwcod⟩:Aa)):=by unfold appB;rw[if_neg (by first|(simp;done)|(exfalso;omega)|(simp;omega))]
 rcases bm:Ao (⟨rlnod,rlent,rlold,rlste,rlroo,rlnex⟩:Ac) b3 b9 with⟨⟨aw,ax,ay,az,bg,bh⟩,c7⟩
 generalize bi:aw.map A8=cv
 generalize bj:ax.map Ae=cw
 generalize bk:ay.map Ae=cx
 generalize bl:az.map cS=cy
 refine .dd hP (Cy hrlnod hrlent hrlold hrlste hgA.1.1.1 hgA.1.1.2.2.1 hgA.1.1.2.2.2.2.1 (by omega) hgA.1.2.2 hgA.1 (by omega) bm bi bj bk bl) ?_
 conv=>cbv
 refine .neq (fun h17=>?_) fun h17=>?_
 conv=>cbv
 have hlf:Hj (⟨lwver,lwstr,lwrol,lwbas,lwlin,lwoff,lwend,lwope,lwcod⟩:Aa) record=b9:=by unfold Hj;dsimp only;rw[←bf,bz,bw]<;>first|rfl|(congr 1;omega)|(congr 1;simp;omega)|(congr 1;simp)
 have hca:Ao (⟨rlnod,rlent,rlold,rlste,rlroo,rlnex⟩:Ac) (Af lwbas) (Hj (⟨lwver,lwstr,lwrol,lwbas,lwlin,lwoff,lwend,lwope,lwcod⟩:Aa) record)=((⟨aw,ax,ay,az,bg,bh⟩:Ac),c7):=by rw[hlf,ao];exact bm
 have bo:Li (⟨rlnod,rlent,rlold,rlste,rlroo,rlnex⟩:Ac) (⟨lwver,lwstr,lwrol,lwbas,lwlin,lwoff,lwend,lwope,lwcod⟩:Aa) record=2:=by unfold Li;dsimp only;rw[hca];exact if_pos h17
 have hC:H0 ((⟨rlnod,rlent,rlold,rlste,rlroo,rlnex⟩:Ac),(⟨lwver,lwstr,lwrol,lwbas,lwlin,lwoff,lwend,lwope,lwcod⟩:Aa)) record=((⟨aw,ax,ay,az,bg,bh⟩:Ac),(⟨lwver,lwstr,lwrol,lwbas,lwlin,lwoff,lwend,lwope,2⟩:Aa)):=by unfold H0;rw[if_pos (by first|omega|(dsimp only;omega))];unfold Kh Rm;rw[bo,if_neg (by decide)];dsimp only;rw[hca]
 have e:((⟨aw,ax,ay,az,bg,bh⟩:Ac),(⟨lwver,lwstr,lwrol,lwbas,lwlin,lwoff,lwend,lwope,2⟩:Aa),2)=Ad (⟨Ag,Ak,Aj,Ah,An,Am⟩:Ac) (⟨wver,wstr,wrol,wbas,wlin,woff,wend,true,wcod⟩:Aa) record:=(by first|(exfalso;omega)|(unfold Ad;rw[if_pos (by omega)];done)|(unfold Ad;rw[if_neg (by omega),if_pos (by first|omega|(dsimp only;omega))];done)|(have hz:=Au (r:=record) (by omega) (by first|omega|(dsimp only;omega)) hA hB hC;exact hz)|(have hz:=Bb (r:=record) (by omega) (by first|omega|(dsimp only;omega)) hA hB (by first|omega|(dsimp only;omega));exact hz)|(have hz:=Be (r:=record) (by omega) (by first|omega|(dsimp only;omega)) hA (by first|omega|(dsimp only;omega));exact hz)|(have hz:=Au (r:=record) (by omega) (by first|omega|(dsimp only;omega)) hA hB hC;obtain rfl:wcod=0:=(by omega);exact hz)|(have hz:=Au (r:=record) (by omega) (by first|omega|(dsimp only;omega)) hA hB hC;obtain rfl:lwcod=0:=(by omega);exact hz))
 rw[hr]at e
 simp only[Prod.mk.injEq,Ac.mk.injEq,Aa.mk.injEq]at e
 obtain⟨⟨rfl,rfl,rfl,rfl,rfl,rfl⟩,⟨rfl,rfl,rfl,rfl,rfl,rfl,rfl,rfl,rfl⟩,rfl⟩:=e
 refine hQ _ _ ?_
 exact .many (.inl rfl) rfl rfl (.agg (.d rfl (Al bi A6) (.d rfl (Al bj A5) (.d rfl (Al bk A4) (.d rfl (Al bl A7) (.d rfl rfl (.d rfl rfl (.nil))))))) (.agg (.d rfl rfl (.d rfl rfl (.d rfl rfl (.d rfl rfl (.d rfl rfl (.d rfl (Al hlwoff hoboff) (.d rfl rfl (.d rfl rfl (.d rfl rfl (.nil)))))))))) (.d rfl rfl (.nil))))
 conv=>cbv
 first|(exfalso;omega)|exact absurd (hopA (by omega)) (by decide)
 conv=>cbv
 refine .eql (fun h9=>?_) fun h9=>?_
 conv=>cbv
 refine .neq (fun h10=>?_) fun h10=>?_
 conv=>cbv
 have e:((⟨Ag,Ak,Aj,Ah,An,Am⟩:Ac),(⟨wver,wstr,wrol,wbas,wlin,woff,wend,true,wcod⟩:Aa),wcod)=Ad (⟨Ag,Ak,Aj,Ah,An,Am⟩:Ac) (⟨wver,wstr,wrol,wbas,wlin,woff,wend,true,wcod⟩:Aa) record:=(by first|(exfalso;omega)|(unfold Ad;rw[if_pos (by omega)];done)|(unfold Ad;rw[if_neg (by omega),if_pos (by first|omega|(dsimp only;omega))];done)|(have hz:=Au (r:=record) (by omega) (by first|omega|(dsimp only;omega)) hA hB hC;exact hz)|(have hz:=Bb (r:=record) (by omega) (by first|omega|(dsimp only;omega)) hA hB (by first|omega|(dsimp only;omega));exact hz)|(have hz:=Be (r:=record) (by omega) (by first|omega|(dsimp only;omega)) hA (by first|omega|(dsimp only;omega));exact hz)|(have hz:=Au (r:=record) (by omega) (by first|omega|(dsimp only;omega)) hA hB hC;obtain rfl:wcod=0:=(by omega);exact hz)|(have hz:=Au (r:=record) (by omega) (by first|omega|(dsimp only;omega)) hA hB hC;obtain rfl:lwcod=0:=(by omega);exact hz))
 rw[hr]at e
 simp only[Prod.mk.injEq,Ac.mk.injEq,Aa.mk.injEq]at e
 obtain⟨⟨rfl,rfl,rfl,rfl,rfl,rfl⟩,⟨rfl,rfl,rfl,rfl,rfl,rfl,rfl,rfl,rfl⟩,rfl⟩:=e
 refine hQ _ _ ?_
 exact .many (.inl rfl) rfl rfl (.agg (.d rfl (Al Aq A6) (.d rfl (Al As A5) (.d rfl (Al Av A4) (.d rfl (Al At A7) (.d rfl rfl (.d rfl rfl (.nil))))))) (.agg (.d rfl rfl (.d rfl rfl (.d rfl rfl (.d rfl rfl (.d rfl rfl (.ref rfl (Ap hwoff) (Bk hwoff hoboff) (.d rfl rfl (.d rfl rfl (.d rfl rfl (.nil)))))))))) (.d rfl rfl (.nil))))
 conv=>cbv
 refine .go fun d2 cb=>?_
 conv=>cbv
 refine .add fun c6 bw=>?_
 conv=>cbv
 generalize a4:Aw wver c6 record=cf
 have zr13:=Cg a4
 refine .dd hP (Do (by omega) a4) ?_
 conv=>cbv
 generalize bf:Af wbas=b9
 refine .dd hP (Cm bf) ?_
 conv=>cbv
 have hA:O8 (⟨Ag,Ak,Aj,Ah,An,Am⟩:Ac) (⟨wver,wstr,wrol,wbas,wlin,woff,wend,true,wcod⟩:Aa)=((⟨Ag,Ak,Aj,Ah,An,Am⟩:Ac),(⟨wver,wstr,wrol,wbas,wlin,woff,wend,true,wcod⟩:Aa)):=by unfold O8;rw[if_neg (by first|(simp;done)|(exfalso;omega)|(simp;omega))]
 have hB:appB ((⟨Ag,Ak,Aj,Ah,An,Am⟩:Ac),(⟨wver,wstr,wrol,wbas,wlin,woff,wend,true,wcod⟩:Aa))=((⟨Ag,Ak,Aj,Ah,An,Am⟩:Ac),(⟨wver,wstr,wrol,wbas,wlin,woff,wend,true,wcod⟩:Aa)):=by unfold appB;rw[if_neg (by first|(simp;done)|(exfalso;omega)|(simp;omega))]
 rcases ao:Ao (⟨Ag,Ak,Aj,Ah,An,Am⟩:Ac) b9 cf with⟨⟨aa,ab,ac,ad,ae,af⟩,cc⟩
 generalize a0:aa.map A8=cz
 generalize a1:ab.map Ae=c0
 generalize a2:ac.map Ae=c1
 generalize a3:ad.map cS=c2
 refine .dd hP (Cy Aq As Av At a5.1.1 a5.1.2.2.1 a5.1.2.2.2.2.1 (by omega) a5.2.2 a5 (by omega) ao a0 a1 a2 a3) ?_
 conv=>cbv
 refine .neq (fun h16=>?_) fun h16=>?_
 conv=>cbv
 have hlf:Hj (⟨wver,wstr,wrol,wbas,wlin,woff,wend,true,wcod⟩:Aa) record=cf:=by unfold Hj;dsimp only;rw[←a4,bw,cb]<;>first|rfl|(congr 1;omega)|(congr 1;simp;omega)|(congr 1;simp)
 have hca:Ao (⟨Ag,Ak,Aj,Ah,An,Am⟩:Ac) (Af wbas) (Hj (⟨wver,wstr,wrol,wbas,wlin,woff,wend,true,wcod⟩:Aa) record)=((⟨aa,ab,ac,ad,ae,af⟩:Ac),cc):=by rw[hlf,bf];exact ao
 have bo:Li (⟨Ag,Ak,Aj,Ah,An,Am⟩:Ac) (⟨wver,wstr,wrol,wbas,wlin,woff,wend,true,wcod⟩:Aa) record=2:=by unfold Li;dsimp only;rw[hca];exact if_pos h16
 have hC:H0 ((⟨Ag,Ak,Aj,Ah,An,Am⟩:Ac),(⟨wver,wstr,wrol,wbas,wlin,woff,wend,true,wcod⟩:Aa)) record=((⟨aa,ab,ac,ad,ae,af⟩:Ac),(⟨wver,wstr,wrol,wbas,wlin,woff,wend,true,2⟩:Aa)):=by unfold H0;rw[if_pos (by first|omega|(dsimp only;omega))];unfold Kh Rm;rw[bo,if_neg (by decide)];dsimp only;rw[hca]
 have e:((⟨aa,ab,ac,ad,ae,af⟩:Ac),(⟨wver,wstr,wrol,wbas,wlin,woff,wend,true,2⟩:Aa),2)=Ad (⟨Ag,Ak,Aj,Ah,An,Am⟩:Ac) (⟨wver,wstr,wrol,wbas,wlin,woff,wend,true,wcod⟩:Aa) record:=(by first|(exfalso;omega)|(unfold Ad;rw[if_pos (by omega)];done)|(unfold Ad;rw[if_neg (by omega),if_pos (by first|omega|(dsimp only;omega))];done)|(have hz:=Au (r:=record) (by omega) (by first|omega|(dsimp only;omega)) hA hB hC;exact hz)|(have hz:=Bb (r:=record) (by omega) (by first|omega|(dsimp only;omega)) hA hB (by first|omega|(dsimp only;omega));exact hz)|(have hz:=Be (r:=record) (by omega) (by first|omega|(dsimp only;omega)) hA (by first|omega|(dsimp only;omega));exact hz)|(have hz:=Au (r:=record) (by omega) (by first|omega|(dsimp only;omega)) hA hB hC;obtain rfl:wcod=0:=(by omega);exact hz)|(have hz:=Au (r:=record) (by omega) (by first|omega|(dsimp only;omega)) hA hB hC;obtain rfl:lwcod=0:=(by omega);exact hz))
 rw[hr]at e
 simp only[Prod.mk.injEq,Ac.mk.injEq,Aa.mk.injEq]at e
 obtain⟨⟨rfl,rfl,rfl,rfl,rfl,rfl⟩,⟨rfl,rfl,rfl,rfl,rfl,rfl,rfl,rfl,rfl⟩,rfl⟩:=e
 refine hQ _ _ ?_
 exact .many (.inl rfl) rfl rfl (.agg (.d rfl (Al a0 A6) (.d rfl (Al a1 A5) (.d rfl (Al a2 A4) (.d rfl (Al a3 A7) (.d rfl rfl (.d rfl rfl (.nil))))))) (.agg (.d rfl rfl (.d rfl rfl (.d rfl rfl (.d rfl rfl (.d rfl rfl (.ref rfl (Ap hwoff) (Bk hwoff hoboff) (.d rfl rfl (.d rfl rfl (.d rfl rfl (.nil)))))))))) (.d rfl rfl (.nil))))
 conv=>cbv
 refine .one wend hwoff rfl fun dw d3 di cd=>?_
 conv=>cbv
 refine .go fun d4 c8=>?_
 conv=>cbv
 refine .add fun c9 da=>?_
 conv=>cbv
 have hlf:Hj (⟨wver,wstr,wrol,wbas,wlin,woff,wend,true,wcod⟩:Aa) record=cf:=by unfold Hj;dsimp only;rw[←a4,bw,cb]<;>first|rfl|(congr 1;omega)|(congr 1;simp;omega)|(congr 1;simp)
 have hca:Ao (⟨Ag,Ak,Aj,Ah,An,Am⟩:Ac) (Af wbas) (Hj (⟨wver,wstr,wrol,wbas,wlin,woff,wend,true,wcod⟩:Aa) record)=((⟨aa,ab,ac,ad,ae,af⟩:Ac),cc):=by rw[hlf,bf];exact ao
 have ce:Li (⟨Ag,Ak,Aj,Ah,An,Am⟩:Ac) (⟨wver,wstr,wrol,wbas,wlin,woff,wend,true,wcod⟩:Aa) record=0:=by unfold Li;dsimp only;rw[hca];exact if_neg (by first|omega|(dsimp only;omega))
 have hC:H0 ((⟨Ag,Ak,Aj,Ah,An,Am⟩:Ac),(⟨wver,wstr,wrol,wbas,wlin,woff,wend,true,wcod⟩:Aa)) record=((⟨aa,ab,ac,ad,ae,af⟩:Ac),(⟨wver,wstr,wrol,wbas,wlin,woff++[wend],c9,true,wcod⟩:Aa)):=by unfold H0;rw[if_pos (by first|omega|(dsimp only;omega))];unfold Kh Rm;rw[ce,if_pos rfl];dsimp only;rw[hca,hlf,da,c8]
 have e:((⟨aa,ab,ac,ad,ae,af⟩:Ac),(⟨wver,wstr,wrol,wbas,wlin,woff++[wend],c9,true,wcod⟩:Aa),0)=Ad (⟨Ag,Ak,Aj,Ah,An,Am⟩:Ac) (⟨wver,wstr,wrol,wbas,wlin,woff,wend,true,wcod⟩:Aa) record:=(by first|(exfalso;omega)|(unfold Ad;rw[if_pos (by omega)];done)|(unfold Ad;rw[if_neg (by omega),if_pos (by first|omega|(dsimp only;omega))];done)|(have hz:=Au (r:=record) (by omega) (by first|omega|(dsimp only;omega)) hA hB hC;exact hz)|(have hz:=Bb (r:=record) (by omega) (by first|omega|(dsimp only;omega)) hA hB (by first|omega|(dsimp only;omega));exact hz)|(have hz:=Be (r:=record) (by omega) (by first|omega|(dsimp only;omega)) hA (by first|omega|(dsimp only;omega));exact hz)|(have hz:=Au (r:=record) (by omega) (by first|omega|(dsimp only;omega)) hA hB hC;obtain rfl:wcod=0:=(by omega);exact hz)|(have hz:=Au (r:=record) (by omega) (by first|omega|(dsimp only;omega)) hA hB hC;obtain rfl:lwcod=0:=(by omega);exact hz))
 rw[hr]at e
 simp only[Prod.mk.injEq,Ac.mk.injEq,Aa.mk.injEq]at e
 obtain⟨⟨rfl,rfl,rfl,rfl,rfl,rfl⟩,⟨rfl,rfl,rfl,rfl,rfl,rfl,rfl,rfl,rfl⟩,rfl⟩:=e
 refine hQ _ _ ?_
 exact .many (.inl rfl) rfl rfl (.agg (.d rfl (Al a0 A6) (.d rfl (Al a1 A5) (.d rfl (Al a2 A4) (.d rfl (Al a3 A7) (.d rfl rfl (.d rfl rfl (.nil))))))) (.agg (.d rfl rfl (.d rfl rfl (.d rfl rfl (.d rfl rfl (.d rfl rfl (.ref rfl (Ap cd) (Bk cd hoboff) (.d rfl rfl (.d rfl rfl (.d rfl rfl (.nil)))))))))) (.d rfl rfl (.nil))))
 conv=>cbv
 refine .neq (fun h10=>?_) fun h10=>?_
 conv=>cbv
 have e:((⟨Ag,Ak,Aj,Ah,An,Am⟩:Ac),(⟨wver,wstr,wrol,wbas,wlin,woff,wend,true,wcod⟩:Aa),wcod)=Ad (⟨Ag,Ak,Aj,Ah,An,Am⟩:Ac) (⟨wver,wstr,wrol,wbas,wlin,woff,wend,true,wcod⟩:Aa) record:=(by first|(exfalso;omega)|(unfold Ad;rw[if_pos (by omega)];done)|(unfold Ad;rw[if_neg (by omega),if_pos (by first|omega|(dsimp only;omega))];done)|(have hz:=Au (r:=record) (by omega) (by first|omega|(dsimp only;omega)) hA hB hC;exact hz)|(have hz:=Bb (r:=record) (by omega) (by first|omega|(dsimp only;omega)) hA hB (by first|omega|(dsimp only;omega));exact hz)|(have hz:=Be (r:=record) (by omega) (by first|omega|(dsimp only;omega)) hA (by first|omega|(dsimp only;omega));exact hz)|(have hz:=Au (r:=record) (by omega) (by first|omega|(dsimp only;omega)) hA hB hC;obtain rfl:wcod=0:=(by omega);exact hz)|(have hz:=Au (r:=record) (by omega) (by first|omega|(dsimp only;omega)) hA hB hC;obtain rfl:lwcod=0:=(by omega);exact hz))
 rw[hr]at e
 simp only[Prod.mk.injEq,Ac.mk.injEq,Aa.mk.injEq]at e
 obtain⟨⟨rfl,rfl,rfl,rfl,rfl,rfl⟩,⟨rfl,rfl,rfl,rfl,rfl,rfl,rfl,rfl,rfl⟩,rfl⟩:=e
 refine hQ _ _ ?_
 exact .many (.inl rfl) rfl rfl (.agg (.d rfl (Al Aq A6) (.d rfl (Al As A5) (.d rfl (Al Av A4) (.d rfl (Al At A7) (.d rfl rfl (.d rfl rfl (.nil))))))) (.agg (.d rfl rfl (.d rfl rfl (.d rfl rfl (.d rfl rfl (.d rfl rfl (.ref rfl (Ap hwoff) (Bk hwoff hoboff) (.d rfl rfl (.d rfl rfl (.d rfl rfl (.nil)))))))))) (.d rfl rfl (.nil))))
 conv=>cbv
 refine .go fun d2 cb=>?_
 conv=>cbv
 refine .add fun c6 bw=>?_
 conv=>cbv
 generalize a4:Aw wver c6 record=cf
 have zr13:=Cg a4
 refine .dd hP (Do (by omega) a4) ?_
 conv=>cbv
 generalize bf:Af wbas=b9
 refine .dd hP (Cm bf) ?_
 conv=>cbv
 have hA:O8 (⟨Ag,Ak,Aj,Ah,An,Am⟩:Ac) (⟨wver,wstr,wrol,wbas,wlin,woff,wend,true,wcod⟩:Aa)=((⟨Ag,Ak,Aj,Ah,An,Am⟩:Ac),(⟨wver,wstr,wrol,wbas,wlin,woff,wend,true,wcod⟩:Aa)):=by unfold O8;rw[if_neg (by first|(simp;done)|(exfalso;omega)|(simp;omega))]
 have hB:appB ((⟨Ag,Ak,Aj,Ah,An,Am⟩:Ac),(⟨wver,wstr,wrol,wbas,wlin,woff,wend,true,wcod⟩:Aa))=((⟨Ag,Ak,Aj,Ah,An,Am⟩:Ac),(⟨wver,wstr,wrol,wbas,wlin,woff,wend,true,wcod⟩:Aa)):=by unfold appB;rw[if_neg (by first|(simp;done)|(exfalso;omega)|(simp;omega))]
 rcases ao:Ao (⟨Ag,Ak,Aj,Ah,An,Am⟩:Ac) b9 cf with⟨⟨aa,ab,ac,ad,ae,af⟩,cc⟩
 generalize a0:aa.map A8=cz
 generalize a1:ab.map Ae=c0
 generalize a2:ac.map Ae=c1
 generalize a3:ad.map cS=c2
 refine .dd hP (Cy Aq As Av At a5.1.1 a5.1.2.2.1 a5.1.2.2.2.2.1 (by omega) a5.2.2 a5 (by omega) ao a0 a1 a2 a3) ?_
 conv=>cbv
 refine .neq (fun h16=>?_) fun h16=>?_
 conv=>cbv
 have hlf:Hj (⟨wver,wstr,wrol,wbas,wlin,woff,wend,true,wcod⟩:Aa) record=cf:=by unfold Hj;dsimp only;rw[←a4,bw,cb]<;>first|rfl|(congr 1;omega)|(congr 1;simp;omega)|(congr 1;simp)
 have hca:Ao (⟨Ag,Ak,Aj,Ah,An,Am⟩:Ac) (Af wbas) (Hj (⟨wver,wstr,wrol,wbas,wlin,woff,wend,true,wcod⟩:Aa) record)=((⟨aa,ab,ac,ad,ae,af⟩:Ac),cc):=by rw[hlf,bf];exact ao
 have bo:Li (⟨Ag,Ak,Aj,Ah,An,Am⟩:Ac) (⟨wver,wstr,wrol,wbas,wlin,woff,wend,true,wcod⟩:Aa) record=2:=by unfold Li;dsimp only;rw[hca];exact if_pos h16
 have hC:H0 ((⟨Ag,Ak,Aj,Ah,An,Am⟩:Ac),(⟨wver,wstr,wrol,wbas,wlin,woff,wend,true,wcod⟩:Aa)) record=((⟨aa,ab,ac,ad,ae,af⟩:Ac),(⟨wver,wstr,wrol,wbas,wlin,woff,wend,true,2⟩:Aa)):=by unfold H0;rw[if_pos (by first|omega|(dsimp only;omega))];unfold Kh Rm;rw[bo,if_neg (by decide)];dsimp only;rw[hca]
 have e:((⟨aa,ab,ac,ad,ae,af⟩:Ac),(⟨wver,wstr,wrol,wbas,wlin,woff,wend,true,2⟩:Aa),2)=Ad (⟨Ag,Ak,Aj,Ah,An,Am⟩:Ac) (⟨wver,wstr,wrol,wbas,wlin,woff,wend,true,wcod⟩:Aa) record:=(by first|(exfalso;omega)|(unfold Ad;rw[if_pos (by omega)];done)|(unfold Ad;rw[if_neg (by omega),if_pos (by first|omega|(dsimp only;omega))];done)|(have hz:=Au (r:=record) (by omega) (by first|omega|(dsimp only;omega)) hA hB hC;exact hz)|(have hz:=Bb (r:=record) (by omega) (by first|omega|(dsimp only;omega)) hA hB (by first|omega|(dsimp only;omega));exact hz)|(have hz:=Be (r:=record) (by omega) (by first|omega|(dsimp only;omega)) hA (by first|omega|(dsimp only;omega));exact hz)|(have hz:=Au (r:=record) (by omega) (by first|omega|(dsimp only;omega)) hA hB hC;obtain rfl:wcod=0:=(by omega);exact hz)|(have hz:=Au (r:=record) (by omega) (by first|omega|(dsimp only;omega)) hA hB hC;obtain rfl:lwcod=0:=(by omega);exact hz))
 rw[hr]at e
 simp only[Prod.mk.injEq,Ac.mk.injEq,Aa.mk.injEq]at e
 obtain⟨⟨rfl,rfl,rfl,rfl,rfl,rfl⟩,⟨rfl,rfl,rfl,rfl,rfl,rfl,rfl,rfl,rfl⟩,rfl⟩:=e
 refine hQ _ _ ?_
 exact .many (.inl rfl) rfl rfl (.agg (.d rfl (Al a0 A6) (.d rfl (Al a1 A5) (.d rfl (Al a2 A4) (.d rfl (Al a3 A7) (.d rfl rfl (.d rfl rfl (.nil))))))) (.agg (.d rfl rfl (.d rfl rfl (.d rfl rfl (.d rfl rfl (.d rfl rfl (.ref rfl (Ap hwoff) (Bk hwoff hoboff) (.d rfl rfl (.d rfl rfl (.d rfl rfl (.nil)))))))))) (.d rfl rfl (.nil))))
 conv=>cbv
 refine .one wend hwoff rfl fun dw d3 di cd=>?_
 conv=>cbv
 refine .go fun d4 c8=>?_
 conv=>cbv
 refine .add fun c9 da=>?_
 conv=>cbv
 have hlf:Hj (⟨wver,wstr,wrol,wbas,wlin,woff,wend,true,wcod⟩:Aa) record=cf:=by unfold Hj;dsimp only;rw[←a4,bw,cb]<;>first|rfl|(congr 1;omega)|(congr 1;simp;omega)|(congr 1;simp)
 have hca:Ao (⟨Ag,Ak,Aj,Ah,An,Am⟩:Ac) (Af wbas) (Hj (⟨wver,wstr,wrol,wbas,wlin,woff,wend,true,wcod⟩:Aa) record)=((⟨aa,ab,ac,ad,ae,af⟩:Ac),cc):=by rw[hlf,bf];exact ao
 have ce:Li (⟨Ag,Ak,Aj,Ah,An,Am⟩:Ac) (⟨wver,wstr,wrol,wbas,wlin,woff,wend,true,wcod⟩:Aa) record=0:=by unfold Li;dsimp only;rw[hca];exact if_neg (by first|omega|(dsimp only;omega))
 have hC:H0 ((⟨Ag,Ak,Aj,Ah,An,Am⟩:Ac),(⟨wver,wstr,wrol,wbas,wlin,woff,wend,true,wcod⟩:Aa)) record=((⟨aa,ab,ac,ad,ae,af⟩:Ac),(⟨wver,wstr,wrol,wbas,wlin,woff++[wend],c9,true,wcod⟩:Aa)):=by unfold H0;rw[if_pos (by first|omega|(dsimp only;omega))];unfold Kh Rm;rw[ce,if_pos rfl];dsimp only;rw[hca,hlf,da,c8]
 have e:((⟨aa,ab,ac,ad,ae,af⟩:Ac),(⟨wver,wstr,wrol,wbas,wlin,woff++[wend],c9,true,wcod⟩:Aa),0)=Ad (⟨Ag,Ak,Aj,Ah,An,Am⟩:Ac) (⟨wver,wstr,wrol,wbas,wlin,woff,wend,true,wcod⟩:Aa) record:=(by first|(exfalso;omega)|(unfold Ad;rw[if_pos (by omega)];done)|(unfold Ad;rw[if_neg (by omega),if_pos (by first|omega|(dsimp only;omega))];done)|(have hz:=Au (r:=record) (by omega) (by first|omega|(dsimp only;omega)) hA hB hC;exact hz)|(have hz:=Bb (r:=record) (by omega) (by first|omega|(dsimp only;omega)) hA hB (by first|omega|(dsimp only;omega));exact hz)|(have hz:=Be (r:=record) (by omega) (by first|omega|(dsimp only;omega)) hA (by first|omega|(dsimp only;omega));exact hz)|(have hz:=Au (r:=record) (by omega) (by first|omega|(dsimp only;omega)) hA hB hC;obtain rfl:wcod=0:=(by omega);exact hz)|(have hz:=Au (r:=record) (by omega) (by first|omega|(dsimp only;omega)) hA hB hC;obtain rfl:lwcod=0:=(by omega);exact hz))
 rw[hr]at e
 simp only[Prod.mk.injEq,Ac.mk.injEq,Aa.mk.injEq]at e
 obtain⟨⟨rfl,rfl,rfl,rfl,rfl,rfl⟩,⟨rfl,rfl,rfl,rfl,rfl,rfl,rfl,rfl,rfl⟩,rfl⟩:=e
 refine hQ _ _ ?_
 exact .many (.inl rfl) rfl rfl (.agg (.d rfl (Al a0 A6) (.d rfl (Al a1 A5) (.d rfl (Al a2 A4) (.d rfl (Al a3 A7) (.d rfl rfl (.d rfl rfl (.nil))))))) (.agg (.d rfl rfl (.d rfl rfl (.d rfl rfl (.d rfl rfl (.d rfl rfl (.ref rfl (Ap cd) (Bk cd hoboff) (.d rfl rfl (.d rfl rfl (.d rfl rfl (.nil)))))))))) (.d rfl rfl (.nil))))
end
end Go.Proofs.YtgdmjbcllgmepaaGreatDoor.Ab
