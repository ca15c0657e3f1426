/- What functions of the program come to, for all arguments in the given bounds. -/
import Derived.Test.YtgdmjbcllgmepaaGreatDoorFrch16
import Derived.Test.YtgdmjbcllgmepaaGreatDoorFrZ9
set_option linter.unusedVariables false
set_option linter.unusedSimpArgs false
namespace Go.Proofs.YtgdmjbcllgmepaaGreatDoor.Ab
section
open Go Go.Proofs
set_option maxRecDepth 20000
set_option maxHeartbeats 4000000
def Zi:List (Nat×TyRow):=[ty3,ty4,ty9,XhQ,Xbd,ty41]
theorem Y0:B1 Tryz.prog Zi:=B1.of (by kernel_rfl)
theorem Xdj:Setup Tryz.prog Zi:=⟨Y0,mixed⟩
theorem Av{d:Ac}{w:Aa}{r:ByteArray}{a b c:Ac×Aa}(h1:¬60<r.size)(h2:¬w.code_≠0)(hA:Pu d w=a)(hB:appB a=b)(hC:Im b r=c):(c.1,c.2,c.2.code_)=Ad d w r:=by
 unfold Ad
 rw[if_neg h1,if_neg h2,hA,hB,hC]
theorem Bc{d:Ac}{w:Aa}{r:ByteArray}{a b:Ac×Aa}(h1:¬60<r.size)(h2:¬w.code_≠0)(hA:Pu d w=a)(hB:appB a=b)(hC:b.2.code_≠0):(b.1,b.2,b.2.code_)=Ad d w r:=Av h1 h2 hA hB (if_neg hC)
theorem Bg{d:Ac}{w:Aa}{r:ByteArray}{a:Ac×Aa}(h1:¬60<r.size)(h2:¬w.code_≠0)(hA:Pu d w=a)(hC:a.2.code_≠0):(a.1,a.2,a.2.code_)=Ad d w r:=Bc h1 h2 hA (if_neg fun h=>hC h.1) hC
theorem Vh{d:Ac}{w:Aa}(hw:w.code_=0)(h:(Rv d w).code_=0):(Rv d w).open_=false:=by
 unfold Rv at h⊢
 split at h
 ·rename_i hc
  rw[if_pos hc]
 ·cases h
theorem V5{d a:Ac}{w b:Aa}{c:Int}(h1:w.open_=true)(h2:w.code_=0)(h:Bx d w=(a,b,c)):U4 d w=a∧Rv d w=b:=by
 unfold Bx at h
 rw[if_neg (by rw[h1,h2];simp)]at h
 simp only[Prod.mk.injEq]at h
 exact⟨h.1,h.2.1⟩
variable {Ah F4:List Bs} {Bk Bh Bf Bl xwoff D5 D3 D0 Dz xoboff:List (List D)} {Ak Aj F6 F9:List Al} {Ai Ga:List ByteArray} {An Am wver wstr wrol wbas wlin wend wcod F7 F5 obver obstr obrol obbas oblin obend obcod oc:Int} {woff oboff:List Int} {wope obope:Bool} {record:ByteArray} {k:Nat}
theorem Xbg(Ap:Ah.map A5=Bk)(As:Ak.map Ae=Bh)(Au:Aj.map Ae=Bf)(At:Ai.map cS=Bl)(hwoff:woff.map cI=xwoff)(aa:H2 (⟨Ah,Ak,Aj,Ai,An,Am⟩:Ac))(hst:Ai.length<800000000)(hw:Oi k (⟨wver,wstr,wrol,wbas,wlin,woff,wend,wope,wcod⟩:Aa))(hk:k≤1000000)(hr:Ad (⟨Ah,Ak,Aj,Ai,An,Am⟩:Ac) (⟨wver,wstr,wrol,wbas,wlin,woff,wend,wope,wcod⟩:Aa) record=(⟨F4,F6,F9,Ga,F7,F5⟩,⟨obver,obstr,obrol,obbas,oblin,oboff,obend,obope,obcod⟩,oc))(A0:F4.map A5=D5)(A3:F6.map Ae=D3)(A1:F9.map Ae=D0)(A2:Ga.map cS=Dz)(hoboff:oboff.map cI=xoboff):Fn Tryz.prog 79 [.agg [.d (.row 3 Bk),.d (.row 2 Bh),.d (.row 2 Bf),.d (.row 1 Bl),I An,I Am],.agg [I wver,I wstr,I wrol,I wbas,I wlin,.d (.row 1 xwoff),I wend,B wope,I wcod],S record] [] ⟨.tup [.agg [.d (.row 3 D5),.d (.row 2 D3),.d (.row 2 D0),.d (.row 1 Dz),I F7,I F5],.agg [I obver,I obstr,I obrol,I obbas,I oblin,.d (.row 1 xoboff),I obend,B obope,I obcod],I oc],[],[]⟩:=by
 refine Fn.go Xdj Tryz.func79 fun P hP Q hQ=>?_
 conv=>cbv
 have ad:Ah.length≤1000000000:=aa.1.1
 have ae:Ak.length≤1000000000:=aa.1.2.2.1
 have af:Aj.length≤1000000000:=aa.1.2.2.2.2.1
 have ab:=Qp hw hk
 simp only[]at ab
 have h_hb_:=hw
 obtain⟨hb_1,hb_2,hb_3,hb_4,-⟩:=h_hb_
 try (simp only[]at hb_1 hb_2 hb_3 hb_4)
 cases wope
 refine .dd hP (O3 hwoff (by omega)) ?_
 conv=>cbv
 refine .dd hP (Lu Ap As Au At (by omega) (by omega) (by omega) (by omega)) ?_
 conv=>cbv
 refine .go fun v3 ag=>?_
 conv=>cbv
 refine .gtr (fun h4=>?_) fun h4=>?_
 conv=>cbv
 have e:((⟨Ah,Ak,Aj,Ai,An,Am⟩:Ac),(⟨wver,wstr,wrol,wbas,wlin,woff,wend,false,wcod⟩:Aa),1)=Ad (⟨Ah,Ak,Aj,Ai,An,Am⟩:Ac) (⟨wver,wstr,wrol,wbas,wlin,woff,wend,false,wcod⟩:Aa) record:=(by first|(exfalso;omega)|(unfold Ad;rw[if_pos (by omega)];done)|(unfold Ad;rw[if_neg (by omega),if_pos (by first|omega|(dsimp only;omega))];done)|(have hz:=Av (r:=record) (by omega) (by first|omega|(dsimp only;omega)) hA hB hC;exact hz)|(have hz:=Bc (r:=record) (by omega) (by first|omega|(dsimp only;omega)) hA hB (by first|omega|(dsimp only;omega));exact hz)|(have hz:=Bg (r:=record) (by omega) (by first|omega|(dsimp only;omega)) hA (by first|omega|(dsimp only;omega));exact hz))
 rw[hr]at e
 simp only[Prod.mk.injEq,Ac.mk.injEq,Aa.mk.injEq]at e
 obtain⟨⟨rfl,rfl,rfl,rfl,rfl,rfl⟩,⟨rfl,rfl,rfl,rfl,rfl,rfl,rfl,rfl,rfl⟩,rfl⟩:=e
 refine hQ _ _ ?_
 exact .many (.inl rfl) rfl rfl (.agg (.d rfl (Ag Ap A0) (.d rfl (Ag As A3) (.d rfl (Ag Au A1) (.d rfl (Ag At A2) (.d rfl rfl (.d rfl rfl (.nil))))))) (.agg (.d rfl rfl (.d rfl rfl (.d rfl rfl (.d rfl rfl (.d rfl rfl (.d rfl (Ag hwoff hoboff) (.d rfl rfl (.d rfl rfl (.d rfl rfl (.nil)))))))))) (.d rfl rfl (.nil))))
 conv=>cbv
 refine .neq (fun h5=>?_) fun h5=>?_
 conv=>cbv
 have e:((⟨Ah,Ak,Aj,Ai,An,Am⟩:Ac),(⟨wver,wstr,wrol,wbas,wlin,woff,wend,false,wcod⟩:Aa),wcod)=Ad (⟨Ah,Ak,Aj,Ai,An,Am⟩:Ac) (⟨wver,wstr,wrol,wbas,wlin,woff,wend,false,wcod⟩:Aa) record:=(by first|(exfalso;omega)|(unfold Ad;rw[if_pos (by omega)];done)|(unfold Ad;rw[if_neg (by omega),if_pos (by first|omega|(dsimp only;omega))];done)|(have hz:=Av (r:=record) (by omega) (by first|omega|(dsimp only;omega)) hA hB hC;exact hz)|(have hz:=Bc (r:=record) (by omega) (by first|omega|(dsimp only;omega)) hA hB (by first|omega|(dsimp only;omega));exact hz)|(have hz:=Bg (r:=record) (by omega) (by first|omega|(dsimp only;omega)) hA (by first|omega|(dsimp only;omega));exact hz))
 rw[hr]at e
 simp only[Prod.mk.injEq,Ac.mk.injEq,Aa.mk.injEq]at e
 obtain⟨⟨rfl,rfl,rfl,rfl,rfl,rfl⟩,⟨rfl,rfl,rfl,rfl,rfl,rfl,rfl,rfl,rfl⟩,rfl⟩:=e
 refine hQ _ _ ?_
 exact .many (.inl rfl) rfl rfl (.agg (.d rfl (Ag Ap A0) (.d rfl (Ag As A3) (.d rfl (Ag Au A1) (.d rfl (Ag At A2) (.d rfl rfl (.d rfl rfl (.nil))))))) (.agg (.d rfl rfl (.d rfl rfl (.d rfl rfl (.d rfl rfl (.d rfl rfl (.d rfl (Ag hwoff hoboff) (.d rfl rfl (.d rfl rfl (.d rfl rfl (.nil)))))))))) (.d rfl rfl (.nil))))
 conv=>cbv
 refine .eql (fun h6=>?_) fun h6=>?_
 conv=>cbv
 have hA:Pu (⟨Ah,Ak,Aj,Ai,An,Am⟩:Ac) (⟨wver,wstr,wrol,wbas,wlin,woff,wend,false,wcod⟩:Aa)=((⟨Ah,Ak,Aj,Ai,An,Am⟩:Ac),(⟨wver,wstr,wrol,wbas,wlin,woff,wend,false,wcod⟩:Aa)):=by unfold Pu;rw[if_neg (by first|(simp;done)|(exfalso;omega)|(simp;omega))]
 by_cases hbc:Nd (⟨Ah,Ak,Aj,Ai,An,Am⟩:Ac) (⟨wver,wstr,wrol,wbas,wlin,woff,wend,false,wcod⟩:Aa)=0
 have hgB:=Oa (d:=(⟨Ah,Ak,Aj,Ai,An,Am⟩:Ac)) (w:=(⟨wver,wstr,wrol,wbas,wlin,woff,wend,false,wcod⟩:Aa)) aa (by first|omega|(dsimp only;omega))
 have hwB:=Og (d:=(⟨Ah,Ak,Aj,Ai,An,Am⟩:Ac)) (w:=(⟨wver,wstr,wrol,wbas,wlin,woff,wend,false,wcod⟩:Aa)) hw
 unfold Xan at hwB
 rw[if_pos hbc]at hwB
 have hB:appB ((⟨Ah,Ak,Aj,Ai,An,Am⟩:Ac),(⟨wver,wstr,wrol,wbas,wlin,woff,wend,false,wcod⟩:Aa))=(K4 (⟨Ah,Ak,Aj,Ai,An,Am⟩:Ac) (⟨wver,wstr,wrol,wbas,wlin,woff,wend,false,wcod⟩:Aa),(⟨wver,wstr,wrol,wbas,wlin,[],24,true,wcod⟩:Aa)):=by unfold appB;rw[if_pos ⟨by dsimp only;omega,rfl⟩];unfold Xan;rw[if_pos hbc]
 rcases hbd:K4 (⟨Ah,Ak,Aj,Ai,An,Am⟩:Ac) (⟨wver,wstr,wrol,wbas,wlin,woff,wend,false,wcod⟩:Aa)with⟨bdnod,bdent,bdold,bdste,bdroo,bdnex⟩
 generalize hbdnod:bdnod.map A5=xbdnod
 generalize hbdent:bdent.map Ae=xbdent
 generalize hbdold:bdold.map Ae=xbdold
 generalize hbdste:bdste.map cS=xbdste
 rw[hbd]at hgB hB
 have hsB:=hgB.2
 simp only[]at hsB hwB
 obtain⟨hc_1,hc_2,hc_3,hc_4,-⟩:=id hwB
 try (simp only[]at hc_1 hc_2 hc_3 hc_4)
 refine .bx [10] [] hP (Mm hwoff Ap As Au At aa (by first|omega|(dsimp only;omega)) hw hk hbc hbd hbdnod hbdent hbdold hbdste) rfl rfl rfl rfl ?_
 conv=>cbv
 refine .eql (fun h8=>?_) fun h8=>?_
 conv=>cbv
 by_cases hlc:L6 (⟨bdnod,bdent,bdold,bdste,bdroo,bdnex⟩:Ac) (⟨wver,wstr,wrol,wbas,wlin,([]:List Int),24,true,wcod⟩:Aa) record=0
 generalize hxo:(([]:List Int)++[24]).map cI=xo
 obtain⟨nxo,hnx⟩:∃m,m=([]:List Int).length+1:=⟨_,rfl⟩
 obtain⟨en,hen⟩:∃m,24+((Hw (⟨wver,wstr,wrol,wbas,wlin,([]:List Int),24,true,wcod⟩:Aa) record).size:Int)=m:=⟨_,rfl⟩
 have hC:Im ((⟨bdnod,bdent,bdold,bdste,bdroo,bdnex⟩:Ac),(⟨wver,wstr,wrol,wbas,wlin,([]:List Int),24,true,wcod⟩:Aa)) record=(Kz (⟨bdnod,bdent,bdold,bdste,bdroo,bdnex⟩:Ac) (⟨wver,wstr,wrol,wbas,wlin,([]:List Int),24,true,wcod⟩:Aa) record,(⟨wver,wstr,wrol,wbas,wlin,([]:List Int)++[24],en,true,wcod⟩:Aa)):=by unfold Im;rw[if_pos (by first|omega|(dsimp only;omega))];unfold R9;rw[if_pos hlc,hen]
 rcases hld:Kz (⟨bdnod,bdent,bdold,bdste,bdroo,bdnex⟩:Ac) (⟨wver,wstr,wrol,wbas,wlin,([]:List Int),24,true,wcod⟩:Aa) record with⟨ldnod,ldent,ldold,ldste,ldroo,ldnex⟩
 generalize hldnod:ldnod.map A5=xldnod
 generalize hldent:ldent.map Ae=xldent
 generalize hldold:ldold.map Ae=xldold
 generalize hldste:ldste.map cS=xldste
 rw[hld]at hC
 refine .bx [10,16] [16] hP (Iu rfl (by first|rfl|omega) hbdnod hbdent hbdold hbdste hgB.1 (by first|omega|(dsimp only;omega)) hwB hk (by omega) hlc hld hldnod hldent hldold hldste hxo hnx hen) rfl rfl rfl rfl ?_
 conv=>cbv
 have e:((⟨ldnod,ldent,ldold,ldste,ldroo,ldnex⟩:Ac),(⟨wver,wstr,wrol,wbas,wlin,(([]:List Int)++[24]),en,true,wcod⟩:Aa),wcod)=Ad (⟨Ah,Ak,Aj,Ai,An,Am⟩:Ac) (⟨wver,wstr,wrol,wbas,wlin,woff,wend,false,wcod⟩:Aa) record:=(by first|(exfalso;omega)|(unfold Ad;rw[if_pos (by omega)];done)|(unfold Ad;rw[if_neg (by omega),if_pos (by first|omega|(dsimp only;omega))];done)|(have hz:=Av (r:=record) (by omega) (by first|omega|(dsimp only;omega)) hA hB hC;exact hz)|(have hz:=Bc (r:=record) (by omega) (by first|omega|(dsimp only;omega)) hA hB (by first|omega|(dsimp only;omega));exact hz)|(have hz:=Bg (r:=record) (by omega) (by first|omega|(dsimp only;omega)) hA (by first|omega|(dsimp only;omega));exact hz))
 rw[hr]at e
 simp only[Prod.mk.injEq,Ac.mk.injEq,Aa.mk.injEq]at e
 obtain⟨⟨rfl,rfl,rfl,rfl,rfl,rfl⟩,⟨rfl,rfl,rfl,rfl,rfl,rfl,rfl,rfl,rfl⟩,rfl⟩:=e
 refine hQ _ _ ?_
 exact .many (.inl rfl) rfl rfl (.agg (.d rfl (Ag hldnod A0) (.d rfl (Ag hldent A3) (.d rfl (Ag hldold A1) (.d rfl (Ag hldste A2) (.d rfl rfl (.d rfl rfl (.nil))))))) (.agg (.d rfl rfl (.d rfl rfl (.d rfl rfl (.d rfl rfl (.d rfl rfl (.ref rfl (Aq hxo) (Br hxo hoboff) (.d rfl rfl (.d rfl rfl (.d rfl rfl (.nil)))))))))) (.d rfl rfl (.nil))))
 have hC:Im ((⟨bdnod,bdent,bdold,bdste,bdroo,bdnex⟩:Ac),(⟨wver,wstr,wrol,wbas,wlin,([]:List Int),24,true,wcod⟩:Aa)) record=(Kz (⟨bdnod,bdent,bdold,bdste,bdroo,bdnex⟩:Ac) (⟨wver,wstr,wrol,wbas,wlin,([]:List Int),24,true,wcod⟩:Aa) record,(⟨wver,wstr,wrol,wbas,wlin,([]:List Int),24,true,2⟩:Aa)):=by unfold Im;rw[if_pos (by first|omega|(dsimp only;omega))];unfold R9;rw[if_neg hlc]
 rcases hld:Kz (⟨bdnod,bdent,bdold,bdste,bdroo,bdnex⟩:Ac) (⟨wver,wstr,wrol,wbas,wlin,([]:List Int),24,true,wcod⟩:Aa) record with⟨ldnod,ldent,ldold,ldste,ldroo,ldnex⟩
 generalize hldnod:ldnod.map A5=xldnod
 generalize hldent:ldent.map Ae=xldent
 generalize hldold:ldold.map Ae=xldold
 generalize hldste:ldste.map cS=xldste
 rw[hld]at hC
 refine .bx [10,16] [16] hP (Iy rfl (by first|rfl|omega) hbdnod hbdent hbdold hbdste hgB.1 (by first|omega|(dsimp only;omega)) hwB hk (by omega) hlc hld hldnod hldent hldold hldste) rfl rfl rfl rfl ?_
 conv=>cbv
 have e:((⟨ldnod,ldent,ldold,ldste,ldroo,ldnex⟩:Ac),(⟨wver,wstr,wrol,wbas,wlin,([]:List Int),24,true,2⟩:Aa),2)=Ad (⟨Ah,Ak,Aj,Ai,An,Am⟩:Ac) (⟨wver,wstr,wrol,wbas,wlin,woff,wend,false,wcod⟩:Aa) record:=(by first|(exfalso;omega)|(unfold Ad;rw[if_pos (by omega)];done)|(unfold Ad;rw[if_neg (by omega),if_pos (by first|omega|(dsimp only;omega))];done)|(have hz:=Av (r:=record) (by omega) (by first|omega|(dsimp only;omega)) hA hB hC;exact hz)|(have hz:=Bc (r:=record) (by omega) (by first|omega|(dsimp only;omega)) hA hB (by first|omega|(dsimp only;omega));exact hz)|(have hz:=Bg (r:=record) (by omega) (by first|omega|(dsimp only;omega)) hA (by first|omega|(dsimp only;omega));exact hz))
 rw[hr]at e
 simp only[Prod.mk.injEq,Ac.mk.injEq,Aa.mk.injEq]at e
 obtain⟨⟨rfl,rfl,rfl,rfl,rfl,rfl⟩,⟨rfl,rfl,rfl,rfl,rfl,rfl,rfl,rfl,rfl⟩,rfl⟩:=e
 refine hQ _ _ ?_
 exact .many (.inl rfl) rfl rfl (.agg (.d rfl (Ag hldnod A0) (.d rfl (Ag hldent A3) (.d rfl (Ag hldold A1) (.d rfl (Ag hldste A2) (.d rfl rfl (.d rfl rfl (.nil))))))) (.agg (.d rfl rfl (.d rfl rfl (.d rfl rfl (.d rfl rfl (.d rfl rfl (.ref rfl rfl (by rw[←hoboff];rfl) (.d rfl rfl (.d rfl rfl (.d rfl rfl (.nil)))))))))) (.d rfl rfl (.nil))))
 conv=>cbv
 have e:((⟨bdnod,bdent,bdold,bdste,bdroo,bdnex⟩:Ac),(⟨wver,wstr,wrol,wbas,wlin,([]:List Int),24,true,wcod⟩:Aa),wcod)=Ad (⟨Ah,Ak,Aj,Ai,An,Am⟩:Ac) (⟨wver,wstr,wrol,wbas,wlin,woff,wend,false,wcod⟩:Aa) record:=(by first|(exfalso;omega)|(unfold Ad;rw[if_pos (by omega)];done)|(unfold Ad;rw[if_neg (by omega),if_pos (by first|omega|(dsimp only;omega))];done)|(have hz:=Av (r:=record) (by omega) (by first|omega|(dsimp only;omega)) hA hB hC;exact hz)|(have hz:=Bc (r:=record) (by omega) (by first|omega|(dsimp only;omega)) hA hB (by first|omega|(dsimp only;omega));exact hz)|(have hz:=Bg (r:=record) (by omega) (by first|omega|(dsimp only;omega)) hA (by first|omega|(dsimp only;omega));exact hz))
 rw[hr]at e
 simp only[Prod.mk.injEq,Ac.mk.injEq,Aa.mk.injEq]at e
 obtain⟨⟨rfl,rfl,rfl,rfl,rfl,rfl⟩,⟨rfl,rfl,rfl,rfl,rfl,rfl,rfl,rfl,rfl⟩,rfl⟩:=e
 refine hQ _ _ ?_
 exact .many (.inl rfl) rfl rfl (.agg (.d rfl (Ag hbdnod A0) (.d rfl (Ag hbdent A3) (.d rfl (Ag hbdold A1) (.d rfl (Ag hbdste A2) (.d rfl rfl (.d rfl rfl (.nil))))))) (.agg (.d rfl rfl (.d rfl rfl (.d rfl rfl (.d rfl rfl (.d rfl rfl (.ref rfl rfl (by rw[←hoboff];rfl) (.d rfl rfl (.d rfl rfl (.d rfl rfl (.nil)))))))))) (.d rfl rfl (.nil))))
 obtain⟨bc,hbe⟩:∃c,Nd (⟨Ah,Ak,Aj,Ai,An,Am⟩:Ac) (⟨wver,wstr,wrol,wbas,wlin,woff,wend,false,wcod⟩:Aa)=c:=⟨_,rfl⟩
 rw[hbe]at hbc
 have hB:appB ((⟨Ah,Ak,Aj,Ai,An,Am⟩:Ac),(⟨wver,wstr,wrol,wbas,wlin,woff,wend,false,wcod⟩:Aa))=(K4 (⟨Ah,Ak,Aj,Ai,An,Am⟩:Ac) (⟨wver,wstr,wrol,wbas,wlin,woff,wend,false,wcod⟩:Aa),(⟨wver,wstr,wrol,wbas,wlin,woff,wend,false,bc⟩:Aa)):=by unfold appB;rw[if_pos ⟨by dsimp only;omega,rfl⟩];unfold Xan;rw[hbe,if_neg hbc]
 rcases hbd:K4 (⟨Ah,Ak,Aj,Ai,An,Am⟩:Ac) (⟨wver,wstr,wrol,wbas,wlin,woff,wend,false,wcod⟩:Aa)with⟨bdnod,bdent,bdold,bdste,bdroo,bdnex⟩
 generalize hbdnod:bdnod.map A5=xbdnod
 generalize hbdent:bdent.map Ae=xbdent
 generalize hbdold:bdold.map Ae=xbdold
 generalize hbdste:bdste.map cS=xbdste
 rw[hbd]at hB
 refine .bx [10] [] hP (M4 hwoff Ap As Au At aa (by first|omega|(dsimp only;omega)) hw hk hbe hbc hbd hbdnod hbdent hbdold hbdste) rfl rfl rfl rfl ?_
 conv=>cbv
 refine .eql (fun h8=>?_) fun h8=>?_
 conv=>cbv
 first|(exfalso;omega)|exact absurd (hopA (by omega)) (by decide)
 conv=>cbv
 have e:((⟨bdnod,bdent,bdold,bdste,bdroo,bdnex⟩:Ac),(⟨wver,wstr,wrol,wbas,wlin,woff,wend,false,bc⟩:Aa),bc)=Ad (⟨Ah,Ak,Aj,Ai,An,Am⟩:Ac) (⟨wver,wstr,wrol,wbas,wlin,woff,wend,false,wcod⟩:Aa) record:=(by first|(exfalso;omega)|(unfold Ad;rw[if_pos (by omega)];done)|(unfold Ad;rw[if_neg (by omega),if_pos (by first|omega|(dsimp only;omega))];done)|(have hz:=Av (r:=record) (by omega) (by first|omega|(dsimp only;omega)) hA hB hC;exact hz)|(have hz:=Bc (r:=record) (by omega) (by first|omega|(dsimp only;omega)) hA hB (by first|omega|(dsimp only;omega));exact hz)|(have hz:=Bg (r:=record) (by omega) (by first|omega|(dsimp only;omega)) hA (by first|omega|(dsimp only;omega));exact hz))
 rw[hr]at e
 simp only[Prod.mk.injEq,Ac.mk.injEq,Aa.mk.injEq]at e
 obtain⟨⟨rfl,rfl,rfl,rfl,rfl,rfl⟩,⟨rfl,rfl,rfl,rfl,rfl,rfl,rfl,rfl,rfl⟩,rfl⟩:=e
 refine hQ _ _ ?_
 exact .many (.inl rfl) rfl rfl (.agg (.d rfl (Ag hbdnod A0) (.d rfl (Ag hbdent A3) (.d rfl (Ag hbdold A1) (.d rfl (Ag hbdste A2) (.d rfl rfl (.d rfl rfl (.nil))))))) (.agg (.d rfl rfl (.d rfl rfl (.d rfl rfl (.d rfl rfl (.d rfl rfl (.d rfl (Ag hwoff hoboff) (.d rfl rfl (.d rfl rfl (.d rfl rfl (.nil)))))))))) (.d rfl rfl (.nil))))
 conv=>cbv
 refine .eql (fun h7=>?_) fun h7=>?_
 conv=>cbv
 first|(exfalso;omega)|exact absurd (hopA (by omega)) (by decide)
 conv=>cbv
 have e:((⟨Ah,Ak,Aj,Ai,An,Am⟩:Ac),(⟨wver,wstr,wrol,wbas,wlin,woff,wend,false,wcod⟩:Aa),wcod)=Ad (⟨Ah,Ak,Aj,Ai,An,Am⟩:Ac) (⟨wver,wstr,wrol,wbas,wlin,woff,wend,false,wcod⟩:Aa) record:=(by first|(exfalso;omega)|(unfold Ad;rw[if_pos (by omega)];done)|(unfold Ad;rw[if_neg (by omega),if_pos (by first|omega|(dsimp only;omega))];done)|(have hz:=Av (r:=record) (by omega) (by first|omega|(dsimp only;omega)) hA hB hC;exact hz)|(have hz:=Bc (r:=record) (by omega) (by first|omega|(dsimp only;omega)) hA hB (by first|omega|(dsimp only;omega));exact hz)|(have hz:=Bg (r:=record) (by omega) (by first|omega|(dsimp only;omega)) hA (by first|omega|(dsimp only;omega));exact hz))
 rw[hr]at e
 simp only[Prod.mk.injEq,Ac.mk.injEq,Aa.mk.injEq]at e
 obtain⟨⟨rfl,rfl,rfl,rfl,rfl,rfl⟩,⟨rfl,rfl,rfl,rfl,rfl,rfl,rfl,rfl,rfl⟩,rfl⟩:=e
 refine hQ _ _ ?_
 exact .many (.inl rfl) rfl rfl (.agg (.d rfl (Ag Ap A0) (.d rfl (Ag As A3) (.d rfl (Ag Au A1) (.d rfl (Ag At A2) (.d rfl rfl (.d rfl rfl (.nil))))))) (.agg (.d rfl rfl (.d rfl rfl (.d rfl rfl (.d rfl rfl (.d rfl rfl (.d rfl (Ag hwoff hoboff) (.d rfl rfl (.d rfl rfl (.d rfl rfl (.nil)))))))))) (.d rfl rfl (.nil))))
 obtain⟨n2,ac⟩:∃m,m=woff.length:=⟨_,rfl⟩
 refine .ddN hP (Xaw hwoff (by omega) ac) rfl ?_
 conv=>cbv
 refine .dd hP (Lu Ap As Au At (by omega) (by omega) (by omega) (by omega)) ?_
 conv=>cbv
 refine .go fun v4 ah=>?_
 conv=>cbv
 refine .gtr (fun h5=>?_) fun h5=>?_
 conv=>cbv
 have e:((⟨Ah,Ak,Aj,Ai,An,Am⟩:Ac),(⟨wver,wstr,wrol,wbas,wlin,woff,wend,true,wcod⟩:Aa),1)=Ad (⟨Ah,Ak,Aj,Ai,An,Am⟩:Ac) (⟨wver,wstr,wrol,wbas,wlin,woff,wend,true,wcod⟩:Aa) record:=(by first|(exfalso;omega)|(unfold Ad;rw[if_pos (by omega)];done)|(unfold Ad;rw[if_neg (by omega),if_pos (by first|omega|(dsimp only;omega))];done)|(have hz:=Av (r:=record) (by omega) (by first|omega|(dsimp only;omega)) hA hB hC;exact hz)|(have hz:=Bc (r:=record) (by omega) (by first|omega|(dsimp only;omega)) hA hB (by first|omega|(dsimp only;omega));exact hz)|(have hz:=Bg (r:=record) (by omega) (by first|omega|(dsimp only;omega)) hA (by first|omega|(dsimp only;omega));exact hz))
 rw[hr]at e
 simp only[Prod.mk.injEq,Ac.mk.injEq,Aa.mk.injEq]at e
 obtain⟨⟨rfl,rfl,rfl,rfl,rfl,rfl⟩,⟨rfl,rfl,rfl,rfl,rfl,rfl,rfl,rfl,rfl⟩,rfl⟩:=e
 refine hQ _ _ ?_
 exact .many (.inl rfl) rfl rfl (.agg (.d rfl (Ag Ap A0) (.d rfl (Ag As A3) (.d rfl (Ag Au A1) (.d rfl (Ag At A2) (.d rfl rfl (.d rfl rfl (.nil))))))) (.agg (.d rfl rfl (.d rfl rfl (.d rfl rfl (.d rfl rfl (.d rfl rfl (.ref rfl (Aq hwoff) (Br hwoff hoboff) (.d rfl rfl (.d rfl rfl (.d rfl rfl (.nil)))))))))) (.d rfl rfl (.nil))))
 conv=>cbv
 refine .neq (fun h6=>?_) fun h6=>?_
 conv=>cbv
 have e:((⟨Ah,Ak,Aj,Ai,An,Am⟩:Ac),(⟨wver,wstr,wrol,wbas,wlin,woff,wend,true,wcod⟩:Aa),wcod)=Ad (⟨Ah,Ak,Aj,Ai,An,Am⟩:Ac) (⟨wver,wstr,wrol,wbas,wlin,woff,wend,true,wcod⟩:Aa) record:=(by first|(exfalso;omega)|(unfold Ad;rw[if_pos (by omega)];done)|(unfold Ad;rw[if_neg (by omega),if_pos (by first|omega|(dsimp only;omega))];done)|(have hz:=Av (r:=record) (by omega) (by first|omega|(dsimp only;omega)) hA hB hC;exact hz)|(have hz:=Bc (r:=record) (by omega) (by first|omega|(dsimp only;omega)) hA hB (by first|omega|(dsimp only;omega));exact hz)|(have hz:=Bg (r:=record) (by omega) (by first|omega|(dsimp only;omega)) hA (by first|omega|(dsimp only;omega));exact hz))
 rw[hr]at e
 simp only[Prod.mk.injEq,Ac.mk.injEq,Aa.mk.injEq]at e
 obtain⟨⟨rfl,rfl,rfl,rfl,rfl,rfl⟩,⟨rfl,rfl,rfl,rfl,rfl,rfl,rfl,rfl,rfl⟩,rfl⟩:=e
 refine hQ _ _ ?_
 exact .many (.inl rfl) rfl rfl (.agg (.d rfl (Ag Ap A0) (.d rfl (Ag As A3) (.d rfl (Ag Au A1) (.d rfl (Ag At A2) (.d rfl rfl (.d rfl rfl (.nil))))))) (.agg (.d rfl rfl (.d rfl rfl (.d rfl rfl (.d rfl rfl (.d rfl rfl (.ref rfl (Aq hwoff) (Br hwoff hoboff) (.d rfl rfl (.d rfl rfl (.d rfl rfl (.nil)))))))))) (.d rfl rfl (.nil))))
 conv=>cbv
 refine .go fun v7 ai=>?_
 conv=>cbv
 refine .geq (fun h8=>?_) fun h8=>?_
 conv=>cbv
 rcases hrl:Bx (⟨Ah,Ak,Aj,Ai,An,Am⟩:Ac) (⟨wver,wstr,wrol,wbas,wlin,woff,wend,true,wcod⟩:Aa)with⟨⟨rlnod,rlent,rlold,rlste,rlroo,rlnex⟩,⟨lwver,lwstr,lwrol,lwbas,lwlin,lwoff,lwend,lwope,lwcod⟩,rlc⟩
 obtain⟨hrA,hrB⟩:=V5 (d:=(⟨Ah,Ak,Aj,Ai,An,Am⟩:Ac)) (w:=(⟨wver,wstr,wrol,wbas,wlin,woff,wend,true,wcod⟩:Aa)) rfl (by first|omega|(dsimp only;omega)) hrl
 have hA:Pu (⟨Ah,Ak,Aj,Ai,An,Am⟩:Ac) (⟨wver,wstr,wrol,wbas,wlin,woff,wend,true,wcod⟩:Aa)=((⟨rlnod,rlent,rlold,rlste,rlroo,rlnex⟩:Ac),(⟨lwver,lwstr,lwrol,lwbas,lwlin,lwoff,lwend,lwope,lwcod⟩:Aa)):=by unfold Pu;rw[if_pos ⟨rfl,by dsimp only;omega⟩,hrA,hrB]
 have hgA:=Sf (d:=(⟨Ah,Ak,Aj,Ai,An,Am⟩:Ac)) (w:=(⟨wver,wstr,wrol,wbas,wlin,woff,wend,true,wcod⟩:Aa)) aa
 have hwA:=W8 (d:=(⟨Ah,Ak,Aj,Ai,An,Am⟩:Ac)) (w:=(⟨wver,wstr,wrol,wbas,wlin,woff,wend,true,wcod⟩:Aa)) hw
 have hopA:lwcod=0→lwope=false:=fun h=>by have:=Vh (d:=(⟨Ah,Ak,Aj,Ai,An,Am⟩:Ac)) (w:=(⟨wver,wstr,wrol,wbas,wlin,woff,wend,true,wcod⟩:Aa)) (by first|omega|(dsimp only;omega)) (by rw[hrB];exact h);rw[hrB]at this;exact this
 rw[hrA]at hgA
 rw[hrB]at hwA
 have hsA:=hgA.2
 simp only[]at hsA
 obtain⟨ha_1,ha_2,ha_3,ha_4,-⟩:=id hwA
 try (simp only[]at ha_1 ha_2 ha_3 ha_4)
 generalize hrlnod:rlnod.map A5=xrlnod
 generalize hrlent:rlent.map Ae=xrlent
 generalize hrlold:rlold.map Ae=xrlold
 generalize hrlste:rlste.map cS=xrlste
 generalize hlwoff:lwoff.map cI=xlwoff
 refine .lntD hP (Xa6 Ap As Au At hwoff aa (by omega) hw hk hrl hrlnod hrlent hrlold hrlste hlwoff) (.agg (.d rfl (.d rfl (.d rfl (.d rfl (.d rfl (.d rfl .nil)))))) (.agg (.d rfl (.d rfl (.d rfl (.d rfl (.d rfl (.ref rfl (Aq hwoff) (.d rfl (.d rfl (.d rfl .nil))))))))) .nil)) ?_
 conv=>cbv
 refine .eql (fun h10=>?_) fun h10=>?_
 conv=>cbv
 cases lwope
 conv=>cbv
 by_cases hbc:Nd (⟨rlnod,rlent,rlold,rlste,rlroo,rlnex⟩:Ac) (⟨lwver,lwstr,lwrol,lwbas,lwlin,lwoff,lwend,false,lwcod⟩:Aa)=0
 have hgB:=Oa (d:=(⟨rlnod,rlent,rlold,rlste,rlroo,rlnex⟩:Ac)) (w:=(⟨lwver,lwstr,lwrol,lwbas,lwlin,lwoff,lwend,false,lwcod⟩:Aa)) hgA.1 (by first|omega|(dsimp only;omega))
 have hwB:=Og (d:=(⟨rlnod,rlent,rlold,rlste,rlroo,rlnex⟩:Ac)) (w:=(⟨lwver,lwstr,lwrol,lwbas,lwlin,lwoff,lwend,false,lwcod⟩:Aa)) hwA
 unfold Xan at hwB
 rw[if_pos hbc]at hwB
 have hB:appB ((⟨rlnod,rlent,rlold,rlste,rlroo,rlnex⟩:Ac),(⟨lwver,lwstr,lwrol,lwbas,lwlin,lwoff,lwend,false,lwcod⟩:Aa))=(K4 (⟨rlnod,rlent,rlold,rlste,rlroo,rlnex⟩:Ac) (⟨lwver,lwstr,lwrol,lwbas,lwlin,lwoff,lwend,false,lwcod⟩:Aa),(⟨lwver,lwstr,lwrol,lwbas,lwlin,[],24,true,lwcod⟩:Aa)):=by unfold appB;rw[if_pos ⟨by dsimp only;omega,rfl⟩];unfold Xan;rw[if_pos hbc]
 rcases hbd:K4 (⟨rlnod,rlent,rlold,rlste,rlroo,rlnex⟩:Ac) (⟨lwver,lwstr,lwrol,lwbas,lwlin,lwoff,lwend,false,lwcod⟩:Aa)with⟨bdnod,bdent,bdold,bdste,bdroo,bdnex⟩
 generalize hbdnod:bdnod.map A5=xbdnod
 generalize hbdent:bdent.map Ae=xbdent
 generalize hbdold:bdold.map Ae=xbdold
 generalize hbdste:bdste.map cS=xbdste
 rw[hbd]at hgB hB
 have hsB:=hgB.2
 simp only[]at hsB hwB
 obtain⟨hc_1,hc_2,hc_3,hc_4,-⟩:=id hwB
 try (simp only[]at hc_1 hc_2 hc_3 hc_4)
 refine .bx [11] [] hP (Mm hlwoff hrlnod hrlent hrlold hrlste hgA.1 (by first|omega|(dsimp only;omega)) hwA hk hbc hbd hbdnod hbdent hbdold hbdste) rfl rfl rfl rfl ?_
 conv=>cbv
 refine .eql (fun h12=>?_) fun h12=>?_
 conv=>cbv
 by_cases hlc:L6 (⟨bdnod,bdent,bdold,bdste,bdroo,bdnex⟩:Ac) (⟨lwver,lwstr,lwrol,lwbas,lwlin,([]:List Int),24,true,lwcod⟩:Aa) record=0
 generalize hxo:(([]:List Int)++[24]).map cI=xo
 obtain⟨nxo,hnx⟩:∃m,m=([]:List Int).length+1:=⟨_,rfl⟩
 obtain⟨en,hen⟩:∃m,24+((Hw (⟨lwver,lwstr,lwrol,lwbas,lwlin,([]:List Int),24,true,lwcod⟩:Aa) record).size:Int)=m:=⟨_,rfl⟩
 have hC:Im ((⟨bdnod,bdent,bdold,bdste,bdroo,bdnex⟩:Ac),(⟨lwver,lwstr,lwrol,lwbas,lwlin,([]:List Int),24,true,lwcod⟩:Aa)) record=(Kz (⟨bdnod,bdent,bdold,bdste,bdroo,bdnex⟩:Ac) (⟨lwver,lwstr,lwrol,lwbas,lwlin,([]:List Int),24,true,lwcod⟩:Aa) record,(⟨lwver,lwstr,lwrol,lwbas,lwlin,([]:List Int)++[24],en,true,lwcod⟩:Aa)):=by unfold Im;rw[if_pos (by first|omega|(dsimp only;omega))];unfold R9;rw[if_pos hlc,hen]
 rcases hld:Kz (⟨bdnod,bdent,bdold,bdste,bdroo,bdnex⟩:Ac) (⟨lwver,lwstr,lwrol,lwbas,lwlin,([]:List Int),24,true,lwcod⟩:Aa) record with⟨ldnod,ldent,ldold,ldste,ldroo,ldnex⟩
 generalize hldnod:ldnod.map A5=xldnod
 generalize hldent:ldent.map Ae=xldent
 generalize hldold:ldold.map Ae=xldold
 generalize hldste:ldste.map cS=xldste
 rw[hld]at hC
 refine .bx [11,17] [17] hP (Iu rfl (by first|rfl|omega) hbdnod hbdent hbdold hbdste hgB.1 (by first|omega|(dsimp only;omega)) hwB hk (by omega) hlc hld hldnod hldent hldold hldste hxo hnx hen) rfl rfl rfl rfl ?_
 conv=>cbv
 have e:((⟨ldnod,ldent,ldold,ldste,ldroo,ldnex⟩:Ac),(⟨lwver,lwstr,lwrol,lwbas,lwlin,(([]:List Int)++[24]),en,true,lwcod⟩:Aa),lwcod)=Ad (⟨Ah,Ak,Aj,Ai,An,Am⟩:Ac) (⟨wver,wstr,wrol,wbas,wlin,woff,wend,true,wcod⟩:Aa) record:=(by first|(exfalso;omega)|(unfold Ad;rw[if_pos (by omega)];done)|(unfold Ad;rw[if_neg (by omega),if_pos (by first|omega|(dsimp only;omega))];done)|(have hz:=Av (r:=record) (by omega) (by first|omega|(dsimp only;omega)) hA hB hC;exact hz)|(have hz:=Bc (r:=record) (by omega) (by first|omega|(dsimp only;omega)) hA hB (by first|omega|(dsimp only;omega));exact hz)|(have hz:=Bg (r:=record) (by omega) (by first|omega|(dsimp only;omega)) hA (by first|omega|(dsimp only;omega));exact hz))
 rw[hr]at e
 simp only[Prod.mk.injEq,Ac.mk.injEq,Aa.mk.injEq]at e
 obtain⟨⟨rfl,rfl,rfl,rfl,rfl,rfl⟩,⟨rfl,rfl,rfl,rfl,rfl,rfl,rfl,rfl,rfl⟩,rfl⟩:=e
 refine hQ _ _ ?_
 exact .many (.inl rfl) rfl rfl (.agg (.d rfl (Ag hldnod A0) (.d rfl (Ag hldent A3) (.d rfl (Ag hldold A1) (.d rfl (Ag hldste A2) (.d rfl rfl (.d rfl rfl (.nil))))))) (.agg (.d rfl rfl (.d rfl rfl (.d rfl rfl (.d rfl rfl (.d rfl rfl (.ref rfl (Aq hxo) (Br hxo hoboff) (.d rfl rfl (.d rfl rfl (.d rfl rfl (.nil)))))))))) (.d rfl rfl (.nil))))
 have hC:Im ((⟨bdnod,bdent,bdold,bdste,bdroo,bdnex⟩:Ac),(⟨lwver,lwstr,lwrol,lwbas,lwlin,([]:List Int),24,true,lwcod⟩:Aa)) record=(Kz (⟨bdnod,bdent,bdold,bdste,bdroo,bdnex⟩:Ac) (⟨lwver,lwstr,lwrol,lwbas,lwlin,([]:List Int),24,true,lwcod⟩:Aa) record,(⟨lwver,lwstr,lwrol,lwbas,lwlin,([]:List Int),24,true,2⟩:Aa)):=by unfold Im;rw[if_pos (by first|omega|(dsimp only;omega))];unfold R9;rw[if_neg hlc]
 rcases hld:Kz (⟨bdnod,bdent,bdold,bdste,bdroo,bdnex⟩:Ac) (⟨lwver,lwstr,lwrol,lwbas,lwlin,([]:List Int),24,true,lwcod⟩:Aa) record with⟨ldnod,ldent,ldold,ldste,ldroo,ldnex⟩
 generalize hldnod:ldnod.map A5=xldnod
 generalize hldent:ldent.map Ae=xldent
 generalize hldold:ldold.map Ae=xldold
 generalize hldste:ldste.map cS=xldste
 rw[hld]at hC
 refine .bx [11,17] [17] hP (Iy rfl (by first|rfl|omega) hbdnod hbdent hbdold hbdste hgB.1 (by first|omega|(dsimp only;omega)) hwB hk (by omega) hlc hld hldnod hldent hldold hldste) rfl rfl rfl rfl ?_
 conv=>cbv
 have e:((⟨ldnod,ldent,ldold,ldste,ldroo,ldnex⟩:Ac),(⟨lwver,lwstr,lwrol,lwbas,lwlin,([]:List Int),24,true,2⟩:Aa),2)=Ad (⟨Ah,Ak,Aj,Ai,An,Am⟩:Ac) (⟨wver,wstr,wrol,wbas,wlin,woff,wend,true,wcod⟩:Aa) record:=(by first|(exfalso;omega)|(unfold Ad;rw[if_pos (by omega)];done)|(unfold Ad;rw[if_neg (by omega),if_pos (by first|omega|(dsimp only;omega))];done)|(have hz:=Av (r:=record) (by omega) (by first|omega|(dsimp only;omega)) hA hB hC;exact hz)|(have hz:=Bc (r:=record) (by omega) (by first|omega|(dsimp only;omega)) hA hB (by first|omega|(dsimp only;omega));exact hz)|(have hz:=Bg (r:=record) (by omega) (by first|omega|(dsimp only;omega)) hA (by first|omega|(dsimp only;omega));exact hz))
 rw[hr]at e
 simp only[Prod.mk.injEq,Ac.mk.injEq,Aa.mk.injEq]at e
 obtain⟨⟨rfl,rfl,rfl,rfl,rfl,rfl⟩,⟨rfl,rfl,rfl,rfl,rfl,rfl,rfl,rfl,rfl⟩,rfl⟩:=e
 refine hQ _ _ ?_
 exact .many (.inl rfl) rfl rfl (.agg (.d rfl (Ag hldnod A0) (.d rfl (Ag hldent A3) (.d rfl (Ag hldold A1) (.d rfl (Ag hldste A2) (.d rfl rfl (.d rfl rfl (.nil))))))) (.agg (.d rfl rfl (.d rfl rfl (.d rfl rfl (.d rfl rfl (.d rfl rfl (.ref rfl rfl (by rw[←hoboff];rfl) (.d rfl rfl (.d rfl rfl (.d rfl rfl (.nil)))))))))) (.d rfl rfl (.nil))))
 conv=>cbv
 have e:((⟨bdnod,bdent,bdold,bdste,bdroo,bdnex⟩:Ac),(⟨lwver,lwstr,lwrol,lwbas,lwlin,([]:List Int),24,true,lwcod⟩:Aa),lwcod)=Ad (⟨Ah,Ak,Aj,Ai,An,Am⟩:Ac) (⟨wver,wstr,wrol,wbas,wlin,woff,wend,true,wcod⟩:Aa) record:=(by first|(exfalso;omega)|(unfold Ad;rw[if_pos (by omega)];done)|(unfold Ad;rw[if_neg (by omega),if_pos (by first|omega|(dsimp only;omega))];done)|(have hz:=Av (r:=record) (by omega) (by first|omega|(dsimp only;omega)) hA hB hC;exact hz)|(have hz:=Bc (r:=record) (by omega) (by first|omega|(dsimp only;omega)) hA hB (by first|omega|(dsimp only;omega));exact hz)|(have hz:=Bg (r:=record) (by omega) (by first|omega|(dsimp only;omega)) hA (by first|omega|(dsimp only;omega));exact hz))
 rw[hr]at e
 simp only[Prod.mk.injEq,Ac.mk.injEq,Aa.mk.injEq]at e
 obtain⟨⟨rfl,rfl,rfl,rfl,rfl,rfl⟩,⟨rfl,rfl,rfl,rfl,rfl,rfl,rfl,rfl,rfl⟩,rfl⟩:=e
 refine hQ _ _ ?_
 exact .many (.inl rfl) rfl rfl (.agg (.d rfl (Ag hbdnod A0) (.d rfl (Ag hbdent A3) (.d rfl (Ag hbdold A1) (.d rfl (Ag hbdste A2) (.d rfl rfl (.d rfl rfl (.nil))))))) (.agg (.d rfl rfl (.d rfl rfl (.d rfl rfl (.d rfl rfl (.d rfl rfl (.ref rfl rfl (by rw[←hoboff];rfl) (.d rfl rfl (.d rfl rfl (.d rfl rfl (.nil)))))))))) (.d rfl rfl (.nil))))
 obtain⟨bc,hbe⟩:∃c,Nd (⟨rlnod,rlent,rlold,rlste,rlroo,rlnex⟩:Ac) (⟨lwver,lwstr,lwrol,lwbas,lwlin,lwoff,lwend,false,lwcod⟩:Aa)=c:=⟨_,rfl⟩
 rw[hbe]at hbc
 have hB:appB ((⟨rlnod,rlent,rlold,rlste,rlroo,rlnex⟩:Ac),(⟨lwver,lwstr,lwrol,lwbas,lwlin,lwoff,lwend,false,lwcod⟩:Aa))=(K4 (⟨rlnod,rlent,rlold,rlste,rlroo,rlnex⟩:Ac) (⟨lwver,lwstr,lwrol,lwbas,lwlin,lwoff,lwend,false,lwcod⟩:Aa),(⟨lwver,lwstr,lwrol,lwbas,lwlin,lwoff,lwend,false,bc⟩:Aa)):=by unfold appB;rw[if_pos ⟨by dsimp only;omega,rfl⟩];unfold Xan;rw[hbe,if_neg hbc]
 rcases hbd:K4 (⟨rlnod,rlent,rlold,rlste,rlroo,rlnex⟩:Ac) (⟨lwver,lwstr,lwrol,lwbas,lwlin,lwoff,lwend,false,lwcod⟩:Aa)with⟨bdnod,bdent,bdold,bdste,bdroo,bdnex⟩
 generalize hbdnod:bdnod.map A5=xbdnod
 generalize hbdent:bdent.map Ae=xbdent
 generalize hbdold:bdold.map Ae=xbdold
 generalize hbdste:bdste.map cS=xbdste
 rw[hbd]at hB
 refine .bx [11] [] hP (M4 hlwoff hrlnod hrlent hrlold hrlste hgA.1 (by first|omega|(dsimp only;omega)) hwA hk hbe hbc hbd hbdnod hbdent hbdold hbdste) rfl rfl rfl rfl ?_
 conv=>cbv
 refine .eql (fun h12=>?_) fun h12=>?_
 conv=>cbv
 first|(exfalso;omega)|exact absurd (hopA (by omega)) (by decide)
 conv=>cbv
 have e:((⟨bdnod,bdent,bdold,bdste,bdroo,bdnex⟩:Ac),(⟨lwver,lwstr,lwrol,lwbas,lwlin,lwoff,lwend,false,bc⟩:Aa),bc)=Ad (⟨Ah,Ak,Aj,Ai,An,Am⟩:Ac) (⟨wver,wstr,wrol,wbas,wlin,woff,wend,true,wcod⟩:Aa) record:=(by first|(exfalso;omega)|(unfold Ad;rw[if_pos (by omega)];done)|(unfold Ad;rw[if_neg (by omega),if_pos (by first|omega|(dsimp only;omega))];done)|(have hz:=Av (r:=record) (by omega) (by first|omega|(dsimp only;omega)) hA hB hC;exact hz)|(have hz:=Bc (r:=record) (by omega) (by first|omega|(dsimp only;omega)) hA hB (by first|omega|(dsimp only;omega));exact hz)|(have hz:=Bg (r:=record) (by omega) (by first|omega|(dsimp only;omega)) hA (by first|omega|(dsimp only;omega));exact hz))
 rw[hr]at e
 simp only[Prod.mk.injEq,Ac.mk.injEq,Aa.mk.injEq]at e
 obtain⟨⟨rfl,rfl,rfl,rfl,rfl,rfl⟩,⟨rfl,rfl,rfl,rfl,rfl,rfl,rfl,rfl,rfl⟩,rfl⟩:=e
 refine hQ _ _ ?_
 exact .many (.inl rfl) rfl rfl (.agg (.d rfl (Ag hbdnod A0) (.d rfl (Ag hbdent A3) (.d rfl (Ag hbdold A1) (.d rfl (Ag hbdste A2) (.d rfl rfl (.d rfl rfl (.nil))))))) (.agg (.d rfl rfl (.d rfl rfl (.d rfl rfl (.d rfl rfl (.d rfl rfl (.d rfl (Ag hlwoff hoboff) (.d rfl rfl (.d rfl rfl (.d rfl rfl (.nil)))))))))) (.d rfl rfl (.nil))))
 conv=>cbv
 refine .eql (fun h11=>?_) fun h11=>?_
 conv=>cbv
 first|(exfalso;omega)|exact absurd (hopA (by omega)) (by decide)
 conv=>cbv
 have e:((⟨rlnod,rlent,rlold,rlste,rlroo,rlnex⟩:Ac),(⟨lwver,lwstr,lwrol,lwbas,lwlin,lwoff,lwend,true,lwcod⟩:Aa),lwcod)=Ad (⟨Ah,Ak,Aj,Ai,An,Am⟩:Ac) (⟨wver,wstr,wrol,wbas,wlin,woff,wend,true,wcod⟩:Aa) record:=(by first|(exfalso;omega)|(unfold Ad;rw[if_pos (by omega)];done)|(unfold Ad;rw[if_neg (by omega),if_pos (by first|omega|(dsimp only;omega))];done)|(have hz:=Av (r:=record) (by omega) (by first|omega|(dsimp only;omega)) hA hB hC;exact hz)|(have hz:=Bc (r:=record) (by omega) (by first|omega|(dsimp only;omega)) hA hB (by first|omega|(dsimp only;omega));exact hz)|(have hz:=Bg (r:=record) (by omega) (by first|omega|(dsimp only;omega)) hA (by first|omega|(dsimp only;omega));exact hz))
 rw[hr]at e
 simp only[Prod.mk.injEq,Ac.mk.injEq,Aa.mk.injEq]at e
 obtain⟨⟨rfl,rfl,rfl,rfl,rfl,rfl⟩,⟨rfl,rfl,rfl,rfl,rfl,rfl,rfl,rfl,rfl⟩,rfl⟩:=e
 refine hQ _ _ ?_
 exact .many (.inl rfl) rfl rfl (.agg (.d rfl (Ag hrlnod A0) (.d rfl (Ag hrlent A3) (.d rfl (Ag hrlold A1) (.d rfl (Ag hrlste A2) (.d rfl rfl (.d rfl rfl (.nil))))))) (.agg (.d rfl rfl (.d rfl rfl (.d rfl rfl (.d rfl rfl (.d rfl rfl (.d rfl (Ag hlwoff hoboff) (.d rfl rfl (.d rfl rfl (.d rfl rfl (.nil)))))))))) (.d rfl rfl (.nil))))
 conv=>cbv
 refine .eql (fun h11=>?_) fun h11=>?_
 conv=>cbv
 first|(exfalso;omega)|exact absurd (hopA (by omega)) (by decide)
 conv=>cbv
 have e:((⟨rlnod,rlent,rlold,rlste,rlroo,rlnex⟩:Ac),(⟨lwver,lwstr,lwrol,lwbas,lwlin,lwoff,lwend,lwope,lwcod⟩:Aa),lwcod)=Ad (⟨Ah,Ak,Aj,Ai,An,Am⟩:Ac) (⟨wver,wstr,wrol,wbas,wlin,woff,wend,true,wcod⟩:Aa) record:=(by first|(exfalso;omega)|(unfold Ad;rw[if_pos (by omega)];done)|(unfold Ad;rw[if_neg (by omega),if_pos (by first|omega|(dsimp only;omega))];done)|(have hz:=Av (r:=record) (by omega) (by first|omega|(dsimp only;omega)) hA hB hC;exact hz)|(have hz:=Bc (r:=record) (by omega) (by first|omega|(dsimp only;omega)) hA hB (by first|omega|(dsimp only;omega));exact hz)|(have hz:=Bg (r:=record) (by omega) (by first|omega|(dsimp only;omega)) hA (by first|omega|(dsimp only;omega));exact hz))
 rw[hr]at e
 simp only[Prod.mk.injEq,Ac.mk.injEq,Aa.mk.injEq]at e
 obtain⟨⟨rfl,rfl,rfl,rfl,rfl,rfl⟩,⟨rfl,rfl,rfl,rfl,rfl,rfl,rfl,rfl,rfl⟩,rfl⟩:=e
 refine hQ _ _ ?_
 exact .many (.inl rfl) rfl rfl (.agg (.d rfl (Ag hrlnod A0) (.d rfl (Ag hrlent A3) (.d rfl (Ag hrlold A1) (.d rfl (Ag hrlste A2) (.d rfl rfl (.d rfl rfl (.nil))))))) (.agg (.d rfl rfl (.d rfl rfl (.d rfl rfl (.d rfl rfl (.d rfl rfl (.d rfl (Ag hlwoff hoboff) (.d rfl rfl (.d rfl rfl (.d rfl rfl (.nil)))))))))) (.d rfl rfl (.nil))))
 conv=>cbv
 refine .eql (fun h9=>?_) fun h9=>?_
 conv=>cbv
 refine .eql (fun h10=>?_) fun h10=>?_
 conv=>cbv
 have hA:Pu (⟨Ah,Ak,Aj,Ai,An,Am⟩:Ac) (⟨wver,wstr,wrol,wbas,wlin,woff,wend,true,wcod⟩:Aa)=((⟨Ah,Ak,Aj,Ai,An,Am⟩:Ac),(⟨wver,wstr,wrol,wbas,wlin,woff,wend,true,wcod⟩:Aa)):=by unfold Pu;rw[if_neg (by first|(simp;done)|(exfalso;omega)|(simp;omega))]
 have hB:appB ((⟨Ah,Ak,Aj,Ai,An,Am⟩:Ac),(⟨wver,wstr,wrol,wbas,wlin,woff,wend,true,wcod⟩:Aa))=((⟨Ah,Ak,Aj,Ai,An,Am⟩:Ac),(⟨wver,wstr,wrol,wbas,wlin,woff,wend,true,wcod⟩:Aa)):=by unfold appB;rw[if_neg (by first|(simp;done)|(exfalso;omega)|(simp;omega))]
 by_cases hlc:L6 (⟨Ah,Ak,Aj,Ai,An,Am⟩:Ac) (⟨wver,wstr,wrol,wbas,wlin,woff,wend,true,wcod⟩:Aa) record=0
 generalize hxo:(woff++[wend]).map cI=xo
 obtain⟨nxo,hnx⟩:∃m,m=woff.length+1:=⟨_,rfl⟩
 obtain⟨en,hen⟩:∃m,wend+((Hw (⟨wver,wstr,wrol,wbas,wlin,woff,wend,true,wcod⟩:Aa) record).size:Int)=m:=⟨_,rfl⟩
 have hC:Im ((⟨Ah,Ak,Aj,Ai,An,Am⟩:Ac),(⟨wver,wstr,wrol,wbas,wlin,woff,wend,true,wcod⟩:Aa)) record=(Kz (⟨Ah,Ak,Aj,Ai,An,Am⟩:Ac) (⟨wver,wstr,wrol,wbas,wlin,woff,wend,true,wcod⟩:Aa) record,(⟨wver,wstr,wrol,wbas,wlin,woff++[wend],en,true,wcod⟩:Aa)):=by unfold Im;rw[if_pos (by first|omega|(dsimp only;omega))];unfold R9;rw[if_pos hlc,hen]
 rcases hld:Kz (⟨Ah,Ak,Aj,Ai,An,Am⟩:Ac) (⟨wver,wstr,wrol,wbas,wlin,woff,wend,true,wcod⟩:Aa) record with⟨ldnod,ldent,ldold,ldste,ldroo,ldnex⟩
 generalize hldnod:ldnod.map A5=xldnod
 generalize hldent:ldent.map Ae=xldent
 generalize hldold:ldold.map Ae=xldold
 generalize hldste:ldste.map cS=xldste
 rw[hld]at hC
 refine .bx [11,9] [9] hP (Iu hwoff (by first|rfl|omega) Ap As Au At aa (by first|omega|(dsimp only;omega)) hw hk (by omega) hlc hld hldnod hldent hldold hldste hxo hnx hen) rfl rfl rfl rfl ?_
 conv=>cbv
 have e:((⟨ldnod,ldent,ldold,ldste,ldroo,ldnex⟩:Ac),(⟨wver,wstr,wrol,wbas,wlin,woff++[wend],en,true,wcod⟩:Aa),wcod)=Ad (⟨Ah,Ak,Aj,Ai,An,Am⟩:Ac) (⟨wver,wstr,wrol,wbas,wlin,woff,wend,true,wcod⟩:Aa) record:=(by first|(exfalso;omega)|(unfold Ad;rw[if_pos (by omega)];done)|(unfold Ad;rw[if_neg (by omega),if_pos (by first|omega|(dsimp only;omega))];done)|(have hz:=Av (r:=record) (by omega) (by first|omega|(dsimp only;omega)) hA hB hC;exact hz)|(have hz:=Bc (r:=record) (by omega) (by first|omega|(dsimp only;omega)) hA hB (by first|omega|(dsimp only;omega));exact hz)|(have hz:=Bg (r:=record) (by omega) (by first|omega|(dsimp only;omega)) hA (by first|omega|(dsimp only;omega));exact hz))
 rw[hr]at e
 simp only[Prod.mk.injEq,Ac.mk.injEq,Aa.mk.injEq]at e
 obtain⟨⟨rfl,rfl,rfl,rfl,rfl,rfl⟩,⟨rfl,rfl,rfl,rfl,rfl,rfl,rfl,rfl,rfl⟩,rfl⟩:=e
 refine hQ _ _ ?_
 exact .many (.inl rfl) rfl rfl (.agg (.d rfl (Ag hldnod A0) (.d rfl (Ag hldent A3) (.d rfl (Ag hldold A1) (.d rfl (Ag hldste A2) (.d rfl rfl (.d rfl rfl (.nil))))))) (.agg (.d rfl rfl (.d rfl rfl (.d rfl rfl (.d rfl rfl (.d rfl rfl (.ref rfl (Aq hxo) (Br hxo hoboff) (.d rfl rfl (.d rfl rfl (.d rfl rfl (.nil)))))))))) (.d rfl rfl (.nil))))
 have hC:Im ((⟨Ah,Ak,Aj,Ai,An,Am⟩:Ac),(⟨wver,wstr,wrol,wbas,wlin,woff,wend,true,wcod⟩:Aa)) record=(Kz (⟨Ah,Ak,Aj,Ai,An,Am⟩:Ac) (⟨wver,wstr,wrol,wbas,wlin,woff,wend,true,wcod⟩:Aa) record,(⟨wver,wstr,wrol,wbas,wlin,woff,wend,true,2⟩:Aa)):=by unfold Im;rw[if_pos (by first|omega|(dsimp only;omega))];unfold R9;rw[if_neg hlc]
 rcases hld:Kz (⟨Ah,Ak,Aj,Ai,An,Am⟩:Ac) (⟨wver,wstr,wrol,wbas,wlin,woff,wend,true,wcod⟩:Aa) record with⟨ldnod,ldent,ldold,ldste,ldroo,ldnex⟩
 generalize hldnod:ldnod.map A5=xldnod
 generalize hldent:ldent.map Ae=xldent
 generalize hldold:ldold.map Ae=xldold
 generalize hldste:ldste.map cS=xldste
 rw[hld]at hC
 refine .bx [11,9] [9] hP (Iy hwoff (by first|rfl|omega) Ap As Au At aa (by first|omega|(dsimp only;omega)) hw hk (by omega) hlc hld hldnod hldent hldold hldste) rfl rfl rfl rfl ?_
 conv=>cbv
 have e:((⟨ldnod,ldent,ldold,ldste,ldroo,ldnex⟩:Ac),(⟨wver,wstr,wrol,wbas,wlin,woff,wend,true,2⟩:Aa),2)=Ad (⟨Ah,Ak,Aj,Ai,An,Am⟩:Ac) (⟨wver,wstr,wrol,wbas,wlin,woff,wend,true,wcod⟩:Aa) record:=(by first|(exfalso;omega)|(unfold Ad;rw[if_pos (by omega)];done)|(unfold Ad;rw[if_neg (by omega),if_pos (by first|omega|(dsimp only;omega))];done)|(have hz:=Av (r:=record) (by omega) (by first|omega|(dsimp only;omega)) hA hB hC;exact hz)|(have hz:=Bc (r:=record) (by omega) (by first|omega|(dsimp only;omega)) hA hB (by first|omega|(dsimp only;omega));exact hz)|(have hz:=Bg (r:=record) (by omega) (by first|omega|(dsimp only;omega)) hA (by first|omega|(dsimp only;omega));exact hz))
 rw[hr]at e
 simp only[Prod.mk.injEq,Ac.mk.injEq,Aa.mk.injEq]at e
 obtain⟨⟨rfl,rfl,rfl,rfl,rfl,rfl⟩,⟨rfl,rfl,rfl,rfl,rfl,rfl,rfl,rfl,rfl⟩,rfl⟩:=e
 refine hQ _ _ ?_
 exact .many (.inl rfl) rfl rfl (.agg (.d rfl (Ag hldnod A0) (.d rfl (Ag hldent A3) (.d rfl (Ag hldold A1) (.d rfl (Ag hldste A2) (.d rfl rfl (.d rfl rfl (.nil))))))) (.agg (.d rfl rfl (.d rfl rfl (.d rfl rfl (.d rfl rfl (.d rfl rfl (.ref rfl (Aq hwoff) (Br hwoff hoboff) (.d rfl rfl (.d rfl rfl (.d rfl rfl (.nil)))))))))) (.d rfl rfl (.nil))))
 conv=>cbv
 have e:((⟨Ah,Ak,Aj,Ai,An,Am⟩:Ac),(⟨wver,wstr,wrol,wbas,wlin,woff,wend,true,wcod⟩:Aa),wcod)=Ad (⟨Ah,Ak,Aj,Ai,An,Am⟩:Ac) (⟨wver,wstr,wrol,wbas,wlin,woff,wend,true,wcod⟩:Aa) record:=(by first|(exfalso;omega)|(unfold Ad;rw[if_pos (by omega)];done)|(unfold Ad;rw[if_neg (by omega),if_pos (by first|omega|(dsimp only;omega))];done)|(have hz:=Av (r:=record) (by omega) (by first|omega|(dsimp only;omega)) hA hB hC;exact hz)|(have hz:=Bc (r:=record) (by omega) (by first|omega|(dsimp only;omega)) hA hB (by first|omega|(dsimp only;omega));exact hz)|(have hz:=Bg (r:=record) (by omega) (by first|omega|(dsimp only;omega)) hA (by first|omega|(dsimp only;omega));exact hz))
 rw[hr]at e
 simp only[Prod.mk.injEq,Ac.mk.injEq,Aa.mk.injEq]at e
 obtain⟨⟨rfl,rfl,rfl,rfl,rfl,rfl⟩,⟨rfl,rfl,rfl,rfl,rfl,rfl,rfl,rfl,rfl⟩,rfl⟩:=e
 refine hQ _ _ ?_
 exact .many (.inl rfl) rfl rfl (.agg (.d rfl (Ag Ap A0) (.d rfl (Ag As A3) (.d rfl (Ag Au A1) (.d rfl (Ag At A2) (.d rfl rfl (.d rfl rfl (.nil))))))) (.agg (.d rfl rfl (.d rfl rfl (.d rfl rfl (.d rfl rfl (.d rfl rfl (.ref rfl (Aq hwoff) (Br hwoff hoboff) (.d rfl rfl (.d rfl rfl (.d rfl rfl (.nil)))))))))) (.d rfl rfl (.nil))))
 conv=>cbv
 refine .eql (fun h10=>?_) fun h10=>?_
 conv=>cbv
 have hA:Pu (⟨Ah,Ak,Aj,Ai,An,Am⟩:Ac) (⟨wver,wstr,wrol,wbas,wlin,woff,wend,true,wcod⟩:Aa)=((⟨Ah,Ak,Aj,Ai,An,Am⟩:Ac),(⟨wver,wstr,wrol,wbas,wlin,woff,wend,true,wcod⟩:Aa)):=by unfold Pu;rw[if_neg (by first|(simp;done)|(exfalso;omega)|(simp;omega))]
 have hB:appB ((⟨Ah,Ak,Aj,Ai,An,Am⟩:Ac),(⟨wver,wstr,wrol,wbas,wlin,woff,wend,true,wcod⟩:Aa))=((⟨Ah,Ak,Aj,Ai,An,Am⟩:Ac),(⟨wver,wstr,wrol,wbas,wlin,woff,wend,true,wcod⟩:Aa)):=by unfold appB;rw[if_neg (by first|(simp;done)|(exfalso;omega)|(simp;omega))]
 by_cases hlc:L6 (⟨Ah,Ak,Aj,Ai,An,Am⟩:Ac) (⟨wver,wstr,wrol,wbas,wlin,woff,wend,true,wcod⟩:Aa) record=0
 generalize hxo:(woff++[wend]).map cI=xo
 obtain⟨nxo,hnx⟩:∃m,m=woff.length+1:=⟨_,rfl⟩
 obtain⟨en,hen⟩:∃m,wend+((Hw (⟨wver,wstr,wrol,wbas,wlin,woff,wend,true,wcod⟩:Aa) record).size:Int)=m:=⟨_,rfl⟩
 have hC:Im ((⟨Ah,Ak,Aj,Ai,An,Am⟩:Ac),(⟨wver,wstr,wrol,wbas,wlin,woff,wend,true,wcod⟩:Aa)) record=(Kz (⟨Ah,Ak,Aj,Ai,An,Am⟩:Ac) (⟨wver,wstr,wrol,wbas,wlin,woff,wend,true,wcod⟩:Aa) record,(⟨wver,wstr,wrol,wbas,wlin,woff++[wend],en,true,wcod⟩:Aa)):=by unfold Im;rw[if_pos (by first|omega|(dsimp only;omega))];unfold R9;rw[if_pos hlc,hen]
 rcases hld:Kz (⟨Ah,Ak,Aj,Ai,An,Am⟩:Ac) (⟨wver,wstr,wrol,wbas,wlin,woff,wend,true,wcod⟩:Aa) record with⟨ldnod,ldent,ldold,ldste,ldroo,ldnex⟩
 generalize hldnod:ldnod.map A5=xldnod
 generalize hldent:ldent.map Ae=xldent
 generalize hldold:ldold.map Ae=xldold
 generalize hldste:ldste.map cS=xldste
 rw[hld]at hC
 refine .bx [11,9] [9] hP (Iu hwoff (by first|rfl|omega) Ap As Au At aa (by first|omega|(dsimp only;omega)) hw hk (by omega) hlc hld hldnod hldent hldold hldste hxo hnx hen) rfl rfl rfl rfl ?_
 conv=>cbv
 have e:((⟨ldnod,ldent,ldold,ldste,ldroo,ldnex⟩:Ac),(⟨wver,wstr,wrol,wbas,wlin,woff++[wend],en,true,wcod⟩:Aa),wcod)=Ad (⟨Ah,Ak,Aj,Ai,An,Am⟩:Ac) (⟨wver,wstr,wrol,wbas,wlin,woff,wend,true,wcod⟩:Aa) record:=(by first|(exfalso;omega)|(unfold Ad;rw[if_pos (by omega)];done)|(unfold Ad;rw[if_neg (by omega),if_pos (by first|omega|(dsimp only;omega))];done)|(have hz:=Av (r:=record) (by omega) (by first|omega|(dsimp only;omega)) hA hB hC;exact hz)|(have hz:=Bc (r:=record) (by omega) (by first|omega|(dsimp only;omega)) hA hB (by first|omega|(dsimp only;omega));exact hz)|(have hz:=Bg (r:=record) (by omega) (by first|omega|(dsimp only;omega)) hA (by first|omega|(dsimp only;omega));exact hz))
 rw[hr]at e
 simp only[Prod.mk.injEq,Ac.mk.injEq,Aa.mk.injEq]at e
 obtain⟨⟨rfl,rfl,rfl,rfl,rfl,rfl⟩,⟨rfl,rfl,rfl,rfl,rfl,rfl,rfl,rfl,rfl⟩,rfl⟩:=e
 refine hQ _ _ ?_
 exact .many (.inl rfl) rfl rfl (.agg (.d rfl (Ag hldnod A0) (.d rfl (Ag hldent A3) (.d rfl (Ag hldold A1) (.d rfl (Ag hldste A2) (.d rfl rfl (.d rfl rfl (.nil))))))) (.agg (.d rfl rfl (.d rfl rfl (.d rfl rfl (.d rfl rfl (.d rfl rfl (.ref rfl (Aq hxo) (Br hxo hoboff) (.d rfl rfl (.d rfl rfl (.d rfl rfl (.nil)))))))))) (.d rfl rfl (.nil))))
 have hC:Im ((⟨Ah,Ak,Aj,Ai,An,Am⟩:Ac),(⟨wver,wstr,wrol,wbas,wlin,woff,wend,true,wcod⟩:Aa)) record=(Kz (⟨Ah,Ak,Aj,Ai,An,Am⟩:Ac) (⟨wver,wstr,wrol,wbas,wlin,woff,wend,true,wcod⟩:Aa) record,(⟨wver,wstr,wrol,wbas,wlin,woff,wend,true,2⟩:Aa)):=by unfold Im;rw[if_pos (by first|omega|(dsimp only;omega))];unfold R9;rw[if_neg hlc]
 rcases hld:Kz (⟨Ah,Ak,Aj,Ai,An,Am⟩:Ac) (⟨wver,wstr,wrol,wbas,wlin,woff,wend,true,wcod⟩:Aa) record with⟨ldnod,ldent,ldold,ldste,ldroo,ldnex⟩
 generalize hldnod:ldnod.map A5=xldnod
 generalize hldent:ldent.map Ae=xldent
 generalize hldold:ldold.map Ae=xldold
 generalize hldste:ldste.map cS=xldste
 rw[hld]at hC
 refine .bx [11,9] [9] hP (Iy hwoff (by first|rfl|omega) Ap As Au At aa (by first|omega|(dsimp only;omega)) hw hk (by omega) hlc hld hldnod hldent hldold hldste) rfl rfl rfl rfl ?_
 conv=>cbv
 have e:((⟨ldnod,ldent,ldold,ldste,ldroo,ldnex⟩:Ac),(⟨wver,wstr,wrol,wbas,wlin,woff,wend,true,2⟩:Aa),2)=Ad (⟨Ah,Ak,Aj,Ai,An,Am⟩:Ac) (⟨wver,wstr,wrol,wbas,wlin,woff,wend,true,wcod⟩:Aa) record:=(by first|(exfalso;omega)|(unfold Ad;rw[if_pos (by omega)];done)|(unfold Ad;rw[if_neg (by omega),if_pos (by first|omega|(dsimp only;omega))];done)|(have hz:=Av (r:=record) (by omega) (by first|omega|(dsimp only;omega)) hA hB hC;exact hz)|(have hz:=Bc (r:=record) (by omega) (by first|omega|(dsimp only;omega)) hA hB (by first|omega|(dsimp only;omega));exact hz)|(have hz:=Bg (r:=record) (by omega) (by first|omega|(dsimp only;omega)) hA (by first|omega|(dsimp only;omega));exact hz))
 rw[hr]at e
 simp only[Prod.mk.injEq,Ac.mk.injEq,Aa.mk.injEq]at e
 obtain⟨⟨rfl,rfl,rfl,rfl,rfl,rfl⟩,⟨rfl,rfl,rfl,rfl,rfl,rfl,rfl,rfl,rfl⟩,rfl⟩:=e
 refine hQ _ _ ?_
 exact .many (.inl rfl) rfl rfl (.agg (.d rfl (Ag hldnod A0) (.d rfl (Ag hldent A3) (.d rfl (Ag hldold A1) (.d rfl (Ag hldste A2) (.d rfl rfl (.d rfl rfl (.nil))))))) (.agg (.d rfl rfl (.d rfl rfl (.d rfl rfl (.d rfl rfl (.d rfl rfl (.ref rfl (Aq hwoff) (Br hwoff hoboff) (.d rfl rfl (.d rfl rfl (.d rfl rfl (.nil)))))))))) (.d rfl rfl (.nil))))
 conv=>cbv
 have e:((⟨Ah,Ak,Aj,Ai,An,Am⟩:Ac),(⟨wver,wstr,wrol,wbas,wlin,woff,wend,true,wcod⟩:Aa),wcod)=Ad (⟨Ah,Ak,Aj,Ai,An,Am⟩:Ac) (⟨wver,wstr,wrol,wbas,wlin,woff,wend,true,wcod⟩:Aa) record:=(by first|(exfalso;omega)|(unfold Ad;rw[if_pos (by omega)];done)|(unfold Ad;rw[if_neg (by omega),if_pos (by first|omega|(dsimp only;omega))];done)|(have hz:=Av (r:=record) (by omega) (by first|omega|(dsimp only;omega)) hA hB hC;exact hz)|(have hz:=Bc (r:=record) (by omega) (by first|omega|(dsimp only;omega)) hA hB (by first|omega|(dsimp only;omega));exact hz)|(have hz:=Bg (r:=record) (by omega) (by first|omega|(dsimp only;omega)) hA (by first|omega|(dsimp only;omega));exact hz))
 rw[hr]at e
 simp only[Prod.mk.injEq,Ac.mk.injEq,Aa.mk.injEq]at e
 obtain⟨⟨rfl,rfl,rfl,rfl,rfl,rfl⟩,⟨rfl,rfl,rfl,rfl,rfl,rfl,rfl,rfl,rfl⟩,rfl⟩:=e
 refine hQ _ _ ?_
 exact .many (.inl rfl) rfl rfl (.agg (.d rfl (Ag Ap A0) (.d rfl (Ag As A3) (.d rfl (Ag Au A1) (.d rfl (Ag At A2) (.d rfl rfl (.d rfl rfl (.nil))))))) (.agg (.d rfl rfl (.d rfl rfl (.d rfl rfl (.d rfl rfl (.d rfl rfl (.ref rfl (Aq hwoff) (Br hwoff hoboff) (.d rfl rfl (.d rfl rfl (.d rfl rfl (.nil)))))))))) (.d rfl rfl (.nil))))
theorem Xbt(Ap:Ah.map A5=Bk)(As:Ak.map Ae=Bh)(Au:Aj.map Ae=Bf)(At:Ai.map cS=Bl)(hwoff:woff.map cI=xwoff)(a5:H2 (⟨Ah,Ak,Aj,Ai,An,Am⟩:Ac))(hst:Ai.length<800000000)(hw:Oi k (⟨wver,wstr,wrol,wbas,wlin,woff,wend,wope,wcod⟩:Aa))(hk:k≤1000000)(hr:Ad (⟨Ah,Ak,Aj,Ai,An,Am⟩:Ac) (⟨wver,wstr,wrol,wbas,wlin,woff,wend,wope,wcod⟩:Aa) record=(⟨F4,F6,F9,Ga,F7,F5⟩,⟨obver,obstr,obrol,obbas,oblin,oboff,obend,obope,obcod⟩,oc))(A0:F4.map A5=D5)(A3:F6.map Ae=D3)(A1:F9.map Ae=D0)(A2:Ga.map cS=Dz)(hoboff:oboff.map cI=xoboff):Fn Tryz.prog 76 [.agg [.d (.row 3 Bk),.d (.row 2 Bh),.d (.row 2 Bf),.d (.row 1 Bl),I An,I Am],.agg [I wver,I wstr,I wrol,I wbas,I wlin,.d (.row 1 xwoff),I wend,B wope,I wcod],S record] [] ⟨.tup [.agg [.d (.row 3 D5),.d (.row 2 D3),.d (.row 2 D0),.d (.row 1 Dz),I F7,I F5],.agg [I obver,I obstr,I obrol,I obbas,I oblin,.d (.row 1 xoboff),I obend,B obope,I obcod],I oc],[],[]⟩:=by
 refine Fn.go Xdj Tryz.func76 fun P hP Q hQ=>?_
 conv=>cbv
 have d7:Ah.length≤1000000000:=a5.1.1
 have d8:Ak.length≤1000000000:=a5.1.2.2.1
 have d9:Aj.length≤1000000000:=a5.1.2.2.2.2.1
 have dx:=Qp hw hk
 simp only[]at dx
 have h_hb_:=hw
 obtain⟨hb_1,hb_2,hb_3,hb_4,-⟩:=h_hb_
 try (simp only[]at hb_1 hb_2 hb_3 hb_4)
 refine .dd hP (Vu Ap As Au At (by omega) (by omega) (by omega) (by omega)) ?_
 conv=>cbv
 cases wope
 refine .dd hP (Vm hwoff (by omega)) ?_
 conv=>cbv
 refine .go fun v3 ea=>?_
 conv=>cbv
 refine .gtr (fun h4=>?_) fun h4=>?_
 conv=>cbv
 have e:((⟨Ah,Ak,Aj,Ai,An,Am⟩:Ac),(⟨wver,wstr,wrol,wbas,wlin,woff,wend,false,wcod⟩:Aa),1)=Ad (⟨Ah,Ak,Aj,Ai,An,Am⟩:Ac) (⟨wver,wstr,wrol,wbas,wlin,woff,wend,false,wcod⟩:Aa) record:=(by first|(exfalso;omega)|(unfold Ad;rw[if_pos (by omega)];done)|(unfold Ad;rw[if_neg (by omega),if_pos (by first|omega|(dsimp only;omega))];done)|(have hz:=Av (r:=record) (by omega) (by first|omega|(dsimp only;omega)) hA hB hC;exact hz)|(have hz:=Bc (r:=record) (by omega) (by first|omega|(dsimp only;omega)) hA hB (by first|omega|(dsimp only;omega));exact hz)|(have hz:=Bg (r:=record) (by omega) (by first|omega|(dsimp only;omega)) hA (by first|omega|(dsimp only;omega));exact hz)|(have hz:=Av (r:=record) (by omega) (by first|omega|(dsimp only;omega)) hA hB hC;obtain rfl:wcod=0:=(by omega);exact hz)|(have hz:=Av (r:=record) (by omega) (by first|omega|(dsimp only;omega)) hA hB hC;obtain rfl:lwcod=0:=(by omega);exact hz))
 rw[hr]at e
 simp only[Prod.mk.injEq,Ac.mk.injEq,Aa.mk.injEq]at e
 obtain⟨⟨rfl,rfl,rfl,rfl,rfl,rfl⟩,⟨rfl,rfl,rfl,rfl,rfl,rfl,rfl,rfl,rfl⟩,rfl⟩:=e
 refine hQ _ _ ?_
 exact .many (.inl rfl) rfl rfl (.agg (.d rfl (Ag Ap A0) (.d rfl (Ag As A3) (.d rfl (Ag Au A1) (.d rfl (Ag At A2) (.d rfl rfl (.d rfl rfl (.nil))))))) (.agg (.d rfl rfl (.d rfl rfl (.d rfl rfl (.d rfl rfl (.d rfl rfl (.d rfl (Ag hwoff hoboff) (.d rfl rfl (.d rfl rfl (.d rfl rfl (.nil)))))))))) (.d rfl rfl (.nil))))
 conv=>cbv
 refine .neq (fun h5=>?_) fun h5=>?_
 conv=>cbv
 have e:((⟨Ah,Ak,Aj,Ai,An,Am⟩:Ac),(⟨wver,wstr,wrol,wbas,wlin,woff,wend,false,wcod⟩:Aa),wcod)=Ad (⟨Ah,Ak,Aj,Ai,An,Am⟩:Ac) (⟨wver,wstr,wrol,wbas,wlin,woff,wend,false,wcod⟩:Aa) record:=(by first|(exfalso;omega)|(unfold Ad;rw[if_pos (by omega)];done)|(unfold Ad;rw[if_neg (by omega),if_pos (by first|omega|(dsimp only;omega))];done)|(have hz:=Av (r:=record) (by omega) (by first|omega|(dsimp only;omega)) hA hB hC;exact hz)|(have hz:=Bc (r:=record) (by omega) (by first|omega|(dsimp only;omega)) hA hB (by first|omega|(dsimp only;omega));exact hz)|(have hz:=Bg (r:=record) (by omega) (by first|omega|(dsimp only;omega)) hA (by first|omega|(dsimp only;omega));exact hz)|(have hz:=Av (r:=record) (by omega) (by first|omega|(dsimp only;omega)) hA hB hC;obtain rfl:wcod=0:=(by omega);exact hz)|(have hz:=Av (r:=record) (by omega) (by first|omega|(dsimp only;omega)) hA hB hC;obtain rfl:lwcod=0:=(by omega);exact hz))
 rw[hr]at e
 simp only[Prod.mk.injEq,Ac.mk.injEq,Aa.mk.injEq]at e
 obtain⟨⟨rfl,rfl,rfl,rfl,rfl,rfl⟩,⟨rfl,rfl,rfl,rfl,rfl,rfl,rfl,rfl,rfl⟩,rfl⟩:=e
 refine hQ _ _ ?_
 exact .many (.inl rfl) rfl rfl (.agg (.d rfl (Ag Ap A0) (.d rfl (Ag As A3) (.d rfl (Ag Au A1) (.d rfl (Ag At A2) (.d rfl rfl (.d rfl rfl (.nil))))))) (.agg (.d rfl rfl (.d rfl rfl (.d rfl rfl (.d rfl rfl (.d rfl rfl (.d rfl (Ag hwoff hoboff) (.d rfl rfl (.d rfl rfl (.d rfl rfl (.nil)))))))))) (.d rfl rfl (.nil))))
 conv=>cbv
 refine .eql (fun h6=>?_) fun h6=>?_
 conv=>cbv
 have hA:Pu (⟨Ah,Ak,Aj,Ai,An,Am⟩:Ac) (⟨wver,wstr,wrol,wbas,wlin,woff,wend,false,wcod⟩:Aa)=((⟨Ah,Ak,Aj,Ai,An,Am⟩:Ac),(⟨wver,wstr,wrol,wbas,wlin,woff,wend,false,wcod⟩:Aa)):=by unfold Pu;rw[if_neg (by first|(simp;done)|(exfalso;omega)|(simp;omega))]
 by_cases hbc:Nd (⟨Ah,Ak,Aj,Ai,An,Am⟩:Ac) (⟨wver,wstr,wrol,wbas,wlin,woff,wend,false,wcod⟩:Aa)=0
 have hgB:=Oa (d:=(⟨Ah,Ak,Aj,Ai,An,Am⟩:Ac)) (w:=(⟨wver,wstr,wrol,wbas,wlin,woff,wend,false,wcod⟩:Aa)) a5 (by first|omega|(dsimp only;omega))
 have hwB:=Og (d:=(⟨Ah,Ak,Aj,Ai,An,Am⟩:Ac)) (w:=(⟨wver,wstr,wrol,wbas,wlin,woff,wend,false,wcod⟩:Aa)) hw
 unfold Xan at hwB
 rw[if_pos hbc]at hwB
 have hB:appB ((⟨Ah,Ak,Aj,Ai,An,Am⟩:Ac),(⟨wver,wstr,wrol,wbas,wlin,woff,wend,false,wcod⟩:Aa))=(K4 (⟨Ah,Ak,Aj,Ai,An,Am⟩:Ac) (⟨wver,wstr,wrol,wbas,wlin,woff,wend,false,wcod⟩:Aa),(⟨wver,wstr,wrol,wbas,wlin,[],24,true,wcod⟩:Aa)):=by unfold appB;rw[if_pos ⟨by dsimp only;omega,rfl⟩];unfold Xan;rw[if_pos hbc]
 rcases hbd:K4 (⟨Ah,Ak,Aj,Ai,An,Am⟩:Ac) (⟨wver,wstr,wrol,wbas,wlin,woff,wend,false,wcod⟩:Aa)with⟨bdnod,bdent,bdold,bdste,bdroo,bdnex⟩
 generalize hbdnod:bdnod.map A5=xbdnod
 generalize hbdent:bdent.map Ae=xbdent
 generalize hbdold:bdold.map Ae=xbdold
 generalize hbdste:bdste.map cS=xbdste
 rw[hbd]at hgB hB
 have hsB:=hgB.2
 simp only[]at hsB hwB
 obtain⟨hc_1,hc_2,hc_3,hc_4,-⟩:=id hwB
 try (simp only[]at hc_1 hc_2 hc_3 hc_4)
 refine .ddN hP (V8 Ap As Au At hwoff a5 (by first|omega|(dsimp only;omega)) hw hk hbc hbd hbdnod hbdent hbdold hbdste) rfl ?_
 conv=>cbv
 refine .neq (fun h8=>?_) fun h8=>?_
 conv=>cbv
 have e:((⟨bdnod,bdent,bdold,bdste,bdroo,bdnex⟩:Ac),(⟨wver,wstr,wrol,wbas,wlin,([]:List Int),24,true,wcod⟩:Aa),wcod)=Ad (⟨Ah,Ak,Aj,Ai,An,Am⟩:Ac) (⟨wver,wstr,wrol,wbas,wlin,woff,wend,false,wcod⟩:Aa) record:=(by first|(exfalso;omega)|(unfold Ad;rw[if_pos (by omega)];done)|(unfold Ad;rw[if_neg (by omega),if_pos (by first|omega|(dsimp only;omega))];done)|(have hz:=Av (r:=record) (by omega) (by first|omega|(dsimp only;omega)) hA hB hC;exact hz)|(have hz:=Bc (r:=record) (by omega) (by first|omega|(dsimp only;omega)) hA hB (by first|omega|(dsimp only;omega));exact hz)|(have hz:=Bg (r:=record) (by omega) (by first|omega|(dsimp only;omega)) hA (by first|omega|(dsimp only;omega));exact hz)|(have hz:=Av (r:=record) (by omega) (by first|omega|(dsimp only;omega)) hA hB hC;obtain rfl:wcod=0:=(by omega);exact hz)|(have hz:=Av (r:=record) (by omega) (by first|omega|(dsimp only;omega)) hA hB hC;obtain rfl:lwcod=0:=(by omega);exact hz))
 rw[hr]at e
 simp only[Prod.mk.injEq,Ac.mk.injEq,Aa.mk.injEq]at e
 obtain⟨⟨rfl,rfl,rfl,rfl,rfl,rfl⟩,⟨rfl,rfl,rfl,rfl,rfl,rfl,rfl,rfl,rfl⟩,rfl⟩:=e
 refine hQ _ _ ?_
 exact .many (.inl rfl) rfl rfl (.agg (.d rfl (Ag hbdnod A0) (.d rfl (Ag hbdent A3) (.d rfl (Ag hbdold A1) (.d rfl (Ag hbdste A2) (.d rfl rfl (.d rfl rfl (.nil))))))) (.agg (.d rfl rfl (.d rfl rfl (.d rfl rfl (.d rfl rfl (.d rfl rfl (.ref rfl rfl (by rw[←hoboff];rfl) (.d rfl rfl (.d rfl rfl (.d rfl rfl (.nil)))))))))) (.d rfl rfl (.nil))))
 conv=>cbv
 refine .go fun v9 ck=>?_
 conv=>cbv
 refine .add fun de cg=>?_
 conv=>cbv
 generalize bn:Aw wver de record=ca
 have zr11:=Cu bn
 refine .dd hP (Ef (by omega) bn) ?_
 conv=>cbv
 generalize bp:Af wbas=df
 refine .dd hP (Cy bp) ?_
 conv=>cbv
 rcases a4:Ao (⟨bdnod,bdent,bdold,bdste,bdroo,bdnex⟩:Ac) df ca with⟨⟨ag,ah,ai,aj,ap,aq⟩,ch⟩
 generalize a6:ag.map A5=cm
 generalize a7:ah.map Ae=cn
 generalize a8:ai.map Ae=co
 generalize a9:aj.map cS=cp
 refine .dd hP (Dn hbdnod hbdent hbdold hbdste hgB.1.1.1 hgB.1.1.2.2.1 hgB.1.1.2.2.2.2.1 (by omega) hgB.1.2.2 hgB.1 (by omega) a4 a6 a7 a8 a9) ?_
 conv=>cbv
 refine .neq (fun h14=>?_) fun h14=>?_
 conv=>cbv
 have hlf:Hw (⟨wver,wstr,wrol,wbas,wlin,([]:List Int),24,true,wcod⟩:Aa) record=ca:=by unfold Hw;dsimp only;rw[←bn,cg,ck]<;>first|rfl|(congr 1;omega)|(congr 1;simp;omega)|(congr 1;simp)
 have hca:Ao (⟨bdnod,bdent,bdold,bdste,bdroo,bdnex⟩:Ac) (Af wbas) (Hw (⟨wver,wstr,wrol,wbas,wlin,([]:List Int),24,true,wcod⟩:Aa) record)=((⟨ag,ah,ai,aj,ap,aq⟩:Ac),ch):=by rw[hlf,bp];exact a4
 have bo:L6 (⟨bdnod,bdent,bdold,bdste,bdroo,bdnex⟩:Ac) (⟨wver,wstr,wrol,wbas,wlin,([]:List Int),24,true,wcod⟩:Aa) record=2:=by unfold L6;dsimp only;rw[hca];exact if_pos h14
 have hC:Im ((⟨bdnod,bdent,bdold,bdste,bdroo,bdnex⟩:Ac),(⟨wver,wstr,wrol,wbas,wlin,([]:List Int),24,true,wcod⟩:Aa)) record=((⟨ag,ah,ai,aj,ap,aq⟩:Ac),(⟨wver,wstr,wrol,wbas,wlin,([]:List Int),24,true,2⟩:Aa)):=by unfold Im;rw[if_pos (by first|omega|(dsimp only;omega))];unfold Kz R9;rw[bo,if_neg (by decide)];dsimp only;rw[hca]
 have e:((⟨ag,ah,ai,aj,ap,aq⟩:Ac),(⟨wver,wstr,wrol,wbas,wlin,([]:List Int),24,true,2⟩:Aa),2)=Ad (⟨Ah,Ak,Aj,Ai,An,Am⟩:Ac) (⟨wver,wstr,wrol,wbas,wlin,woff,wend,false,wcod⟩:Aa) record:=(by first|(exfalso;omega)|(unfold Ad;rw[if_pos (by omega)];done)|(unfold Ad;rw[if_neg (by omega),if_pos (by first|omega|(dsimp only;omega))];done)|(have hz:=Av (r:=record) (by omega) (by first|omega|(dsimp only;omega)) hA hB hC;exact hz)|(have hz:=Bc (r:=record) (by omega) (by first|omega|(dsimp only;omega)) hA hB (by first|omega|(dsimp only;omega));exact hz)|(have hz:=Bg (r:=record) (by omega) (by first|omega|(dsimp only;omega)) hA (by first|omega|(dsimp only;omega));exact hz)|(have hz:=Av (r:=record) (by omega) (by first|omega|(dsimp only;omega)) hA hB hC;obtain rfl:wcod=0:=(by omega);exact hz)|(have hz:=Av (r:=record) (by omega) (by first|omega|(dsimp only;omega)) hA hB hC;obtain rfl:lwcod=0:=(by omega);exact hz))
 rw[hr]at e
 simp only[Prod.mk.injEq,Ac.mk.injEq,Aa.mk.injEq]at e
 obtain⟨⟨rfl,rfl,rfl,rfl,rfl,rfl⟩,⟨rfl,rfl,rfl,rfl,rfl,rfl,rfl,rfl,rfl⟩,rfl⟩:=e
 refine hQ _ _ ?_
 exact .many (.inl rfl) rfl rfl (.agg (.d rfl (Ag a6 A0) (.d rfl (Ag a7 A3) (.d rfl (Ag a8 A1) (.d rfl (Ag a9 A2) (.d rfl rfl (.d rfl rfl (.nil))))))) (.agg (.d rfl rfl (.d rfl rfl (.d rfl rfl (.d rfl rfl (.d rfl rfl (.ref rfl rfl (by rw[←hoboff];rfl) (.d rfl rfl (.d rfl rfl (.d rfl rfl (.nil)))))))))) (.d rfl rfl (.nil))))
 conv=>cbv
 refine .one (24:Int) (show([]:List Int).map cI=[]from rfl) rfl (hl:=rfl) fun d5 eb dy db=>?_
 conv=>cbv
 refine .go fun ec dn=>?_
 conv=>cbv
 refine .add fun dp dq=>?_
 conv=>cbv
 have hlf:Hw (⟨wver,wstr,wrol,wbas,wlin,([]:List Int),24,true,wcod⟩:Aa) record=ca:=by unfold Hw;dsimp only;rw[←bn,cg,ck]<;>first|rfl|(congr 1;omega)|(congr 1;simp;omega)|(congr 1;simp)
 have hca:Ao (⟨bdnod,bdent,bdold,bdste,bdroo,bdnex⟩:Ac) (Af wbas) (Hw (⟨wver,wstr,wrol,wbas,wlin,([]:List Int),24,true,wcod⟩:Aa) record)=((⟨ag,ah,ai,aj,ap,aq⟩:Ac),ch):=by rw[hlf,bp];exact a4
 have ce:L6 (⟨bdnod,bdent,bdold,bdste,bdroo,bdnex⟩:Ac) (⟨wver,wstr,wrol,wbas,wlin,([]:List Int),24,true,wcod⟩:Aa) record=0:=by unfold L6;dsimp only;rw[hca];exact if_neg (by first|omega|(dsimp only;omega))
 have hC:Im ((⟨bdnod,bdent,bdold,bdste,bdroo,bdnex⟩:Ac),(⟨wver,wstr,wrol,wbas,wlin,([]:List Int),24,true,wcod⟩:Aa)) record=((⟨ag,ah,ai,aj,ap,aq⟩:Ac),(⟨wver,wstr,wrol,wbas,wlin,([]:List Int)++[24],dp,true,wcod⟩:Aa)):=by unfold Im;rw[if_pos (by first|omega|(dsimp only;omega))];unfold Kz R9;rw[ce,if_pos rfl];dsimp only;rw[hca,hlf,dq,dn]
 have e:((⟨ag,ah,ai,aj,ap,aq⟩:Ac),(⟨wver,wstr,wrol,wbas,wlin,(([]:List Int)++[24]),dp,true,wcod⟩:Aa),0)=Ad (⟨Ah,Ak,Aj,Ai,An,Am⟩:Ac) (⟨wver,wstr,wrol,wbas,wlin,woff,wend,false,wcod⟩:Aa) record:=(by first|(exfalso;omega)|(unfold Ad;rw[if_pos (by omega)];done)|(unfold Ad;rw[if_neg (by omega),if_pos (by first|omega|(dsimp only;omega))];done)|(have hz:=Av (r:=record) (by omega) (by first|omega|(dsimp only;omega)) hA hB hC;exact hz)|(have hz:=Bc (r:=record) (by omega) (by first|omega|(dsimp only;omega)) hA hB (by first|omega|(dsimp only;omega));exact hz)|(have hz:=Bg (r:=record) (by omega) (by first|omega|(dsimp only;omega)) hA (by first|omega|(dsimp only;omega));exact hz)|(have hz:=Av (r:=record) (by omega) (by first|omega|(dsimp only;omega)) hA hB hC;obtain rfl:wcod=0:=(by omega);exact hz)|(have hz:=Av (r:=record) (by omega) (by first|omega|(dsimp only;omega)) hA hB hC;obtain rfl:lwcod=0:=(by omega);exact hz))
 rw[hr]at e
 simp only[Prod.mk.injEq,Ac.mk.injEq,Aa.mk.injEq]at e
 obtain⟨⟨rfl,rfl,rfl,rfl,rfl,rfl⟩,⟨rfl,rfl,rfl,rfl,rfl,rfl,rfl,rfl,rfl⟩,rfl⟩:=e
 refine hQ _ _ ?_
 exact .many (.inl rfl) rfl rfl (.agg (.d rfl (Ag a6 A0) (.d rfl (Ag a7 A3) (.d rfl (Ag a8 A1) (.d rfl (Ag a9 A2) (.d rfl rfl (.d rfl rfl (.nil))))))) (.agg (.d rfl rfl (.d rfl rfl (.d rfl rfl (.d rfl rfl (.d rfl rfl (.ref rfl (Aq db) (Br db hoboff) (.d rfl rfl (.d rfl rfl (.d rfl rfl (.nil)))))))))) (.d rfl rfl (.nil))))
 obtain⟨bc,hbe⟩:∃c,Nd (⟨Ah,Ak,Aj,Ai,An,Am⟩:Ac) (⟨wver,wstr,wrol,wbas,wlin,woff,wend,false,wcod⟩:Aa)=c:=⟨_,rfl⟩
 rw[hbe]at hbc
 have hB:appB ((⟨Ah,Ak,Aj,Ai,An,Am⟩:Ac),(⟨wver,wstr,wrol,wbas,wlin,woff,wend,false,wcod⟩:Aa))=(K4 (⟨Ah,Ak,Aj,Ai,An,Am⟩:Ac) (⟨wver,wstr,wrol,wbas,wlin,woff,wend,false,wcod⟩:Aa),(⟨wver,wstr,wrol,wbas,wlin,woff,wend,false,bc⟩:Aa)):=by unfold appB;rw[if_pos ⟨by dsimp only;omega,rfl⟩];unfold Xan;rw[hbe,if_neg hbc]
 have hgB:=Oa (d:=(⟨Ah,Ak,Aj,Ai,An,Am⟩:Ac)) (w:=(⟨wver,wstr,wrol,wbas,wlin,woff,wend,false,wcod⟩:Aa)) a5 (by first|omega|(dsimp only;omega))
 have hwB:=Og (d:=(⟨Ah,Ak,Aj,Ai,An,Am⟩:Ac)) (w:=(⟨wver,wstr,wrol,wbas,wlin,woff,wend,false,wcod⟩:Aa)) hw
 unfold Xan at hwB
 rw[hbe,if_neg hbc]at hwB
 rcases hbd:K4 (⟨Ah,Ak,Aj,Ai,An,Am⟩:Ac) (⟨wver,wstr,wrol,wbas,wlin,woff,wend,false,wcod⟩:Aa)with⟨bdnod,bdent,bdold,bdste,bdroo,bdnex⟩
 generalize hbdnod:bdnod.map A5=xbdnod
 generalize hbdent:bdent.map Ae=xbdent
 generalize hbdold:bdold.map Ae=xbdold
 generalize hbdste:bdste.map cS=xbdste
 rw[hbd]at hgB hB
 have hsB:=hgB.2
 simp only[]at hsB hwB
 refine .dd hP (Vx Ap As Au At hwoff a5 (by first|omega|(dsimp only;omega)) hw hk hbe hbc hbd hbdnod hbdent hbdold hbdste) ?_
 conv=>cbv
 refine .neq (fun h8=>?_) fun h8=>?_
 conv=>cbv
 have e:((⟨bdnod,bdent,bdold,bdste,bdroo,bdnex⟩:Ac),(⟨wver,wstr,wrol,wbas,wlin,woff,wend,false,bc⟩:Aa),bc)=Ad (⟨Ah,Ak,Aj,Ai,An,Am⟩:Ac) (⟨wver,wstr,wrol,wbas,wlin,woff,wend,false,wcod⟩:Aa) record:=(by first|(exfalso;omega)|(unfold Ad;rw[if_pos (by omega)];done)|(unfold Ad;rw[if_neg (by omega),if_pos (by first|omega|(dsimp only;omega))];done)|(have hz:=Av (r:=record) (by omega) (by first|omega|(dsimp only;omega)) hA hB hC;exact hz)|(have hz:=Bc (r:=record) (by omega) (by first|omega|(dsimp only;omega)) hA hB (by first|omega|(dsimp only;omega));exact hz)|(have hz:=Bg (r:=record) (by omega) (by first|omega|(dsimp only;omega)) hA (by first|omega|(dsimp only;omega));exact hz)|(have hz:=Av (r:=record) (by omega) (by first|omega|(dsimp only;omega)) hA hB hC;obtain rfl:wcod=0:=(by omega);exact hz)|(have hz:=Av (r:=record) (by omega) (by first|omega|(dsimp only;omega)) hA hB hC;obtain rfl:lwcod=0:=(by omega);exact hz))
 rw[hr]at e
 simp only[Prod.mk.injEq,Ac.mk.injEq,Aa.mk.injEq]at e
 obtain⟨⟨rfl,rfl,rfl,rfl,rfl,rfl⟩,⟨rfl,rfl,rfl,rfl,rfl,rfl,rfl,rfl,rfl⟩,rfl⟩:=e
 refine hQ _ _ ?_
 exact .many (.inl rfl) rfl rfl (.agg (.d rfl (Ag hbdnod A0) (.d rfl (Ag hbdent A3) (.d rfl (Ag hbdold A1) (.d rfl (Ag hbdste A2) (.d rfl rfl (.d rfl rfl (.nil))))))) (.agg (.d rfl rfl (.d rfl rfl (.d rfl rfl (.d rfl rfl (.d rfl rfl (.d rfl (Ag hwoff hoboff) (.d rfl rfl (.d rfl rfl (.d rfl rfl (.nil)))))))))) (.d rfl rfl (.nil))))
 conv=>cbv
 refine .go hwoff fun v9 ck=>?_
 conv=>cbv
 refine .add fun de cg=>?_
 conv=>cbv
 generalize bn:Aw wver de record=ca
 have zr11:=Cu bn
 refine .dd hP (Ef (by omega) bn) ?_
 conv=>cbv
 generalize bp:Af wbas=df
 refine .dd hP (Cy bp) ?_
 conv=>cbv
 rcases a4:Ao (⟨bdnod,bdent,bdold,bdste,bdroo,bdnex⟩:Ac) df ca with⟨⟨ag,ah,ai,aj,ap,aq⟩,ch⟩
 generalize a6:ag.map A5=cm
 generalize a7:ah.map Ae=cn
 generalize a8:ai.map Ae=co
 generalize a9:aj.map cS=cp
 refine .dd hP (Dn hbdnod hbdent hbdold hbdste hgB.1.1.1 hgB.1.1.2.2.1 hgB.1.1.2.2.2.2.1 (by omega) hgB.1.2.2 hgB.1 (by omega) a4 a6 a7 a8 a9) ?_
 conv=>cbv
 refine .neq (fun h14=>?_) fun h14=>?_
 conv=>cbv
 have hlf:Hw (⟨wver,wstr,wrol,wbas,wlin,woff,wend,false,bc⟩:Aa) record=ca:=by unfold Hw;dsimp only;rw[←bn,cg,ck]<;>first|rfl|(congr 1;omega)|(congr 1;simp;omega)|(congr 1;simp)
 have hca:Ao (⟨bdnod,bdent,bdold,bdste,bdroo,bdnex⟩:Ac) (Af wbas) (Hw (⟨wver,wstr,wrol,wbas,wlin,woff,wend,false,bc⟩:Aa) record)=((⟨ag,ah,ai,aj,ap,aq⟩:Ac),ch):=by rw[hlf,bp];exact a4
 have bo:L6 (⟨bdnod,bdent,bdold,bdste,bdroo,bdnex⟩:Ac) (⟨wver,wstr,wrol,wbas,wlin,woff,wend,false,bc⟩:Aa) record=2:=by unfold L6;dsimp only;rw[hca];exact if_pos h14
 have hC:Im ((⟨bdnod,bdent,bdold,bdste,bdroo,bdnex⟩:Ac),(⟨wver,wstr,wrol,wbas,wlin,woff,wend,false,bc⟩:Aa)) record=((⟨ag,ah,ai,aj,ap,aq⟩:Ac),(⟨wver,wstr,wrol,wbas,wlin,woff,wend,false,2⟩:Aa)):=by unfold Im;rw[if_pos (by first|omega|(dsimp only;omega))];unfold Kz R9;rw[bo,if_neg (by decide)];dsimp only;rw[hca]
 have e:((⟨ag,ah,ai,aj,ap,aq⟩:Ac),(⟨wver,wstr,wrol,wbas,wlin,woff,wend,false,2⟩:Aa),2)=Ad (⟨Ah,Ak,Aj,Ai,An,Am⟩:Ac) (⟨wver,wstr,wrol,wbas,wlin,woff,wend,false,wcod⟩:Aa) record:=(by first|(exfalso;omega)|(unfold Ad;rw[if_pos (by omega)];done)|(unfold Ad;rw[if_neg (by omega),if_pos (by first|omega|(dsimp only;omega))];done)|(have hz:=Av (r:=record) (by omega) (by first|omega|(dsimp only;omega)) hA hB hC;exact hz)|(have hz:=Bc (r:=record) (by omega) (by first|omega|(dsimp only;omega)) hA hB (by first|omega|(dsimp only;omega));exact hz)|(have hz:=Bg (r:=record) (by omega) (by first|omega|(dsimp only;omega)) hA (by first|omega|(dsimp only;omega));exact hz)|(have hz:=Av (r:=record) (by omega) (by first|omega|(dsimp only;omega)) hA hB hC;obtain rfl:wcod=0:=(by omega);exact hz)|(have hz:=Av (r:=record) (by omega) (by first|omega|(dsimp only;omega)) hA hB hC;obtain rfl:lwcod=0:=(by omega);exact hz))
 rw[hr]at e
 simp only[Prod.mk.injEq,Ac.mk.injEq,Aa.mk.injEq]at e
 obtain⟨⟨rfl,rfl,rfl,rfl,rfl,rfl⟩,⟨rfl,rfl,rfl,rfl,rfl,rfl,rfl,rfl,rfl⟩,rfl⟩:=e
 refine hQ _ _ ?_
 exact .many (.inl rfl) rfl rfl (.agg (.d rfl (Ag a6 A0) (.d rfl (Ag a7 A3) (.d rfl (Ag a8 A1) (.d rfl (Ag a9 A2) (.d rfl rfl (.d rfl rfl (.nil))))))) (.agg (.d rfl rfl (.d rfl rfl (.d rfl rfl (.d rfl rfl (.d rfl rfl (.d rfl (Ag hwoff hoboff) (.d rfl rfl (.d rfl rfl (.d rfl rfl (.nil)))))))))) (.d rfl rfl (.nil))))
 conv=>cbv
 first|(exfalso;omega)|exact absurd (hopA (by omega)) (by decide)
 conv=>cbv
 refine .neq (fun h7=>?_) fun h7=>?_
 conv=>cbv
 have e:((⟨Ah,Ak,Aj,Ai,An,Am⟩:Ac),(⟨wver,wstr,wrol,wbas,wlin,woff,wend,false,wcod⟩:Aa),wcod)=Ad (⟨Ah,Ak,Aj,Ai,An,Am⟩:Ac) (⟨wver,wstr,wrol,wbas,wlin,woff,wend,false,wcod⟩:Aa) record:=(by first|(exfalso;omega)|(unfold Ad;rw[if_pos (by omega)];done)|(unfold Ad;rw[if_neg (by omega),if_pos (by first|omega|(dsimp only;omega))];done)|(have hz:=Av (r:=record) (by omega) (by first|omega|(dsimp only;omega)) hA hB hC;exact hz)|(have hz:=Bc (r:=record) (by omega) (by first|omega|(dsimp only;omega)) hA hB (by first|omega|(dsimp only;omega));exact hz)|(have hz:=Bg (r:=record) (by omega) (by first|omega|(dsimp only;omega)) hA (by first|omega|(dsimp only;omega));exact hz)|(have hz:=Av (r:=record) (by omega) (by first|omega|(dsimp only;omega)) hA hB hC;obtain rfl:wcod=0:=(by omega);exact hz)|(have hz:=Av (r:=record) (by omega) (by first|omega|(dsimp only;omega)) hA hB hC;obtain rfl:lwcod=0:=(by omega);exact hz))
 rw[hr]at e
 simp only[Prod.mk.injEq,Ac.mk.injEq,Aa.mk.injEq]at e
 obtain⟨⟨rfl,rfl,rfl,rfl,rfl,rfl⟩,⟨rfl,rfl,rfl,rfl,rfl,rfl,rfl,rfl,rfl⟩,rfl⟩:=e
 refine hQ _ _ ?_
 exact .many (.inl rfl) rfl rfl (.agg (.d rfl (Ag Ap A0) (.d rfl (Ag As A3) (.d rfl (Ag Au A1) (.d rfl (Ag At A2) (.d rfl rfl (.d rfl rfl (.nil))))))) (.agg (.d rfl rfl (.d rfl rfl (.d rfl rfl (.d rfl rfl (.d rfl rfl (.d rfl (Ag hwoff hoboff) (.d rfl rfl (.d rfl rfl (.d rfl rfl (.nil)))))))))) (.d rfl rfl (.nil))))
 conv=>cbv
 refine .go hwoff fun v8 dz=>?_
 conv=>cbv
 refine .add fun v9 ck=>?_
 conv=>cbv
 generalize c3:Aw wver v9 record=dr
 have zr10:=Cu c3
 refine .dd hP (Ef (by omega) c3) ?_
 conv=>cbv
 generalize bn:Af wbas=ca
 refine .dd hP (Cy bn) ?_
 conv=>cbv
 have hA:Pu (⟨Ah,Ak,Aj,Ai,An,Am⟩:Ac) (⟨wver,wstr,wrol,wbas,wlin,woff,wend,false,wcod⟩:Aa)=((⟨Ah,Ak,Aj,Ai,An,Am⟩:Ac),(⟨wver,wstr,wrol,wbas,wlin,woff,wend,false,wcod⟩:Aa)):=by unfold Pu;rw[if_neg (by first|(simp;done)|(exfalso;omega)|(simp;omega))]
 have hB:appB ((⟨Ah,Ak,Aj,Ai,An,Am⟩:Ac),(⟨wver,wstr,wrol,wbas,wlin,woff,wend,false,wcod⟩:Aa))=((⟨Ah,Ak,Aj,Ai,An,Am⟩:Ac),(⟨wver,wstr,wrol,wbas,wlin,woff,wend,false,wcod⟩:Aa)):=by unfold appB;rw[if_neg (by first|(simp;done)|(exfalso;omega)|(simp;omega))]
 rcases bp:Ao (⟨Ah,Ak,Aj,Ai,An,Am⟩:Ac) ca dr with⟨⟨bq,bt,bu,bv,b0,b2⟩,ds⟩
 generalize b4:bq.map A5=dj
 generalize b5:bt.map Ae=dk
 generalize b6:bu.map Ae=dl
 generalize b7:bv.map cS=dm
 refine .dd hP (Dn Ap As Au At a5.1.1 a5.1.2.2.1 a5.1.2.2.2.2.1 (by omega) a5.2.2 a5 (by omega) bp b4 b5 b6 b7) ?_
 conv=>cbv
 refine .neq (fun h13=>?_) fun h13=>?_
 conv=>cbv
 have hlf:Hw (⟨wver,wstr,wrol,wbas,wlin,woff,wend,false,wcod⟩:Aa) record=dr:=by unfold Hw;dsimp only;rw[←c3,ck,dz]<;>first|rfl|(congr 1;omega)|(congr 1;simp;omega)|(congr 1;simp)
 have hca:Ao (⟨Ah,Ak,Aj,Ai,An,Am⟩:Ac) (Af wbas) (Hw (⟨wver,wstr,wrol,wbas,wlin,woff,wend,false,wcod⟩:Aa) record)=((⟨bq,bt,bu,bv,b0,b2⟩:Ac),ds):=by rw[hlf,bn];exact bp
 have bo:L6 (⟨Ah,Ak,Aj,Ai,An,Am⟩:Ac) (⟨wver,wstr,wrol,wbas,wlin,woff,wend,false,wcod⟩:Aa) record=2:=by unfold L6;dsimp only;rw[hca];exact if_pos h13
 have hC:Im ((⟨Ah,Ak,Aj,Ai,An,Am⟩:Ac),(⟨wver,wstr,wrol,wbas,wlin,woff,wend,false,wcod⟩:Aa)) record=((⟨bq,bt,bu,bv,b0,b2⟩:Ac),(⟨wver,wstr,wrol,wbas,wlin,woff,wend,false,2⟩:Aa)):=by unfold Im;rw[if_pos (by first|omega|(dsimp only;omega))];unfold Kz R9;rw[bo,if_neg (by decide)];dsimp only;rw[hca]
 have e:((⟨bq,bt,bu,bv,b0,b2⟩:Ac),(⟨wver,wstr,wrol,wbas,wlin,woff,wend,false,2⟩:Aa),2)=Ad (⟨Ah,Ak,Aj,Ai,An,Am⟩:Ac) (⟨wver,wstr,wrol,wbas,wlin,woff,wend,false,wcod⟩:Aa) record:=(by first|(exfalso;omega)|(unfold Ad;rw[if_pos (by omega)];done)|(unfold Ad;rw[if_neg (by omega),if_pos (by first|omega|(dsimp only;omega))];done)|(have hz:=Av (r:=record) (by omega) (by first|omega|(dsimp only;omega)) hA hB hC;exact hz)|(have hz:=Bc (r:=record) (by omega) (by first|omega|(dsimp only;omega)) hA hB (by first|omega|(dsimp only;omega));exact hz)|(have hz:=Bg (r:=record) (by omega) (by first|omega|(dsimp only;omega)) hA (by first|omega|(dsimp only;omega));exact hz)|(have hz:=Av (r:=record) (by omega) (by first|omega|(dsimp only;omega)) hA hB hC;obtain rfl:wcod=0:=(by omega);exact hz)|(have hz:=Av (r:=record) (by omega) (by first|omega|(dsimp only;omega)) hA hB hC;obtain rfl:lwcod=0:=(by omega);exact hz))
 rw[hr]at e
 simp only[Prod.mk.injEq,Ac.mk.injEq,Aa.mk.injEq]at e
 obtain⟨⟨rfl,rfl,rfl,rfl,rfl,rfl⟩,⟨rfl,rfl,rfl,rfl,rfl,rfl,rfl,rfl,rfl⟩,rfl⟩:=e
 refine hQ _ _ ?_
 exact .many (.inl rfl) rfl rfl (.agg (.d rfl (Ag b4 A0) (.d rfl (Ag b5 A3) (.d rfl (Ag b6 A1) (.d rfl (Ag b7 A2) (.d rfl rfl (.d rfl rfl (.nil))))))) (.agg (.d rfl rfl (.d rfl rfl (.d rfl rfl (.d rfl rfl (.d rfl rfl (.d rfl (Ag hwoff hoboff) (.d rfl rfl (.d rfl rfl (.d rfl rfl (.nil)))))))))) (.d rfl rfl (.nil))))
 conv=>cbv
 first|(exfalso;omega)|exact absurd (hopA (by omega)) (by decide)
 obtain⟨n3,d0⟩:∃m,m=woff.length:=⟨_,rfl⟩
 refine .ddN hP (Xfv hwoff (by omega) d0) rfl ?_
 conv=>cbv
 refine .go fun v4 ed=>?_
 conv=>cbv
 refine .gtr (fun h5=>?_) fun h5=>?_
 conv=>cbv
 have e:((⟨Ah,Ak,Aj,Ai,An,Am⟩:Ac),(⟨wver,wstr,wrol,wbas,wlin,woff,wend,true,wcod⟩:Aa),1)=Ad (⟨Ah,Ak,Aj,Ai,An,Am⟩:Ac) (⟨wver,wstr,wrol,wbas,wlin,woff,wend,true,wcod⟩:Aa) record:=(by first|(exfalso;omega)|(unfold Ad;rw[if_pos (by omega)];done)|(unfold Ad;rw[if_neg (by omega),if_pos (by first|omega|(dsimp only;omega))];done)|(have hz:=Av (r:=record) (by omega) (by first|omega|(dsimp only;omega)) hA hB hC;exact hz)|(have hz:=Bc (r:=record) (by omega) (by first|omega|(dsimp only;omega)) hA hB (by first|omega|(dsimp only;omega));exact hz)|(have hz:=Bg (r:=record) (by omega) (by first|omega|(dsimp only;omega)) hA (by first|omega|(dsimp only;omega));exact hz)|(have hz:=Av (r:=record) (by omega) (by first|omega|(dsimp only;omega)) hA hB hC;obtain rfl:wcod=0:=(by omega);exact hz)|(have hz:=Av (r:=record) (by omega) (by first|omega|(dsimp only;omega)) hA hB hC;obtain rfl:lwcod=0:=(by omega);exact hz))
 rw[hr]at e
 simp only[Prod.mk.injEq,Ac.mk.injEq,Aa.mk.injEq]at e
 obtain⟨⟨rfl,rfl,rfl,rfl,rfl,rfl⟩,⟨rfl,rfl,rfl,rfl,rfl,rfl,rfl,rfl,rfl⟩,rfl⟩:=e
 refine hQ _ _ ?_
 exact .many (.inl rfl) rfl rfl (.agg (.d rfl (Ag Ap A0) (.d rfl (Ag As A3) (.d rfl (Ag Au A1) (.d rfl (Ag At A2) (.d rfl rfl (.d rfl rfl (.nil))))))) (.agg (.d rfl rfl (.d rfl rfl (.d rfl rfl (.d rfl rfl (.d rfl rfl (.ref rfl (Aq hwoff) (Br hwoff hoboff) (.d rfl rfl (.d rfl rfl (.d rfl rfl (.nil)))))))))) (.d rfl rfl (.nil))))
 conv=>cbv
 refine .neq (fun h6=>?_) fun h6=>?_
 conv=>cbv
 have e:((⟨Ah,Ak,Aj,Ai,An,Am⟩:Ac),(⟨wver,wstr,wrol,wbas,wlin,woff,wend,true,wcod⟩:Aa),wcod)=Ad (⟨Ah,Ak,Aj,Ai,An,Am⟩:Ac) (⟨wver,wstr,wrol,wbas,wlin,woff,wend,true,wcod⟩:Aa) record:=(by first|(exfalso;omega)|(unfold Ad;rw[if_pos (by omega)];done)|(unfold Ad;rw[if_neg (by omega),if_pos (by first|omega|(dsimp only;omega))];done)|(have hz:=Av (r:=record) (by omega) (by first|omega|(dsimp only;omega)) hA hB hC;exact hz)|(have hz:=Bc (r:=record) (by omega) (by first|omega|(dsimp only;omega)) hA hB (by first|omega|(dsimp only;omega));exact hz)|(have hz:=Bg (r:=record) (by omega) (by first|omega|(dsimp only;omega)) hA (by first|omega|(dsimp only;omega));exact hz)|(have hz:=Av (r:=record) (by omega) (by first|omega|(dsimp only;omega)) hA hB hC;obtain rfl:wcod=0:=(by omega);exact hz)|(have hz:=Av (r:=record) (by omega) (by first|omega|(dsimp only;omega)) hA hB hC;obtain rfl:lwcod=0:=(by omega);exact hz))
 rw[hr]at e
 simp only[Prod.mk.injEq,Ac.mk.injEq,Aa.mk.injEq]at e
 obtain⟨⟨rfl,rfl,rfl,rfl,rfl,rfl⟩,⟨rfl,rfl,rfl,rfl,rfl,rfl,rfl,rfl,rfl⟩,rfl⟩:=e
 refine hQ _ _ ?_
 exact .many (.inl rfl) rfl rfl (.agg (.d rfl (Ag Ap A0) (.d rfl (Ag As A3) (.d rfl (Ag Au A1) (.d rfl (Ag At A2) (.d rfl rfl (.d rfl rfl (.nil))))))) (.agg (.d rfl rfl (.d rfl rfl (.d rfl rfl (.d rfl rfl (.d rfl rfl (.ref rfl (Aq hwoff) (Br hwoff hoboff) (.d rfl rfl (.d rfl rfl (.d rfl rfl (.nil)))))))))) (.d rfl rfl (.nil))))
 conv=>cbv
 refine .go fun v7 ee=>?_
 conv=>cbv
 refine .geq (fun h8=>?_) fun h8=>?_
 conv=>cbv
 rcases hrl:Bx (⟨Ah,Ak,Aj,Ai,An,Am⟩:Ac) (⟨wver,wstr,wrol,wbas,wlin,woff,wend,true,wcod⟩:Aa)with⟨⟨rlnod,rlent,rlold,rlste,rlroo,rlnex⟩,⟨lwver,lwstr,lwrol,lwbas,lwlin,lwoff,lwend,lwope,lwcod⟩,rlc⟩
 obtain⟨hrA,hrB⟩:=V5 (d:=(⟨Ah,Ak,Aj,Ai,An,Am⟩:Ac)) (w:=(⟨wver,wstr,wrol,wbas,wlin,woff,wend,true,wcod⟩:Aa)) rfl (by first|omega|(dsimp only;omega)) hrl
 have hA:Pu (⟨Ah,Ak,Aj,Ai,An,Am⟩:Ac) (⟨wver,wstr,wrol,wbas,wlin,woff,wend,true,wcod⟩:Aa)=((⟨rlnod,rlent,rlold,rlste,rlroo,rlnex⟩:Ac),(⟨lwver,lwstr,lwrol,lwbas,lwlin,lwoff,lwend,lwope,lwcod⟩:Aa)):=by unfold Pu;rw[if_pos ⟨rfl,by dsimp only;omega⟩,hrA,hrB]
 have hgA:=Sf (d:=(⟨Ah,Ak,Aj,Ai,An,Am⟩:Ac)) (w:=(⟨wver,wstr,wrol,wbas,wlin,woff,wend,true,wcod⟩:Aa)) a5
 have hwA:=W8 (d:=(⟨Ah,Ak,Aj,Ai,An,Am⟩:Ac)) (w:=(⟨wver,wstr,wrol,wbas,wlin,woff,wend,true,wcod⟩:Aa)) hw
 have hopA:lwcod=0→lwope=false:=fun h=>by have:=Vh (d:=(⟨Ah,Ak,Aj,Ai,An,Am⟩:Ac)) (w:=(⟨wver,wstr,wrol,wbas,wlin,woff,wend,true,wcod⟩:Aa)) (by first|omega|(dsimp only;omega)) (by rw[hrB];exact h);rw[hrB]at this;exact this
 rw[hrA]at hgA
 rw[hrB]at hwA
 have hsA:=hgA.2
 simp only[]at hsA
 obtain⟨ha_1,ha_2,ha_3,ha_4,-⟩:=id hwA
 try (simp only[]at ha_1 ha_2 ha_3 ha_4)
 generalize hrlnod:rlnod.map A5=xrlnod
 generalize hrlent:rlent.map Ae=xrlent
 generalize hrlold:rlold.map Ae=xrlold
 generalize hrlste:rlste.map cS=xrlste
 generalize hlwoff:lwoff.map cI=xlwoff
 refine .lntD hP (Yz Ap As Au At hwoff a5 (by omega) hw hk hrl hrlnod hrlent hrlold hrlste hlwoff) (.agg (.d rfl (.d rfl (.d rfl (.d rfl (.d rfl (.d rfl .nil)))))) (.agg (.d rfl (.d rfl (.d rfl (.d rfl (.d rfl (.ref rfl (Aq hwoff) (.d rfl (.d rfl (.d rfl .nil))))))))) .nil)) ?_
 conv=>cbv
 refine .eql (fun h10=>?_) fun h10=>?_
 conv=>cbv
 cases lwope
 conv=>cbv
 by_cases hbc:Nd (⟨rlnod,rlent,rlold,rlste,rlroo,rlnex⟩:Ac) (⟨lwver,lwstr,lwrol,lwbas,lwlin,lwoff,lwend,false,lwcod⟩:Aa)=0
 have hgB:=Oa (d:=(⟨rlnod,rlent,rlold,rlste,rlroo,rlnex⟩:Ac)) (w:=(⟨lwver,lwstr,lwrol,lwbas,lwlin,lwoff,lwend,false,lwcod⟩:Aa)) hgA.1 (by first|omega|(dsimp only;omega))
 have hwB:=Og (d:=(⟨rlnod,rlent,rlold,rlste,rlroo,rlnex⟩:Ac)) (w:=(⟨lwver,lwstr,lwrol,lwbas,lwlin,lwoff,lwend,false,lwcod⟩:Aa)) hwA
 unfold Xan at hwB
 rw[if_pos hbc]at hwB
 have hB:appB ((⟨rlnod,rlent,rlold,rlste,rlroo,rlnex⟩:Ac),(⟨lwver,lwstr,lwrol,lwbas,lwlin,lwoff,lwend,false,lwcod⟩:Aa))=(K4 (⟨rlnod,rlent,rlold,rlste,rlroo,rlnex⟩:Ac) (⟨lwver,lwstr,lwrol,lwbas,lwlin,lwoff,lwend,false,lwcod⟩:Aa),(⟨lwver,lwstr,lwrol,lwbas,lwlin,[],24,true,lwcod⟩:Aa)):=by unfold appB;rw[if_pos ⟨by dsimp only;omega,rfl⟩];unfold Xan;rw[if_pos hbc]
 rcases hbd:K4 (⟨rlnod,rlent,rlold,rlste,rlroo,rlnex⟩:Ac) (⟨lwver,lwstr,lwrol,lwbas,lwlin,lwoff,lwend,false,lwcod⟩:Aa)with⟨bdnod,bdent,bdold,bdste,bdroo,bdnex⟩
 generalize hbdnod:bdnod.map A5=xbdnod
 generalize hbdent:bdent.map Ae=xbdent
 generalize hbdold:bdold.map Ae=xbdold
 generalize hbdste:bdste.map cS=xbdste
 rw[hbd]at hgB hB
 have hsB:=hgB.2
 simp only[]at hsB hwB
 obtain⟨hc_1,hc_2,hc_3,hc_4,-⟩:=id hwB
 try (simp only[]at hc_1 hc_2 hc_3 hc_4)
 refine .ddN hP (V8 hrlnod hrlent hrlold hrlste hlwoff hgA.1 (by first|omega|(dsimp only;omega)) hwA hk hbc hbd hbdnod hbdent hbdold hbdste) rfl ?_
 conv=>cbv
 refine .neq (fun h12=>?_) fun h12=>?_
 conv=>cbv
 have e:((⟨bdnod,bdent,bdold,bdste,bdroo,bdnex⟩:Ac),(⟨lwver,lwstr,lwrol,lwbas,lwlin,([]:List Int),24,true,lwcod⟩:Aa),lwcod)=Ad (⟨Ah,Ak,Aj,Ai,An,Am⟩:Ac) (⟨wver,wstr,wrol,wbas,wlin,woff,wend,true,wcod⟩:Aa) record:=(by first|(exfalso;omega)|(unfold Ad;rw[if_pos (by omega)];done)|(unfold Ad;rw[if_neg (by omega),if_pos (by first|omega|(dsimp only;omega))];done)|(have hz:=Av (r:=record) (by omega) (by first|omega|(dsimp only;omega)) hA hB hC;exact hz)|(have hz:=Bc (r:=record) (by omega) (by first|omega|(dsimp only;omega)) hA hB (by first|omega|(dsimp only;omega));exact hz)|(have hz:=Bg (r:=record) (by omega) (by first|omega|(dsimp only;omega)) hA (by first|omega|(dsimp only;omega));exact hz)|(have hz:=Av (r:=record) (by omega) (by first|omega|(dsimp only;omega)) hA hB hC;obtain rfl:wcod=0:=(by omega);exact hz)|(have hz:=Av (r:=record) (by omega) (by first|omega|(dsimp only;omega)) hA hB hC;obtain rfl:lwcod=0:=(by omega);exact hz))
 rw[hr]at e
 simp only[Prod.mk.injEq,Ac.mk.injEq,Aa.mk.injEq]at e
 obtain⟨⟨rfl,rfl,rfl,rfl,rfl,rfl⟩,⟨rfl,rfl,rfl,rfl,rfl,rfl,rfl,rfl,rfl⟩,rfl⟩:=e
 refine hQ _ _ ?_
 exact .many (.inl rfl) rfl rfl (.agg (.d rfl (Ag hbdnod A0) (.d rfl (Ag hbdent A3) (.d rfl (Ag hbdold A1) (.d rfl (Ag hbdste A2) (.d rfl rfl (.d rfl rfl (.nil))))))) (.agg (.d rfl rfl (.d rfl rfl (.d rfl rfl (.d rfl rfl (.d rfl rfl (.ref rfl rfl (by rw[←hoboff];rfl) (.d rfl rfl (.d rfl rfl (.d rfl rfl (.nil)))))))))) (.d rfl rfl (.nil))))
 conv=>cbv
 refine .go fun c4 bz=>?_
 conv=>cbv
 refine .add fun dg ci=>?_
 conv=>cbv
 generalize ao:Aw lwver dg record=b3
 have zr15:=Cu ao
 refine .dd hP (Ef (by omega) ao) ?_
 conv=>cbv
 generalize bm:Af lwbas=dh
 refine .dd hP (Cy bm) ?_
 conv=>cbv
 rcases b8:Ao (⟨bdnod,bdent,bdold,bdste,bdroo,bdnex⟩:Ac) dh b3 with⟨⟨ak,al,am,an,ar,au⟩,cj⟩
 generalize ba:ak.map A5=cq
 generalize bb:al.map Ae=cr
 generalize bd:am.map Ae=ct
 generalize be:an.map cS=cu
 refine .dd hP (Dn hbdnod hbdent hbdold hbdste hgB.1.1.1 hgB.1.1.2.2.1 hgB.1.1.2.2.2.2.1 (by omega) hgB.1.2.2 hgB.1 (by omega) b8 ba bb bd be) ?_
 conv=>cbv
 refine .neq (fun h18=>?_) fun h18=>?_
 conv=>cbv
 have hlf:Hw (⟨lwver,lwstr,lwrol,lwbas,lwlin,([]:List Int),24,true,lwcod⟩:Aa) record=b3:=by unfold Hw;dsimp only;rw[←ao,ci,bz]<;>first|rfl|(congr 1;omega)|(congr 1;simp;omega)|(congr 1;simp)
 have hca:Ao (⟨bdnod,bdent,bdold,bdste,bdroo,bdnex⟩:Ac) (Af lwbas) (Hw (⟨lwver,lwstr,lwrol,lwbas,lwlin,([]:List Int),24,true,lwcod⟩:Aa) record)=((⟨ak,al,am,an,ar,au⟩:Ac),cj):=by rw[hlf,bm];exact b8
 have bo:L6 (⟨bdnod,bdent,bdold,bdste,bdroo,bdnex⟩:Ac) (⟨lwver,lwstr,lwrol,lwbas,lwlin,([]:List Int),24,true,lwcod⟩:Aa) record=2:=by unfold L6;dsimp only;rw[hca];exact if_pos h18
 have hC:Im ((⟨bdnod,bdent,bdold,bdste,bdroo,bdnex⟩:Ac),(⟨lwver,lwstr,lwrol,lwbas,lwlin,([]:List Int),24,true,lwcod⟩:Aa)) record=((⟨ak,al,am,an,ar,au⟩:Ac),(⟨lwver,lwstr,lwrol,lwbas,lwlin,([]:List Int),24,true,2⟩:Aa)):=by unfold Im;rw[if_pos (by first|omega|(dsimp only;omega))];unfold Kz R9;rw[bo,if_neg (by decide)];dsimp only;rw[hca]
 have e:((⟨ak,al,am,an,ar,au⟩:Ac),(⟨lwver,lwstr,lwrol,lwbas,lwlin,([]:List Int),24,true,2⟩:Aa),2)=Ad (⟨Ah,Ak,Aj,Ai,An,Am⟩:Ac) (⟨wver,wstr,wrol,wbas,wlin,woff,wend,true,wcod⟩:Aa) record:=(by first|(exfalso;omega)|(unfold Ad;rw[if_pos (by omega)];done)|(unfold Ad;rw[if_neg (by omega),if_pos (by first|omega|(dsimp only;omega))];done)|(have hz:=Av (r:=record) (by omega) (by first|omega|(dsimp only;omega)) hA hB hC;exact hz)|(have hz:=Bc (r:=record) (by omega) (by first|omega|(dsimp only;omega)) hA hB (by first|omega|(dsimp only;omega));exact hz)|(have hz:=Bg (r:=record) (by omega) (by first|omega|(dsimp only;omega)) hA (by first|omega|(dsimp only;omega));exact hz)|(have hz:=Av (r:=record) (by omega) (by first|omega|(dsimp only;omega)) hA hB hC;obtain rfl:wcod=0:=(by omega);exact hz)|(have hz:=Av (r:=record) (by omega) (by first|omega|(dsimp only;omega)) hA hB hC;obtain rfl:lwcod=0:=(by omega);exact hz))
 rw[hr]at e
 simp only[Prod.mk.injEq,Ac.mk.injEq,Aa.mk.injEq]at e
 obtain⟨⟨rfl,rfl,rfl,rfl,rfl,rfl⟩,⟨rfl,rfl,rfl,rfl,rfl,rfl,rfl,rfl,rfl⟩,rfl⟩:=e
 refine hQ _ _ ?_
 exact .many (.inl rfl) rfl rfl (.agg (.d rfl (Ag ba A0) (.d rfl (Ag bb A3) (.d rfl (Ag bd A1) (.d rfl (Ag be A2) (.d rfl rfl (.d rfl rfl (.nil))))))) (.agg (.d rfl rfl (.d rfl rfl (.d rfl rfl (.d rfl rfl (.d rfl rfl (.ref rfl rfl (by rw[←hoboff];rfl) (.d rfl rfl (.d rfl rfl (.d rfl rfl (.nil)))))))))) (.d rfl rfl (.nil))))
 conv=>cbv
 refine .one (24:Int) (show([]:List Int).map cI=[]from rfl) rfl (hl:=rfl) fun d6 ef d1 dc=>?_
 conv=>cbv
 refine .go fun eg dt=>?_
 conv=>cbv
 refine .add fun du dv=>?_
 conv=>cbv
 have hlf:Hw (⟨lwver,lwstr,lwrol,lwbas,lwlin,([]:List Int),24,true,lwcod⟩:Aa) record=b3:=by unfold Hw;dsimp only;rw[←ao,ci,bz]<;>first|rfl|(congr 1;omega)|(congr 1;simp;omega)|(congr 1;simp)
 have hca:Ao (⟨bdnod,bdent,bdold,bdste,bdroo,bdnex⟩:Ac) (Af lwbas) (Hw (⟨lwver,lwstr,lwrol,lwbas,lwlin,([]:List Int),24,true,lwcod⟩:Aa) record)=((⟨ak,al,am,an,ar,au⟩:Ac),cj):=by rw[hlf,bm];exact b8
 have ce:L6 (⟨bdnod,bdent,bdold,bdste,bdroo,bdnex⟩:Ac) (⟨lwver,lwstr,lwrol,lwbas,lwlin,([]:List Int),24,true,lwcod⟩:Aa) record=0:=by unfold L6;dsimp only;rw[hca];exact if_neg (by first|omega|(dsimp only;omega))
 have hC:Im ((⟨bdnod,bdent,bdold,bdste,bdroo,bdnex⟩:Ac),(⟨lwver,lwstr,lwrol,lwbas,lwlin,([]:List Int),24,true,lwcod⟩:Aa)) record=((⟨ak,al,am,an,ar,au⟩:Ac),(⟨lwver,lwstr,lwrol,lwbas,lwlin,([]:List Int)++[24],du,true,lwcod⟩:Aa)):=by unfold Im;rw[if_pos (by first|omega|(dsimp only;omega))];unfold Kz R9;rw[ce,if_pos rfl];dsimp only;rw[hca,hlf,dv,dt]
 have e:((⟨ak,al,am,an,ar,au⟩:Ac),(⟨lwver,lwstr,lwrol,lwbas,lwlin,(([]:List Int)++[24]),du,true,lwcod⟩:Aa),0)=Ad (⟨Ah,Ak,Aj,Ai,An,Am⟩:Ac) (⟨wver,wstr,wrol,wbas,wlin,woff,wend,true,wcod⟩:Aa) record:=(by first|(exfalso;omega)|(unfold Ad;rw[if_pos (by omega)];done)|(unfold Ad;rw[if_neg (by omega),if_pos (by first|omega|(dsimp only;omega))];done)|(have hz:=Av (r:=record) (by omega) (by first|omega|(dsimp only;omega)) hA hB hC;exact hz)|(have hz:=Bc (r:=record) (by omega) (by first|omega|(dsimp only;omega)) hA hB (by first|omega|(dsimp only;omega));exact hz)|(have hz:=Bg (r:=record) (by omega) (by first|omega|(dsimp only;omega)) hA (by first|omega|(dsimp only;omega));exact hz)|(have hz:=Av (r:=record) (by omega) (by first|omega|(dsimp only;omega)) hA hB hC;obtain rfl:wcod=0:=(by omega);exact hz)|(have hz:=Av (r:=record) (by omega) (by first|omega|(dsimp only;omega)) hA hB hC;obtain rfl:lwcod=0:=(by omega);exact hz))
 rw[hr]at e
 simp only[Prod.mk.injEq,Ac.mk.injEq,Aa.mk.injEq]at e
 obtain⟨⟨rfl,rfl,rfl,rfl,rfl,rfl⟩,⟨rfl,rfl,rfl,rfl,rfl,rfl,rfl,rfl,rfl⟩,rfl⟩:=e
 refine hQ _ _ ?_
 exact .many (.inl rfl) rfl rfl (.agg (.d rfl (Ag ba A0) (.d rfl (Ag bb A3) (.d rfl (Ag bd A1) (.d rfl (Ag be A2) (.d rfl rfl (.d rfl rfl (.nil))))))) (.agg (.d rfl rfl (.d rfl rfl (.d rfl rfl (.d rfl rfl (.d rfl rfl (.ref rfl (Aq dc) (Br dc hoboff) (.d rfl rfl (.d rfl rfl (.d rfl rfl (.nil)))))))))) (.d rfl rfl (.nil))))
 obtain⟨bc,hbe⟩:∃c,Nd (⟨rlnod,rlent,rlold,rlste,rlroo,rlnex⟩:Ac) (⟨lwver,lwstr,lwrol,lwbas,lwlin,lwoff,lwend,false,lwcod⟩:Aa)=c:=⟨_,rfl⟩
 rw[hbe]at hbc
 have hB:appB ((⟨rlnod,rlent,rlold,rlste,rlroo,rlnex⟩:Ac),(⟨lwver,lwstr,lwrol,lwbas,lwlin,lwoff,lwend,false,lwcod⟩:Aa))=(K4 (⟨rlnod,rlent,rlold,rlste,rlroo,rlnex⟩:Ac) (⟨lwver,lwstr,lwrol,lwbas,lwlin,lwoff,lwend,false,lwcod⟩:Aa),(⟨lwver,lwstr,lwrol,lwbas,lwlin,lwoff,lwend,false,bc⟩:Aa)):=by unfold appB;rw[if_pos ⟨by dsimp only;omega,rfl⟩];unfold Xan;rw[hbe,if_neg hbc]
 have hgB:=Oa (d:=(⟨rlnod,rlent,rlold,rlste,rlroo,rlnex⟩:Ac)) (w:=(⟨lwver,lwstr,lwrol,lwbas,lwlin,lwoff,lwend,false,lwcod⟩:Aa)) hgA.1 (by first|omega|(dsimp only;omega))
 have hwB:=Og (d:=(⟨rlnod,rlent,rlold,rlste,rlroo,rlnex⟩:Ac)) (w:=(⟨lwver,lwstr,lwrol,lwbas,lwlin,lwoff,lwend,false,lwcod⟩:Aa)) hwA
 unfold Xan at hwB
 rw[hbe,if_neg hbc]at hwB
 rcases hbd:K4 (⟨rlnod,rlent,rlold,rlste,rlroo,rlnex⟩:Ac) (⟨lwver,lwstr,lwrol,lwbas,lwlin,lwoff,lwend,false,lwcod⟩:Aa)with⟨bdnod,bdent,bdold,bdste,bdroo,bdnex⟩
 generalize hbdnod:bdnod.map A5=xbdnod
 generalize hbdent:bdent.map Ae=xbdent
 generalize hbdold:bdold.map Ae=xbdold
 generalize hbdste:bdste.map cS=xbdste
 rw[hbd]at hgB hB
 have hsB:=hgB.2
 simp only[]at hsB hwB
 refine .dd hP (Vx hrlnod hrlent hrlold hrlste hlwoff hgA.1 (by first|omega|(dsimp only;omega)) hwA hk hbe hbc hbd hbdnod hbdent hbdold hbdste) ?_
 conv=>cbv
 refine .neq (fun h12=>?_) fun h12=>?_
 conv=>cbv
 have e:((⟨bdnod,bdent,bdold,bdste,bdroo,bdnex⟩:Ac),(⟨lwver,lwstr,lwrol,lwbas,lwlin,lwoff,lwend,false,bc⟩:Aa),bc)=Ad (⟨Ah,Ak,Aj,Ai,An,Am⟩:Ac) (⟨wver,wstr,wrol,wbas,wlin,woff,wend,true,wcod⟩:Aa) record:=(by first|(exfalso;omega)|(unfold Ad;rw[if_pos (by omega)];done)|(unfold Ad;rw[if_neg (by omega),if_pos (by first|omega|(dsimp only;omega))];done)|(have hz:=Av (r:=record) (by omega) (by first|omega|(dsimp only;omega)) hA hB hC;exact hz)|(have hz:=Bc (r:=record) (by omega) (by first|omega|(dsimp only;omega)) hA hB (by first|omega|(dsimp only;omega));exact hz)|(have hz:=Bg (r:=record) (by omega) (by first|omega|(dsimp only;omega)) hA (by first|omega|(dsimp only;omega));exact hz)|(have hz:=Av (r:=record) (by omega) (by first|omega|(dsimp only;omega)) hA hB hC;obtain rfl:wcod=0:=(by omega);exact hz)|(have hz:=Av (r:=record) (by omega) (by first|omega|(dsimp only;omega)) hA hB hC;obtain rfl:lwcod=0:=(by omega);exact hz))
 rw[hr]at e
 simp only[Prod.mk.injEq,Ac.mk.injEq,Aa.mk.injEq]at e
 obtain⟨⟨rfl,rfl,rfl,rfl,rfl,rfl⟩,⟨rfl,rfl,rfl,rfl,rfl,rfl,rfl,rfl,rfl⟩,rfl⟩:=e
 refine hQ _ _ ?_
 exact .many (.inl rfl) rfl rfl (.agg (.d rfl (Ag hbdnod A0) (.d rfl (Ag hbdent A3) (.d rfl (Ag hbdold A1) (.d rfl (Ag hbdste A2) (.d rfl rfl (.d rfl rfl (.nil))))))) (.agg (.d rfl rfl (.d rfl rfl (.d rfl rfl (.d rfl rfl (.d rfl rfl (.d rfl (Ag hlwoff hoboff) (.d rfl rfl (.d rfl rfl (.d rfl rfl (.nil)))))))))) (.d rfl rfl (.nil))))
 conv=>cbv
 refine .go hlwoff fun c4 bz=>?_
 conv=>cbv
 refine .add fun dg ci=>?_
 conv=>cbv
 generalize ao:Aw lwver dg record=b3
 have zr15:=Cu ao
 refine .dd hP (Ef (by omega) ao) ?_
 conv=>cbv
 generalize bm:Af lwbas=dh
 refine .dd hP (Cy bm) ?_
 conv=>cbv
 rcases b8:Ao (⟨bdnod,bdent,bdold,bdste,bdroo,bdnex⟩:Ac) dh b3 with⟨⟨ak,al,am,an,ar,au⟩,cj⟩
 generalize ba:ak.map A5=cq
 generalize bb:al.map Ae=cr
 generalize bd:am.map Ae=ct
 generalize be:an.map cS=cu
 refine .dd hP (Dn hbdnod hbdent hbdold hbdste hgB.1.1.1 hgB.1.1.2.2.1 hgB.1.1.2.2.2.2.1 (by omega) hgB.1.2.2 hgB.1 (by omega) b8 ba bb bd be) ?_
 conv=>cbv
 refine .neq (fun h18=>?_) fun h18=>?_
 conv=>cbv
 have hlf:Hw (⟨lwver,lwstr,lwrol,lwbas,lwlin,lwoff,lwend,false,bc⟩:Aa) record=b3:=by unfold Hw;dsimp only;rw[←ao,ci,bz]<;>first|rfl|(congr 1;omega)|(congr 1;simp;omega)|(congr 1;simp)
 have hca:Ao (⟨bdnod,bdent,bdold,bdste,bdroo,bdnex⟩:Ac) (Af lwbas) (Hw (⟨lwver,lwstr,lwrol,lwbas,lwlin,lwoff,lwend,false,bc⟩:Aa) record)=((⟨ak,al,am,an,ar,au⟩:Ac),cj):=by rw[hlf,bm];exact b8
 have bo:L6 (⟨bdnod,bdent,bdold,bdste,bdroo,bdnex⟩:Ac) (⟨lwver,lwstr,lwrol,lwbas,lwlin,lwoff,lwend,false,bc⟩:Aa) record=2:=by unfold L6;dsimp only;rw[hca];exact if_pos h18
 have hC:Im ((⟨bdnod,bdent,bdold,bdste,bdroo,bdnex⟩:Ac),(⟨lwver,lwstr,lwrol,lwbas,lwlin,lwoff,lwend,false,bc⟩:Aa)) record=((⟨ak,al,am,an,ar,au⟩:Ac),(⟨lwver,lwstr,lwrol,lwbas,lwlin,lwoff,lwend,false,2⟩:Aa)):=by unfold Im;rw[if_pos (by first|omega|(dsimp only;omega))];unfold Kz R9;rw[bo,if_neg (by decide)];dsimp only;rw[hca]
 have e:((⟨ak,al,am,an,ar,au⟩:Ac),(⟨lwver,lwstr,lwrol,lwbas,lwlin,lwoff,lwend,false,2⟩:Aa),2)=Ad (⟨Ah,Ak,Aj,Ai,An,Am⟩:Ac) (⟨wver,wstr,wrol,wbas,wlin,woff,wend,true,wcod⟩:Aa) record:=(by first|(exfalso;omega)|(unfold Ad;rw[if_pos (by omega)];done)|(unfold Ad;rw[if_neg (by omega),if_pos (by first|omega|(dsimp only;omega))];done)|(have hz:=Av (r:=record) (by omega) (by first|omega|(dsimp only;omega)) hA hB hC;exact hz)|(have hz:=Bc (r:=record) (by omega) (by first|omega|(dsimp only;omega)) hA hB (by first|omega|(dsimp only;omega));exact hz)|(have hz:=Bg (r:=record) (by omega) (by first|omega|(dsimp only;omega)) hA (by first|omega|(dsimp only;omega));exact hz)|(have hz:=Av (r:=record) (by omega) (by first|omega|(dsimp only;omega)) hA hB hC;obtain rfl:wcod=0:=(by omega);exact hz)|(have hz:=Av (r:=record) (by omega) (by first|omega|(dsimp only;omega)) hA hB hC;obtain rfl:lwcod=0:=(by omega);exact hz))
 rw[hr]at e
 simp only[Prod.mk.injEq,Ac.mk.injEq,Aa.mk.injEq]at e
 obtain⟨⟨rfl,rfl,rfl,rfl,rfl,rfl⟩,⟨rfl,rfl,rfl,rfl,rfl,rfl,rfl,rfl,rfl⟩,rfl⟩:=e
 refine hQ _ _ ?_
 exact .many (.inl rfl) rfl rfl (.agg (.d rfl (Ag ba A0) (.d rfl (Ag bb A3) (.d rfl (Ag bd A1) (.d rfl (Ag be A2) (.d rfl rfl (.d rfl rfl (.nil))))))) (.agg (.d rfl rfl (.d rfl rfl (.d rfl rfl (.d rfl rfl (.d rfl rfl (.d rfl (Ag hlwoff hoboff) (.d rfl rfl (.d rfl rfl (.d rfl rfl (.nil)))))))))) (.d rfl rfl (.nil))))
 conv=>cbv
 first|(exfalso;omega)|exact absurd (hopA (by omega)) (by decide)
 conv=>cbv
 refine .neq (fun h11=>?_) fun h11=>?_
 conv=>cbv
 have e:((⟨rlnod,rlent,rlold,rlste,rlroo,rlnex⟩:Ac),(⟨lwver,lwstr,lwrol,lwbas,lwlin,lwoff,lwend,true,lwcod⟩:Aa),lwcod)=Ad (⟨Ah,Ak,Aj,Ai,An,Am⟩:Ac) (⟨wver,wstr,wrol,wbas,wlin,woff,wend,true,wcod⟩:Aa) record:=(by first|(exfalso;omega)|(unfold Ad;rw[if_pos (by omega)];done)|(unfold Ad;rw[if_neg (by omega),if_pos (by first|omega|(dsimp only;omega))];done)|(have hz:=Av (r:=record) (by omega) (by first|omega|(dsimp only;omega)) hA hB hC;exact hz)|(have hz:=Bc (r:=record) (by omega) (by first|omega|(dsimp only;omega)) hA hB (by first|omega|(dsimp only;omega));exact hz)|(have hz:=Bg (r:=record) (by omega) (by first|omega|(dsimp only;omega)) hA (by first|omega|(dsimp only;omega));exact hz)|(have hz:=Av (r:=record) (by omega) (by first|omega|(dsimp only;omega)) hA hB hC;obtain rfl:wcod=0:=(by omega);exact hz)|(have hz:=Av (r:=record) (by omega) (by first|omega|(dsimp only;omega)) hA hB hC;obtain rfl:lwcod=0:=(by omega);exact hz))
 rw[hr]at e
 simp only[Prod.mk.injEq,Ac.mk.injEq,Aa.mk.injEq]at e
 obtain⟨⟨rfl,rfl,rfl,rfl,rfl,rfl⟩,⟨rfl,rfl,rfl,rfl,rfl,rfl,rfl,rfl,rfl⟩,rfl⟩:=e
 refine hQ _ _ ?_
 exact .many (.inl rfl) rfl rfl (.agg (.d rfl (Ag hrlnod A0) (.d rfl (Ag hrlent A3) (.d rfl (Ag hrlold A1) (.d rfl (Ag hrlste A2) (.d rfl rfl (.d rfl rfl (.nil))))))) (.agg (.d rfl rfl (.d rfl rfl (.d rfl rfl (.d rfl rfl (.d rfl rfl (.d rfl (Ag hlwoff hoboff) (.d rfl rfl (.d rfl rfl (.d rfl rfl (.nil)))))))))) (.d rfl rfl (.nil))))
 conv=>cbv
 refine .go hlwoff fun c5 bw=>?_
 conv=>cbv
 refine .add fun c4 bz=>?_
 conv=>cbv
 generalize bf:Aw lwver c4 record=b9
 have zr14:=Cu bf
 refine .dd hP (Ef (by omega) bf) ?_
 conv=>cbv
 generalize ao:Af lwbas=b3
 refine .dd hP (Cy ao) ?_
 conv=>cbv
 have hB:appB ((⟨rlnod,rlent,rlold,rlste,rlroo,rlnex⟩:Ac),(⟨lwver,lwstr,lwrol,lwbas,lwlin,lwoff,lwend,true,lwcod⟩:Aa))=((⟨rlnod,rlent,rlold,rlste,rlroo,rlnex⟩:Ac),(⟨lwver,lwstr,lwrol,lwbas,lwlin,lwoff,lwend,true,lwcod⟩:Aa)):=by unfold appB;rw[if_neg (by first|(simp;done)|(exfalso;omega)|(simp;omega))]
 rcases bm:Ao (⟨rlnod,rlent,rlold,rlste,rlroo,rlnex⟩:Ac) b3 b9 with⟨⟨aw,ax,ay,az,bg,bh⟩,c6⟩
 generalize bi:aw.map A5=cv
 generalize bj:ax.map Ae=cw
 generalize bk:ay.map Ae=cx
 generalize bl:az.map cS=cy
 refine .dd hP (Dn hrlnod hrlent hrlold hrlste hgA.1.1.1 hgA.1.1.2.2.1 hgA.1.1.2.2.2.2.1 (by omega) hgA.1.2.2 hgA.1 (by omega) bm bi bj bk bl) ?_
 conv=>cbv
 refine .neq (fun h17=>?_) fun h17=>?_
 conv=>cbv
 have hlf:Hw (⟨lwver,lwstr,lwrol,lwbas,lwlin,lwoff,lwend,true,lwcod⟩:Aa) record=b9:=by unfold Hw;dsimp only;rw[←bf,bz,bw]<;>first|rfl|(congr 1;omega)|(congr 1;simp;omega)|(congr 1;simp)
 have hca:Ao (⟨rlnod,rlent,rlold,rlste,rlroo,rlnex⟩:Ac) (Af lwbas) (Hw (⟨lwver,lwstr,lwrol,lwbas,lwlin,lwoff,lwend,true,lwcod⟩:Aa) record)=((⟨aw,ax,ay,az,bg,bh⟩:Ac),c6):=by rw[hlf,ao];exact bm
 have bo:L6 (⟨rlnod,rlent,rlold,rlste,rlroo,rlnex⟩:Ac) (⟨lwver,lwstr,lwrol,lwbas,lwlin,lwoff,lwend,true,lwcod⟩:Aa) record=2:=by unfold L6;dsimp only;rw[hca];exact if_pos h17
 have hC:Im ((⟨rlnod,rlent,rlold,rlste,rlroo,rlnex⟩:Ac),(⟨lwver,lwstr,lwrol,lwbas,lwlin,lwoff,lwend,true,lwcod⟩:Aa)) record=((⟨aw,ax,ay,az,bg,bh⟩:Ac),(⟨lwver,lwstr,lwrol,lwbas,lwlin,lwoff,lwend,true,2⟩:Aa)):=by unfold Im;rw[if_pos (by first|omega|(dsimp only;omega))];unfold Kz R9;rw[bo,if_neg (by decide)];dsimp only;rw[hca]
 have e:((⟨aw,ax,ay,az,bg,bh⟩:Ac),(⟨lwver,lwstr,lwrol,lwbas,lwlin,lwoff,lwend,true,2⟩:Aa),2)=Ad (⟨Ah,Ak,Aj,Ai,An,Am⟩:Ac) (⟨wver,wstr,wrol,wbas,wlin,woff,wend,true,wcod⟩:Aa) record:=(by first|(exfalso;omega)|(unfold Ad;rw[if_pos (by omega)];done)|(unfold Ad;rw[if_neg (by omega),if_pos (by first|omega|(dsimp only;omega))];done)|(have hz:=Av (r:=record) (by omega) (by first|omega|(dsimp only;omega)) hA hB hC;exact hz)|(have hz:=Bc (r:=record) (by omega) (by first|omega|(dsimp only;omega)) hA hB (by first|omega|(dsimp only;omega));exact hz)|(have hz:=Bg (r:=record) (by omega) (by first|omega|(dsimp only;omega)) hA (by first|omega|(dsimp only;omega));exact hz)|(have hz:=Av (r:=record) (by omega) (by first|omega|(dsimp only;omega)) hA hB hC;obtain rfl:wcod=0:=(by omega);exact hz)|(have hz:=Av (r:=record) (by omega) (by first|omega|(dsimp only;omega)) hA hB hC;obtain rfl:lwcod=0:=(by omega);exact hz))
 rw[hr]at e
 simp only[Prod.mk.injEq,Ac.mk.injEq,Aa.mk.injEq]at e
 obtain⟨⟨rfl,rfl,rfl,rfl,rfl,rfl⟩,⟨rfl,rfl,rfl,rfl,rfl,rfl,rfl,rfl,rfl⟩,rfl⟩:=e
 refine hQ _ _ ?_
 exact .many (.inl rfl) rfl rfl (.agg (.d rfl (Ag bi A0) (.d rfl (Ag bj A3) (.d rfl (Ag bk A1) (.d rfl (Ag bl A2) (.d rfl rfl (.d rfl rfl (.nil))))))) (.agg (.d rfl rfl (.d rfl rfl (.d rfl rfl (.d rfl rfl (.d rfl rfl (.d rfl (Ag hlwoff hoboff) (.d rfl rfl (.d rfl rfl (.d rfl rfl (.nil)))))))))) (.d rfl rfl (.nil))))
 conv=>cbv
 first|(exfalso;omega)|exact absurd (hopA (by omega)) (by decide)
 conv=>cbv
 refine .neq (fun h11=>?_) fun h11=>?_
 conv=>cbv
 have e:((⟨rlnod,rlent,rlold,rlste,rlroo,rlnex⟩:Ac),(⟨lwver,lwstr,lwrol,lwbas,lwlin,lwoff,lwend,lwope,lwcod⟩:Aa),lwcod)=Ad (⟨Ah,Ak,Aj,Ai,An,Am⟩:Ac) (⟨wver,wstr,wrol,wbas,wlin,woff,wend,true,wcod⟩:Aa) record:=(by first|(exfalso;omega)|(unfold Ad;rw[if_pos (by omega)];done)|(unfold Ad;rw[if_neg (by omega),if_pos (by first|omega|(dsimp only;omega))];done)|(have hz:=Av (r:=record) (by omega) (by first|omega|(dsimp only;omega)) hA hB hC;exact hz)|(have hz:=Bc (r:=record) (by omega) (by first|omega|(dsimp only;omega)) hA hB (by first|omega|(dsimp only;omega));exact hz)|(have hz:=Bg (r:=record) (by omega) (by first|omega|(dsimp only;omega)) hA (by first|omega|(dsimp only;omega));exact hz)|(have hz:=Av (r:=record) (by omega) (by first|omega|(dsimp only;omega)) hA hB hC;obtain rfl:wcod=0:=(by omega);exact hz)|(have hz:=Av (r:=record) (by omega) (by first|omega|(dsimp only;omega)) hA hB hC;obtain rfl:lwcod=0:=(by omega);exact hz))
 rw[hr]at e
 simp only[Prod.mk.injEq,Ac.mk.injEq,Aa.mk.injEq]at e
 obtain⟨⟨rfl,rfl,rfl,rfl,rfl,rfl⟩,⟨rfl,rfl,rfl,rfl,rfl,rfl,rfl,rfl,rfl⟩,rfl⟩:=e
 refine hQ _ _ ?_
 exact .many (.inl rfl) rfl rfl (.agg (.d rfl (Ag hrlnod A0) (.d rfl (Ag hrlent A3) (.d rfl (Ag hrlold A1) (.d rfl (Ag hrlste A2) (.d rfl rfl (.d rfl rfl (.nil))))))) (.agg (.d rfl rfl (.d rfl rfl (.d rfl rfl (.d rfl rfl (.d rfl rfl (.d rfl (Ag hlwoff hoboff) (.d rfl rfl (.d rfl rfl (.d rfl rfl (.nil)))))))))) (.d rfl rfl (.nil))))
 conv=>cbv
 refine .go hlwoff fun c5 bw=>?_
 conv=>cbv
 refine .add fun c4 bz=>?_
 conv=>cbv
 generalize bf:Aw lwver c4 record=b9
 have zr14:=Cu bf
 refine .dd hP (Ef (by omega) bf) ?_
 conv=>cbv
 generalize ao:Af lwbas=b3
 refine .dd hP (Cy ao) ?_
 conv=>cbv
 have hB:appB ((⟨rlnod,rlent,rlold,rlste,rlroo,rlnex⟩:Ac),(⟨lwver,lwstr,lwrol,lwbas,lwlin,lwoff,lwend,lwope,lwcod⟩:Aa))=((⟨rlnod,rlent,rlold,rlste,rlroo,rlnex⟩:Ac),(⟨lwver,lwstr,lwrol,lwbas,lwlin,lwoff,lwend,lwope,lwcod⟩:Aa)):=by unfold appB;rw[if_neg (by first|(simp;done)|(exfalso;omega)|(simp;omega))]
 rcases bm:Ao (⟨rlnod,rlent,rlold,rlste,rlroo,rlnex⟩:Ac) b3 b9 with⟨⟨aw,ax,ay,az,bg,bh⟩,c6⟩
 generalize bi:aw.map A5=cv
 generalize bj:ax.map Ae=cw
 generalize bk:ay.map Ae=cx
 generalize bl:az.map cS=cy
 refine .dd hP (Dn hrlnod hrlent hrlold hrlste hgA.1.1.1 hgA.1.1.2.2.1 hgA.1.1.2.2.2.2.1 (by omega) hgA.1.2.2 hgA.1 (by omega) bm bi bj bk bl) ?_
 conv=>cbv
 refine .neq (fun h17=>?_) fun h17=>?_
 conv=>cbv
 have hlf:Hw (⟨lwver,lwstr,lwrol,lwbas,lwlin,lwoff,lwend,lwope,lwcod⟩:Aa) record=b9:=by unfold Hw;dsimp only;rw[←bf,bz,bw]<;>first|rfl|(congr 1;omega)|(congr 1;simp;omega)|(congr 1;simp)
 have hca:Ao (⟨rlnod,rlent,rlold,rlste,rlroo,rlnex⟩:Ac) (Af lwbas) (Hw (⟨lwver,lwstr,lwrol,lwbas,lwlin,lwoff,lwend,lwope,lwcod⟩:Aa) record)=((⟨aw,ax,ay,az,bg,bh⟩:Ac),c6):=by rw[hlf,ao];exact bm
 have bo:L6 (⟨rlnod,rlent,rlold,rlste,rlroo,rlnex⟩:Ac) (⟨lwver,lwstr,lwrol,lwbas,lwlin,lwoff,lwend,lwope,lwcod⟩:Aa) record=2:=by unfold L6;dsimp only;rw[hca];exact if_pos h17
 have hC:Im ((⟨rlnod,rlent,rlold,rlste,rlroo,rlnex⟩:Ac),(⟨lwver,lwstr,lwrol,lwbas,lwlin,lwoff,lwend,lwope,lwcod⟩:Aa)) record=((⟨aw,ax,ay,az,bg,bh⟩:Ac),(⟨lwver,lwstr,lwrol,lwbas,lwlin,lwoff,lwend,lwope,2⟩:Aa)):=by unfold Im;rw[if_pos (by first|omega|(dsimp only;omega))];unfold Kz R9;rw[bo,if_neg (by decide)];dsimp only;rw[hca]
 have e:((⟨aw,ax,ay,az,bg,bh⟩:Ac),(⟨lwver,lwstr,lwrol,lwbas,lwlin,lwoff,lwend,lwope,2⟩:Aa),2)=Ad (⟨Ah,Ak,Aj,Ai,An,Am⟩:Ac) (⟨wver,wstr,wrol,wbas,wlin,woff,wend,true,wcod⟩:Aa) record:=(by first|(exfalso;omega)|(unfold Ad;rw[if_pos (by omega)];done)|(unfold Ad;rw[if_neg (by omega),if_pos (by first|omega|(dsimp only;omega))];done)|(have hz:=Av (r:=record) (by omega) (by first|omega|(dsimp only;omega)) hA hB hC;exact hz)|(have hz:=Bc (r:=record) (by omega) (by first|omega|(dsimp only;omega)) hA hB (by first|omega|(dsimp only;omega));exact hz)|(have hz:=Bg (r:=record) (by omega) (by first|omega|(dsimp only;omega)) hA (by first|omega|(dsimp only;omega));exact hz)|(have hz:=Av (r:=record) (by omega) (by first|omega|(dsimp only;omega)) hA hB hC;obtain rfl:wcod=0:=(by omega);exact hz)|(have hz:=Av (r:=record) (by omega) (by first|omega|(dsimp only;omega)) hA hB hC;obtain rfl:lwcod=0:=(by omega);exact hz))
 rw[hr]at e
 simp only[Prod.mk.injEq,Ac.mk.injEq,Aa.mk.injEq]at e
 obtain⟨⟨rfl,rfl,rfl,rfl,rfl,rfl⟩,⟨rfl,rfl,rfl,rfl,rfl,rfl,rfl,rfl,rfl⟩,rfl⟩:=e
 refine hQ _ _ ?_
 exact .many (.inl rfl) rfl rfl (.agg (.d rfl (Ag bi A0) (.d rfl (Ag bj A3) (.d rfl (Ag bk A1) (.d rfl (Ag bl A2) (.d rfl rfl (.d rfl rfl (.nil))))))) (.agg (.d rfl rfl (.d rfl rfl (.d rfl rfl (.d rfl rfl (.d rfl rfl (.d rfl (Ag hlwoff hoboff) (.d rfl rfl (.d rfl rfl (.d rfl rfl (.nil)))))))))) (.d rfl rfl (.nil))))
 conv=>cbv
 first|(exfalso;omega)|exact absurd (hopA (by omega)) (by decide)
 conv=>cbv
 refine .eql (fun h9=>?_) fun h9=>?_
 conv=>cbv
 refine .neq (fun h10=>?_) fun h10=>?_
 conv=>cbv
 have e:((⟨Ah,Ak,Aj,Ai,An,Am⟩:Ac),(⟨wver,wstr,wrol,wbas,wlin,woff,wend,true,wcod⟩:Aa),wcod)=Ad (⟨Ah,Ak,Aj,Ai,An,Am⟩:Ac) (⟨wver,wstr,wrol,wbas,wlin,woff,wend,true,wcod⟩:Aa) record:=(by first|(exfalso;omega)|(unfold Ad;rw[if_pos (by omega)];done)|(unfold Ad;rw[if_neg (by omega),if_pos (by first|omega|(dsimp only;omega))];done)|(have hz:=Av (r:=record) (by omega) (by first|omega|(dsimp only;omega)) hA hB hC;exact hz)|(have hz:=Bc (r:=record) (by omega) (by first|omega|(dsimp only;omega)) hA hB (by first|omega|(dsimp only;omega));exact hz)|(have hz:=Bg (r:=record) (by omega) (by first|omega|(dsimp only;omega)) hA (by first|omega|(dsimp only;omega));exact hz)|(have hz:=Av (r:=record) (by omega) (by first|omega|(dsimp only;omega)) hA hB hC;obtain rfl:wcod=0:=(by omega);exact hz)|(have hz:=Av (r:=record) (by omega) (by first|omega|(dsimp only;omega)) hA hB hC;obtain rfl:lwcod=0:=(by omega);exact hz))
 rw[hr]at e
 simp only[Prod.mk.injEq,Ac.mk.injEq,Aa.mk.injEq]at e
 obtain⟨⟨rfl,rfl,rfl,rfl,rfl,rfl⟩,⟨rfl,rfl,rfl,rfl,rfl,rfl,rfl,rfl,rfl⟩,rfl⟩:=e
 refine hQ _ _ ?_
 exact .many (.inl rfl) rfl rfl (.agg (.d rfl (Ag Ap A0) (.d rfl (Ag As A3) (.d rfl (Ag Au A1) (.d rfl (Ag At A2) (.d rfl rfl (.d rfl rfl (.nil))))))) (.agg (.d rfl rfl (.d rfl rfl (.d rfl rfl (.d rfl rfl (.d rfl rfl (.ref rfl (Aq hwoff) (Br hwoff hoboff) (.d rfl rfl (.d rfl rfl (.d rfl rfl (.nil)))))))))) (.d rfl rfl (.nil))))
 conv=>cbv
 refine .go fun d2 cb=>?_
 conv=>cbv
 refine .add fun c5 bw=>?_
 conv=>cbv
 generalize a4:Aw wver c5 record=cf
 have zr13:=Cu a4
 refine .dd hP (Ef (by omega) a4) ?_
 conv=>cbv
 generalize bf:Af wbas=b9
 refine .dd hP (Cy bf) ?_
 conv=>cbv
 have hA:Pu (⟨Ah,Ak,Aj,Ai,An,Am⟩:Ac) (⟨wver,wstr,wrol,wbas,wlin,woff,wend,true,wcod⟩:Aa)=((⟨Ah,Ak,Aj,Ai,An,Am⟩:Ac),(⟨wver,wstr,wrol,wbas,wlin,woff,wend,true,wcod⟩:Aa)):=by unfold Pu;rw[if_neg (by first|(simp;done)|(exfalso;omega)|(simp;omega))]
 have hB:appB ((⟨Ah,Ak,Aj,Ai,An,Am⟩:Ac),(⟨wver,wstr,wrol,wbas,wlin,woff,wend,true,wcod⟩:Aa))=((⟨Ah,Ak,Aj,Ai,An,Am⟩:Ac),(⟨wver,wstr,wrol,wbas,wlin,woff,wend,true,wcod⟩:Aa)):=by unfold appB;rw[if_neg (by first|(simp;done)|(exfalso;omega)|(simp;omega))]
 rcases ao:Ao (⟨Ah,Ak,Aj,Ai,An,Am⟩:Ac) b9 cf with⟨⟨aa,ab,ac,ad,ae,af⟩,cc⟩
 generalize a0:aa.map A5=cz
 generalize a1:ab.map Ae=c0
 generalize a2:ac.map Ae=c1
 generalize a3:ad.map cS=c2
 refine .dd hP (Dn Ap As Au At a5.1.1 a5.1.2.2.1 a5.1.2.2.2.2.1 (by omega) a5.2.2 a5 (by omega) ao a0 a1 a2 a3) ?_
 conv=>cbv
 refine .neq (fun h16=>?_) fun h16=>?_
 conv=>cbv
 have hlf:Hw (⟨wver,wstr,wrol,wbas,wlin,woff,wend,true,wcod⟩:Aa) record=cf:=by unfold Hw;dsimp only;rw[←a4,bw,cb]<;>first|rfl|(congr 1;omega)|(congr 1;simp;omega)|(congr 1;simp)
 have hca:Ao (⟨Ah,Ak,Aj,Ai,An,Am⟩:Ac) (Af wbas) (Hw (⟨wver,wstr,wrol,wbas,wlin,woff,wend,true,wcod⟩:Aa) record)=((⟨aa,ab,ac,ad,ae,af⟩:Ac),cc):=by rw[hlf,bf];exact ao
 have bo:L6 (⟨Ah,Ak,Aj,Ai,An,Am⟩:Ac) (⟨wver,wstr,wrol,wbas,wlin,woff,wend,true,wcod⟩:Aa) record=2:=by unfold L6;dsimp only;rw[hca];exact if_pos h16
 have hC:Im ((⟨Ah,Ak,Aj,Ai,An,Am⟩:Ac),(⟨wver,wstr,wrol,wbas,wlin,woff,wend,true,wcod⟩:Aa)) record=((⟨aa,ab,ac,ad,ae,af⟩:Ac),(⟨wver,wstr,wrol,wbas,wlin,woff,wend,true,2⟩:Aa)):=by unfold Im;rw[if_pos (by first|omega|(dsimp only;omega))];unfold Kz R9;rw[bo,if_neg (by decide)];dsimp only;rw[hca]
 have e:((⟨aa,ab,ac,ad,ae,af⟩:Ac),(⟨wver,wstr,wrol,wbas,wlin,woff,wend,true,2⟩:Aa),2)=Ad (⟨Ah,Ak,Aj,Ai,An,Am⟩:Ac) (⟨wver,wstr,wrol,wbas,wlin,woff,wend,true,wcod⟩:Aa) record:=(by first|(exfalso;omega)|(unfold Ad;rw[if_pos (by omega)];done)|(unfold Ad;rw[if_neg (by omega),if_pos (by first|omega|(dsimp only;omega))];done)|(have hz:=Av (r:=record) (by omega) (by first|omega|(dsimp only;omega)) hA hB hC;exact hz)|(have hz:=Bc (r:=record) (by omega) (by first|omega|(dsimp only;omega)) hA hB (by first|omega|(dsimp only;omega));exact hz)|(have hz:=Bg (r:=record) (by omega) (by first|omega|(dsimp only;omega)) hA (by first|omega|(dsimp only;omega));exact hz)|(have hz:=Av (r:=record) (by omega) (by first|omega|(dsimp only;omega)) hA hB hC;obtain rfl:wcod=0:=(by omega);exact hz)|(have hz:=Av (r:=record) (by omega) (by first|omega|(dsimp only;omega)) hA hB hC;obtain rfl:lwcod=0:=(by omega);exact hz))
 rw[hr]at e
 simp only[Prod.mk.injEq,Ac.mk.injEq,Aa.mk.injEq]at e
 obtain⟨⟨rfl,rfl,rfl,rfl,rfl,rfl⟩,⟨rfl,rfl,rfl,rfl,rfl,rfl,rfl,rfl,rfl⟩,rfl⟩:=e
 refine hQ _ _ ?_
 exact .many (.inl rfl) rfl rfl (.agg (.d rfl (Ag a0 A0) (.d rfl (Ag a1 A3) (.d rfl (Ag a2 A1) (.d rfl (Ag a3 A2) (.d rfl rfl (.d rfl rfl (.nil))))))) (.agg (.d rfl rfl (.d rfl rfl (.d rfl rfl (.d rfl rfl (.d rfl rfl (.ref rfl (Aq hwoff) (Br hwoff hoboff) (.d rfl rfl (.d rfl rfl (.d rfl rfl (.nil)))))))))) (.d rfl rfl (.nil))))
 conv=>cbv
 refine .one wend hwoff rfl fun dw d3 di cd=>?_
 conv=>cbv
 refine .go fun d4 c7=>?_
 conv=>cbv
 refine .add fun c9 da=>?_
 conv=>cbv
 have hlf:Hw (⟨wver,wstr,wrol,wbas,wlin,woff,wend,true,wcod⟩:Aa) record=cf:=by unfold Hw;dsimp only;rw[←a4,bw,cb]<;>first|rfl|(congr 1;omega)|(congr 1;simp;omega)|(congr 1;simp)
 have hca:Ao (⟨Ah,Ak,Aj,Ai,An,Am⟩:Ac) (Af wbas) (Hw (⟨wver,wstr,wrol,wbas,wlin,woff,wend,true,wcod⟩:Aa) record)=((⟨aa,ab,ac,ad,ae,af⟩:Ac),cc):=by rw[hlf,bf];exact ao
 have ce:L6 (⟨Ah,Ak,Aj,Ai,An,Am⟩:Ac) (⟨wver,wstr,wrol,wbas,wlin,woff,wend,true,wcod⟩:Aa) record=0:=by unfold L6;dsimp only;rw[hca];exact if_neg (by first|omega|(dsimp only;omega))
 have hC:Im ((⟨Ah,Ak,Aj,Ai,An,Am⟩:Ac),(⟨wver,wstr,wrol,wbas,wlin,woff,wend,true,wcod⟩:Aa)) record=((⟨aa,ab,ac,ad,ae,af⟩:Ac),(⟨wver,wstr,wrol,wbas,wlin,woff++[wend],c9,true,wcod⟩:Aa)):=by unfold Im;rw[if_pos (by first|omega|(dsimp only;omega))];unfold Kz R9;rw[ce,if_pos rfl];dsimp only;rw[hca,hlf,da,c7]
 have e:((⟨aa,ab,ac,ad,ae,af⟩:Ac),(⟨wver,wstr,wrol,wbas,wlin,woff++[wend],c9,true,wcod⟩:Aa),0)=Ad (⟨Ah,Ak,Aj,Ai,An,Am⟩:Ac) (⟨wver,wstr,wrol,wbas,wlin,woff,wend,true,wcod⟩:Aa) record:=(by first|(exfalso;omega)|(unfold Ad;rw[if_pos (by omega)];done)|(unfold Ad;rw[if_neg (by omega),if_pos (by first|omega|(dsimp only;omega))];done)|(have hz:=Av (r:=record) (by omega) (by first|omega|(dsimp only;omega)) hA hB hC;exact hz)|(have hz:=Bc (r:=record) (by omega) (by first|omega|(dsimp only;omega)) hA hB (by first|omega|(dsimp only;omega));exact hz)|(have hz:=Bg (r:=record) (by omega) (by first|omega|(dsimp only;omega)) hA (by first|omega|(dsimp only;omega));exact hz)|(have hz:=Av (r:=record) (by omega) (by first|omega|(dsimp only;omega)) hA hB hC;obtain rfl:wcod=0:=(by omega);exact hz)|(have hz:=Av (r:=record) (by omega) (by first|omega|(dsimp only;omega)) hA hB hC;obtain rfl:lwcod=0:=(by omega);exact hz))
 rw[hr]at e
 simp only[Prod.mk.injEq,Ac.mk.injEq,Aa.mk.injEq]at e
 obtain⟨⟨rfl,rfl,rfl,rfl,rfl,rfl⟩,⟨rfl,rfl,rfl,rfl,rfl,rfl,rfl,rfl,rfl⟩,rfl⟩:=e
 refine hQ _ _ ?_
 exact .many (.inl rfl) rfl rfl (.agg (.d rfl (Ag a0 A0) (.d rfl (Ag a1 A3) (.d rfl (Ag a2 A1) (.d rfl (Ag a3 A2) (.d rfl rfl (.d rfl rfl (.nil))))))) (.agg (.d rfl rfl (.d rfl rfl (.d rfl rfl (.d rfl rfl (.d rfl rfl (.ref rfl (Aq cd) (Br cd hoboff) (.d rfl rfl (.d rfl rfl (.d rfl rfl (.nil)))))))))) (.d rfl rfl (.nil))))
 conv=>cbv
 refine .neq (fun h10=>?_) fun h10=>?_
 conv=>cbv
 have e:((⟨Ah,Ak,Aj,Ai,An,Am⟩:Ac),(⟨wver,wstr,wrol,wbas,wlin,woff,wend,true,wcod⟩:Aa),wcod)=Ad (⟨Ah,Ak,Aj,Ai,An,Am⟩:Ac) (⟨wver,wstr,wrol,wbas,wlin,woff,wend,true,wcod⟩:Aa) record:=(by first|(exfalso;omega)|(unfold Ad;rw[if_pos (by omega)];done)|(unfold Ad;rw[if_neg (by omega),if_pos (by first|omega|(dsimp only;omega))];done)|(have hz:=Av (r:=record) (by omega) (by first|omega|(dsimp only;omega)) hA hB hC;exact hz)|(have hz:=Bc (r:=record) (by omega) (by first|omega|(dsimp only;omega)) hA hB (by first|omega|(dsimp only;omega));exact hz)|(have hz:=Bg (r:=record) (by omega) (by first|omega|(dsimp only;omega)) hA (by first|omega|(dsimp only;omega));exact hz)|(have hz:=Av (r:=record) (by omega) (by first|omega|(dsimp only;omega)) hA hB hC;obtain rfl:wcod=0:=(by omega);exact hz)|(have hz:=Av (r:=record) (by omega) (by first|omega|(dsimp only;omega)) hA hB hC;obtain rfl:lwcod=0:=(by omega);exact hz))
 rw[hr]at e
 simp only[Prod.mk.injEq,Ac.mk.injEq,Aa.mk.injEq]at e
 obtain⟨⟨rfl,rfl,rfl,rfl,rfl,rfl⟩,⟨rfl,rfl,rfl,rfl,rfl,rfl,rfl,rfl,rfl⟩,rfl⟩:=e
 refine hQ _ _ ?_
 exact .many (.inl rfl) rfl rfl (.agg (.d rfl (Ag Ap A0) (.d rfl (Ag As A3) (.d rfl (Ag Au A1) (.d rfl (Ag At A2) (.d rfl rfl (.d rfl rfl (.nil))))))) (.agg (.d rfl rfl (.d rfl rfl (.d rfl rfl (.d rfl rfl (.d rfl rfl (.ref rfl (Aq hwoff) (Br hwoff hoboff) (.d rfl rfl (.d rfl rfl (.d rfl rfl (.nil)))))))))) (.d rfl rfl (.nil))))
 conv=>cbv
 refine .go fun d2 cb=>?_
 conv=>cbv
 refine .add fun c5 bw=>?_
 conv=>cbv
 generalize a4:Aw wver c5 record=cf
 have zr13:=Cu a4
 refine .dd hP (Ef (by omega) a4) ?_
 conv=>cbv
 generalize bf:Af wbas=b9
 refine .dd hP (Cy bf) ?_
 conv=>cbv
 have hA:Pu (⟨Ah,Ak,Aj,Ai,An,Am⟩:Ac) (⟨wver,wstr,wrol,wbas,wlin,woff,wend,true,wcod⟩:Aa)=((⟨Ah,Ak,Aj,Ai,An,Am⟩:Ac),(⟨wver,wstr,wrol,wbas,wlin,woff,wend,true,wcod⟩:Aa)):=by unfold Pu;rw[if_neg (by first|(simp;done)|(exfalso;omega)|(simp;omega))]
 have hB:appB ((⟨Ah,Ak,Aj,Ai,An,Am⟩:Ac),(⟨wver,wstr,wrol,wbas,wlin,woff,wend,true,wcod⟩:Aa))=((⟨Ah,Ak,Aj,Ai,An,Am⟩:Ac),(⟨wver,wstr,wrol,wbas,wlin,woff,wend,true,wcod⟩:Aa)):=by unfold appB;rw[if_neg (by first|(simp;done)|(exfalso;omega)|(simp;omega))]
 rcases ao:Ao (⟨Ah,Ak,Aj,Ai,An,Am⟩:Ac) b9 cf with⟨⟨aa,ab,ac,ad,ae,af⟩,cc⟩
 generalize a0:aa.map A5=cz
 generalize a1:ab.map Ae=c0
 generalize a2:ac.map Ae=c1
 generalize a3:ad.map cS=c2
 refine .dd hP (Dn Ap As Au At a5.1.1 a5.1.2.2.1 a5.1.2.2.2.2.1 (by omega) a5.2.2 a5 (by omega) ao a0 a1 a2 a3) ?_
 conv=>cbv
 refine .neq (fun h16=>?_) fun h16=>?_
 conv=>cbv
 have hlf:Hw (⟨wver,wstr,wrol,wbas,wlin,woff,wend,true,wcod⟩:Aa) record=cf:=by unfold Hw;dsimp only;rw[←a4,bw,cb]<;>first|rfl|(congr 1;omega)|(congr 1;simp;omega)|(congr 1;simp)
 have hca:Ao (⟨Ah,Ak,Aj,Ai,An,Am⟩:Ac) (Af wbas) (Hw (⟨wver,wstr,wrol,wbas,wlin,woff,wend,true,wcod⟩:Aa) record)=((⟨aa,ab,ac,ad,ae,af⟩:Ac),cc):=by rw[hlf,bf];exact ao
 have bo:L6 (⟨Ah,Ak,Aj,Ai,An,Am⟩:Ac) (⟨wver,wstr,wrol,wbas,wlin,woff,wend,true,wcod⟩:Aa) record=2:=by unfold L6;dsimp only;rw[hca];exact if_pos h16
 have hC:Im ((⟨Ah,Ak,Aj,Ai,An,Am⟩:Ac),(⟨wver,wstr,wrol,wbas,wlin,woff,wend,true,wcod⟩:Aa)) record=((⟨aa,ab,ac,ad,ae,af⟩:Ac),(⟨wver,wstr,wrol,wbas,wlin,woff,wend,true,2⟩:Aa)):=by unfold Im;rw[if_pos (by first|omega|(dsimp only;omega))];unfold Kz R9;rw[bo,if_neg (by decide)];dsimp only;rw[hca]
 have e:((⟨aa,ab,ac,ad,ae,af⟩:Ac),(⟨wver,wstr,wrol,wbas,wlin,woff,wend,true,2⟩:Aa),2)=Ad (⟨Ah,Ak,Aj,Ai,An,Am⟩:Ac) (⟨wver,wstr,wrol,wbas,wlin,woff,wend,true,wcod⟩:Aa) record:=(by first|(exfalso;omega)|(unfold Ad;rw[if_pos (by omega)];done)|(unfold Ad;rw[if_neg (by omega),if_pos (by first|omega|(dsimp only;omega))];done)|(have hz:=Av (r:=record) (by omega) (by first|omega|(dsimp only;omega)) hA hB hC;exact hz)|(have hz:=Bc (r:=record) (by omega) (by first|omega|(dsimp only;omega)) hA hB (by first|omega|(dsimp only;omega));exact hz)|(have hz:=Bg (r:=record) (by omega) (by first|omega|(dsimp only;omega)) hA (by first|omega|(dsimp only;omega));exact hz)|(have hz:=Av (r:=record) (by omega) (by first|omega|(dsimp only;omega)) hA hB hC;obtain rfl:wcod=0:=(by omega);exact hz)|(have hz:=Av (r:=record) (by omega) (by first|omega|(dsimp only;omega)) hA hB hC;obtain rfl:lwcod=0:=(by omega);exact hz))
 rw[hr]at e
 simp only[Prod.mk.injEq,Ac.mk.injEq,Aa.mk.injEq]at e
 obtain⟨⟨rfl,rfl,rfl,rfl,rfl,rfl⟩,⟨rfl,rfl,rfl,rfl,rfl,rfl,rfl,rfl,rfl⟩,rfl⟩:=e
 refine hQ _ _ ?_
 exact .many (.inl rfl) rfl rfl (.agg (.d rfl (Ag a0 A0) (.d rfl (Ag a1 A3) (.d rfl (Ag a2 A1) (.d rfl (Ag a3 A2) (.d rfl rfl (.d rfl rfl (.nil))))))) (.agg (.d rfl rfl (.d rfl rfl (.d rfl rfl (.d rfl rfl (.d rfl rfl (.ref rfl (Aq hwoff) (Br hwoff hoboff) (.d rfl rfl (.d rfl rfl (.d rfl rfl (.nil)))))))))) (.d rfl rfl (.nil))))
 conv=>cbv
 refine .one wend hwoff rfl fun dw d3 di cd=>?_
 conv=>cbv
 refine .go fun d4 c7=>?_
 conv=>cbv
 refine .add fun c9 da=>?_
 conv=>cbv
 have hlf:Hw (⟨wver,wstr,wrol,wbas,wlin,woff,wend,true,wcod⟩:Aa) record=cf:=by unfold Hw;dsimp only;rw[←a4,bw,cb]<;>first|rfl|(congr 1;omega)|(congr 1;simp;omega)|(congr 1;simp)
 have hca:Ao (⟨Ah,Ak,Aj,Ai,An,Am⟩:Ac) (Af wbas) (Hw (⟨wver,wstr,wrol,wbas,wlin,woff,wend,true,wcod⟩:Aa) record)=((⟨aa,ab,ac,ad,ae,af⟩:Ac),cc):=by rw[hlf,bf];exact ao
 have ce:L6 (⟨Ah,Ak,Aj,Ai,An,Am⟩:Ac) (⟨wver,wstr,wrol,wbas,wlin,woff,wend,true,wcod⟩:Aa) record=0:=by unfold L6;dsimp only;rw[hca];exact if_neg (by first|omega|(dsimp only;omega))
 have hC:Im ((⟨Ah,Ak,Aj,Ai,An,Am⟩:Ac),(⟨wver,wstr,wrol,wbas,wlin,woff,wend,true,wcod⟩:Aa)) record=((⟨aa,ab,ac,ad,ae,af⟩:Ac),(⟨wver,wstr,wrol,wbas,wlin,woff++[wend],c9,true,wcod⟩:Aa)):=by unfold Im;rw[if_pos (by first|omega|(dsimp only;omega))];unfold Kz R9;rw[ce,if_pos rfl];dsimp only;rw[hca,hlf,da,c7]
 have e:((⟨aa,ab,ac,ad,ae,af⟩:Ac),(⟨wver,wstr,wrol,wbas,wlin,woff++[wend],c9,true,wcod⟩:Aa),0)=Ad (⟨Ah,Ak,Aj,Ai,An,Am⟩:Ac) (⟨wver,wstr,wrol,wbas,wlin,woff,wend,true,wcod⟩:Aa) record:=(by first|(exfalso;omega)|(unfold Ad;rw[if_pos (by omega)];done)|(unfold Ad;rw[if_neg (by omega),if_pos (by first|omega|(dsimp only;omega))];done)|(have hz:=Av (r:=record) (by omega) (by first|omega|(dsimp only;omega)) hA hB hC;exact hz)|(have hz:=Bc (r:=record) (by omega) (by first|omega|(dsimp only;omega)) hA hB (by first|omega|(dsimp only;omega));exact hz)|(have hz:=Bg (r:=record) (by omega) (by first|omega|(dsimp only;omega)) hA (by first|omega|(dsimp only;omega));exact hz)|(have hz:=Av (r:=record) (by omega) (by first|omega|(dsimp only;omega)) hA hB hC;obtain rfl:wcod=0:=(by omega);exact hz)|(have hz:=Av (r:=record) (by omega) (by first|omega|(dsimp only;omega)) hA hB hC;obtain rfl:lwcod=0:=(by omega);exact hz))
 rw[hr]at e
 simp only[Prod.mk.injEq,Ac.mk.injEq,Aa.mk.injEq]at e
 obtain⟨⟨rfl,rfl,rfl,rfl,rfl,rfl⟩,⟨rfl,rfl,rfl,rfl,rfl,rfl,rfl,rfl,rfl⟩,rfl⟩:=e
 refine hQ _ _ ?_
 exact .many (.inl rfl) rfl rfl (.agg (.d rfl (Ag a0 A0) (.d rfl (Ag a1 A3) (.d rfl (Ag a2 A1) (.d rfl (Ag a3 A2) (.d rfl rfl (.d rfl rfl (.nil))))))) (.agg (.d rfl rfl (.d rfl rfl (.d rfl rfl (.d rfl rfl (.d rfl rfl (.ref rfl (Aq cd) (Br cd hoboff) (.d rfl rfl (.d rfl rfl (.d rfl rfl (.nil)))))))))) (.d rfl rfl (.nil))))
end
end Go.Proofs.YtgdmjbcllgmepaaGreatDoor.Ab
