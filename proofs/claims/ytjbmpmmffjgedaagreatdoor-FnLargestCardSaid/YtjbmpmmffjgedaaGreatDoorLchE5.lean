/- What functions of the program come to, for all arguments in the given bounds. -/
import Derived.Test.YtjbmpmmffjgedaaGreatDoorLchE
import Derived.Test.YtjbmpmmffjgedaaGreatDoorLZ10
import Derived.Test.YtjbmpmmffjgedaaGreatDoorLchN
import Derived.KernelRfl
set_option linter.unusedVariables false
set_option linter.unusedSimpArgs false
namespace Go.Proofs.YtjbmpmmffjgedaaGreatDoor.Ab
section
open Go Go.Proofs
set_option maxRecDepth 20000
set_option maxHeartbeats 4000000
def Xby:List (Nat×TyRow):=[ty3,XfZ,Xbj,Xin]
theorem Xbh:B3 Tryz.prog Xby:=B3.of (by kernel_rfl)
theorem Xe7:Setup Tryz.prog Xby:=⟨Xbh,mixed⟩
variable {onod:List B5} {De Dd Db Dc:List (List D)} {oent oold:List Ag} {oste:List ByteArray} {oroo onex:Int} {nonod noent noold noste:Nat}
theorem Xf9{cb:List UInt8}{xcb:List (List D)}{ci:Int}{ch:Int}{oi oh:Int}(hcb:cb.map cB=xcb)(hc:0≤ci∧ci≤cb.length∧cb.length≤1000000000000)(Eb:onod.map A5=De)(Eg:oent.map Ad=Dd)(Ed:oold.map Ad=Db)(D7:oste.map cS=Dc)(hr:Jw cb ci ch=(⟨onod,oent,oold,oste,oroo,onex⟩,oi,oh))(hnonod:nonod=onod.length)(hnoent:noent=oent.length)(hnoold:noold=oold.length)(hnoste:noste=oste.length):Fn Tryz.prog 59 [.ptr 0 0 0] [.box 140 [.d (.row 1 xcb),I ci,I ch]] ⟨.agg [.ref 1 0 nonod,.ref 2 0 noent,.ref 3 0 noold,.ref 4 0 noste,I oroo,I onex],[.row 3 false De,.row 2 false Dd,.row 2 false Db,.row 1 false Dc],[(0,.box 140 [.d (.row 1 xcb),I oi,I oh])]⟩:=by
 refine Fn.goR Xe7 Tryz.func59 fun P hP Q hQ=>?_
 conv=>cbv
 rcases af:Bq cb ci ch 10 with⟨d2,ri2,rh2⟩
 have zr2:=Cd af (by omega)
 refine .bx [0] [] hP (E5 hcb (by omega) af) rfl rfl rfl rfl ?_
 cases d2
 conv=>cbv
 rcases ae:Fs cb ri2 rh2 with⟨⟨d4nod,d4ent,d4old,d4ste,d4roo,d4nex⟩,ri4,rh4⟩
 generalize aa:d4nod.map A5=xd4nod
 generalize ab:d4ent.map Ad=xd4ent
 generalize ac:d4old.map Ad=xd4old
 generalize ad:d4ste.map cS=xd4ste
 obtain⟨nd4nod,hnd4nod⟩:∃m,m=d4nod.length:=⟨_,rfl⟩
 obtain⟨nd4ent,hnd4ent⟩:∃m,m=d4ent.length:=⟨_,rfl⟩
 obtain⟨nd4old,hnd4old⟩:∃m,m=d4old.length:=⟨_,rfl⟩
 obtain⟨nd4ste,hnd4ste⟩:∃m,m=d4ste.length:=⟨_,rfl⟩
 have zr4:=Vs ae (by omega)
 refine .bx [0] [] hP (Xex hcb (by omega) aa ab ac ad ae hnd4nod hnd4ent hnd4old hnd4ste) rfl rfl rfl rfl ?_
 conv=>cbv
 have e:((⟨d4nod,d4ent,d4old,d4ste,d4roo,d4nex⟩:Aa),ri4,rh4)=Jw cb ci ch:=(by unfold Jw;simp only[af,ae,Bool.false_eq_true,if_false,if_true])
 rw[hr]at e
 simp only[Prod.mk.injEq,Aa.mk.injEq]at e
 obtain⟨⟨rfl,rfl,rfl,rfl,rfl,rfl⟩,rfl,rfl⟩:=e
 obtain rfl:xd4nod=De:=by rw[←aa,←Eb]
 obtain rfl:nd4nod=nonod:=by first|omega|(rw[hnonod];simp;done)|(rw[hnonod];simp;omega)
 obtain rfl:xd4ent=Dd:=by rw[←ab,←Eg]
 obtain rfl:nd4ent=noent:=by first|omega|(rw[hnoent];simp;done)|(rw[hnoent];simp;omega)
 obtain rfl:xd4old=Db:=by rw[←ac,←Ed]
 obtain rfl:nd4old=noold:=by first|omega|(rw[hnoold];simp;done)|(rw[hnoold];simp;omega)
 obtain rfl:xd4ste=Dc:=by rw[←ad,←D7]
 obtain rfl:nd4ste=noste:=by first|omega|(rw[hnoste];simp;done)|(rw[hnoste];simp;omega)
 exact hQ _ _ (.of [6,7,8,9] (.inl rfl) rfl rfl rfl rfl)
 conv=>cbv
 rcases ae:D1 cb ri2 rh2 with⟨⟨d4nod,d4ent,d4old,d4ste,d4roo,d4nex⟩,ri4,rh4⟩
 generalize aa:d4nod.map A5=xd4nod
 generalize ab:d4ent.map Ad=xd4ent
 generalize ac:d4old.map Ad=xd4old
 generalize ad:d4ste.map cS=xd4ste
 obtain⟨nd4nod,hnd4nod⟩:∃m,m=d4nod.length:=⟨_,rfl⟩
 obtain⟨nd4ent,hnd4ent⟩:∃m,m=d4ent.length:=⟨_,rfl⟩
 obtain⟨nd4old,hnd4old⟩:∃m,m=d4old.length:=⟨_,rfl⟩
 obtain⟨nd4ste,hnd4ste⟩:∃m,m=d4ste.length:=⟨_,rfl⟩
 have zr4:=Zd ae (by omega)
 refine .bx [0] [] hP (XfH hcb (by omega) aa ab ac ad ae hnd4nod hnd4ent hnd4old hnd4ste) rfl rfl rfl rfl ?_
 conv=>cbv
 have e:((⟨d4nod,d4ent,d4old,d4ste,d4roo,d4nex⟩:Aa),ri4,rh4)=Jw cb ci ch:=(by unfold Jw;simp only[af,ae,Bool.false_eq_true,if_false,if_true])
 rw[hr]at e
 simp only[Prod.mk.injEq,Aa.mk.injEq]at e
 obtain⟨⟨rfl,rfl,rfl,rfl,rfl,rfl⟩,rfl,rfl⟩:=e
 obtain rfl:xd4nod=De:=by rw[←aa,←Eb]
 obtain rfl:nd4nod=nonod:=by first|omega|(rw[hnonod];simp;done)|(rw[hnonod];simp;omega)
 obtain rfl:xd4ent=Dd:=by rw[←ab,←Eg]
 obtain rfl:nd4ent=noent:=by first|omega|(rw[hnoent];simp;done)|(rw[hnoent];simp;omega)
 obtain rfl:xd4old=Db:=by rw[←ac,←Ed]
 obtain rfl:nd4old=noold:=by first|omega|(rw[hnoold];simp;done)|(rw[hnoold];simp;omega)
 obtain rfl:xd4ste=Dc:=by rw[←ad,←D7]
 obtain rfl:nd4ste=noste:=by first|omega|(rw[hnoste];simp;done)|(rw[hnoste];simp;omega)
 exact hQ _ _ (.of [6,7,8,9] (.inl rfl) rfl rfl rfl rfl)
def Wj(b:List UInt8):Aa:=(Jw b 0 (L0 b)).1
def Hs(b:List UInt8):Aa:=Wj b
theorem XeY{b:List UInt8}{d:Aa}(e:Wj b=d)(hb:b.length≤1000000000000):Hz d:=by
 rw[←e]
 exact(Zh (rfl:Jw b 0 (L0 b)=(_,_,_)) (by omega)).1
theorem Qq{code:List UInt8}{xcode:List (List D)}(hcode:code.map cB=xcode)(hb:code.length≤1000000000000)(hr:Hs code=⟨onod,oent,oold,oste,oroo,onex⟩)(Eb:onod.map A5=De)(Eg:oent.map Ad=Dd)(Ed:oold.map Ad=Db)(D7:oste.map cS=Dc)(hnonod:nonod=onod.length)(hnoent:noent=oent.length)(hnoold:noold=oold.length)(hnoste:noste=oste.length):Fn Tryz.prog 9 [.d (.row 1 xcode)] [] ⟨.agg [.ref 0 0 nonod,.ref 1 0 noent,.ref 2 0 noold,.ref 3 0 noste,I oroo,I onex],[.row 3 false De,.row 2 false Dd,.row 2 false Db,.row 1 false Dc],[]⟩:=by
 refine Fn.goR Xe7 Tryz.func9 fun P hP Q hQ=>?_
 conv=>cbv
 generalize af:L0 code=rh2
 refine .ddN hP (XfB hcode (by omega) af) rfl ?_
 conv=>cbv
 rcases ae:Jw code 0 rh2 with⟨⟨d4nod,d4ent,d4old,d4ste,d4roo,d4nex⟩,ri4,rh4⟩
 generalize aa:d4nod.map A5=xd4nod
 generalize ab:d4ent.map Ad=xd4ent
 generalize ac:d4old.map Ad=xd4old
 generalize ad:d4ste.map cS=xd4ste
 obtain⟨nd4nod,hnd4nod⟩:∃m,m=d4nod.length:=⟨_,rfl⟩
 obtain⟨nd4ent,hnd4ent⟩:∃m,m=d4ent.length:=⟨_,rfl⟩
 obtain⟨nd4old,hnd4old⟩:∃m,m=d4old.length:=⟨_,rfl⟩
 obtain⟨nd4ste,hnd4ste⟩:∃m,m=d4ste.length:=⟨_,rfl⟩
 have zr4:=Zh ae (by omega)
 refine .bx [5] [] hP (Xf9 hcode (by omega) aa ab ac ad ae hnd4nod hnd4ent hnd4old hnd4ste) rfl rfl rfl rfl ?_
 conv=>cbv
 have e:(⟨d4nod,d4ent,d4old,d4ste,d4roo,d4nex⟩:Aa)=Hs code:=(by unfold Hs Wj;rw[af,ae])
 rw[hr]at e
 simp only[Aa.mk.injEq]at e
 obtain⟨rfl,rfl,rfl,rfl,rfl,rfl⟩:=e
 obtain rfl:xd4nod=De:=by rw[←aa,←Eb]
 obtain rfl:nd4nod=nonod:=by first|omega|(rw[hnonod];simp;done)|(rw[hnonod];simp;omega)
 obtain rfl:xd4ent=Dd:=by rw[←ab,←Eg]
 obtain rfl:nd4ent=noent:=by first|omega|(rw[hnoent];simp;done)|(rw[hnoent];simp;omega)
 obtain rfl:xd4old=Db:=by rw[←ac,←Ed]
 obtain rfl:nd4old=noold:=by first|omega|(rw[hnoold];simp;done)|(rw[hnoold];simp;omega)
 obtain rfl:xd4ste=Dc:=by rw[←ad,←D7]
 obtain rfl:nd4ste=noste:=by first|omega|(rw[hnoste];simp;done)|(rw[hnoste];simp;omega)
 exact hQ _ _ (.of [6,7,8,9] (.inl rfl) rfl rfl rfl rfl)
end
section
open Go Go.Proofs
set_option maxRecDepth 20000
set_option maxHeartbeats 4000000
def Yq:List (Nat×TyRow):=[ty3,ty4,ty9,Xbj,XaE,ty76]
theorem Zy:B3 Tryz.prog Yq:=B3.of (by kernel_rfl)
theorem XfT:Setup Tryz.prog Yq:=⟨Zy,mixed⟩
theorem A3{d:Aa}{w:Ac}{r:ByteArray}{a b c:Aa×Ac}(h1:¬60<r.size)(h2:¬w.code_≠0)(hA:Tw d w=a)(hB:appB a=b)(hC:Mb b r=c):(c.1,c.2,c.2.code_)=Ah d w r:=by
 unfold Ah
 rw[if_neg h1,if_neg h2,hA,hB,hC]
theorem Cw{d:Aa}{w:Ac}{r:ByteArray}{a b:Aa×Ac}(h1:¬60<r.size)(h2:¬w.code_≠0)(hA:Tw d w=a)(hB:appB a=b)(hC:b.2.code_≠0):(b.1,b.2,b.2.code_)=Ah d w r:=A3 h1 h2 hA hB (if_neg hC)
theorem C2{d:Aa}{w:Ac}{r:ByteArray}{a:Aa×Ac}(h1:¬60<r.size)(h2:¬w.code_≠0)(hA:Tw d w=a)(hC:a.2.code_≠0):(a.1,a.2,a.2.code_)=Ah d w r:=Cw h1 h2 hA (if_neg fun h=>hC h.1) hC
theorem XcK{d:Aa}{w:Ac}(hw:w.code_=0)(h:(Tu d w).code_=0):(Tu d w).open_=false:=by
 unfold Tu at h⊢
 split at h
 ·rename_i hc
  rw[if_pos hc]
 ·cases h
theorem XcR{d a:Aa}{w b:Ac}{c:Int}(h1:w.open_=true)(h2:w.code_=0)(h:Cx d w=(a,b,c)):Zc d w=a∧Tu d w=b:=by
 unfold Cx at h
 rw[if_neg (by rw[h1,h2];simp)]at h
 simp only[Prod.mk.injEq]at h
 exact⟨h.1,h.2.1⟩
theorem Xbb{Aj:List B5}{Bk:List (List D)}{An:List Ag}{Bh:List (List D)}{Ao:List Ag}{Bg:List (List D)}{Al:List ByteArray}{Bi:List (List D)}{As:Int}{Aq:Int}{wver:Int}{wstr:Int}{wrol:Int}{wbas:Int}{wlin:Int}{woff:List Int}{xwoff:List (List D)}{wend:Int}{wope:Bool}{wcod:Int}{record:ByteArray}{F2:List B5}{Co:List (List D)}{Fy:List Ag}{Cn:List (List D)}{F3:List Ag}{Cm:List (List D)}{Fz:List ByteArray}{Cp:List (List D)}{G8:Int}{G9:Int}{obver:Int}{obstr:Int}{obrol:Int}{obbas:Int}{oblin:Int}{oboff:List Int}{xoboff:List (List D)}{obend:Int}{obope:Bool}{obcod:Int}{oc:Int}{k:Nat}(Av:Aj.map A5=Bk)(At:An.map Ad=Bh)(Ax:Ao.map Ad=Bg)(Ay:Al.map cS=Bi)(hwoff:woff.map cI=xwoff)(a5:Hz (⟨Aj,An,Ao,Al,As,Aq⟩:Aa))(hst:Al.length<800000000)(hw:Sq k (⟨wver,wstr,wrol,wbas,wlin,woff,wend,wope,wcod⟩:Ac))(hk:k≤1000000)(hr:Ah (⟨Aj,An,Ao,Al,As,Aq⟩:Aa) (⟨wver,wstr,wrol,wbas,wlin,woff,wend,wope,wcod⟩:Ac) record=(⟨F2,Fy,F3,Fz,G8,G9⟩,⟨obver,obstr,obrol,obbas,oblin,oboff,obend,obope,obcod⟩,oc))(A7:F2.map A5=Co)(A9:Fy.map Ad=Cn)(A8:F3.map Ad=Cm)(Ba:Fz.map cS=Cp)(hoboff:oboff.map cI=xoboff):Fn Tryz.prog 64 [.agg [.d (.row 3 Bk),.d (.row 2 Bh),.d (.row 2 Bg),.d (.row 1 Bi),I As,I Aq],.agg [I wver,I wstr,I wrol,I wbas,I wlin,.d (.row 1 xwoff),I wend,B wope,I wcod],S record] [] ⟨.tup [.agg [.d (.row 3 Co),.d (.row 2 Cn),.d (.row 2 Cm),.d (.row 1 Cp),I G8,I G9],.agg [I obver,I obstr,I obrol,I obbas,I oblin,.d (.row 1 xoboff),I obend,B obope,I obcod],I oc],[],[]⟩:=by
 refine Fn.go XfT Tryz.func64 fun P hP Q hQ=>?_
 conv=>cbv
 have d7:Aj.length≤1000000000:=a5.1.1
 have d8:An.length≤1000000000:=a5.1.2.2.1
 have d9:Ao.length≤1000000000:=a5.1.2.2.2.2.1
 have dx:=Xe2 hw hk
 simp only[]at dx
 have h_hb_:=hw
 obtain⟨hb_1,hb_2,hb_3,hb_4,-⟩:=h_hb_
 try (simp only[]at hb_1 hb_2 hb_3 hb_4)
 refine .dd hP (Ve Av At Ax Ay (by omega) (by omega) (by omega) (by omega)) ?_
 conv=>cbv
 cases wope
 refine .dd hP (Vl hwoff (by omega)) ?_
 conv=>cbv
 refine .go fun v3 ea=>?_
 conv=>cbv
 refine .gtr (fun h4=>?_) fun h4=>?_
 conv=>cbv
 have e:((⟨Aj,An,Ao,Al,As,Aq⟩:Aa),(⟨wver,wstr,wrol,wbas,wlin,woff,wend,false,wcod⟩:Ac),1)=Ah (⟨Aj,An,Ao,Al,As,Aq⟩:Aa) (⟨wver,wstr,wrol,wbas,wlin,woff,wend,false,wcod⟩:Ac) record:=(by first|(exfalso;omega)|(unfold Ah;rw[if_pos (by omega)];done)|(unfold Ah;rw[if_neg (by omega),if_pos (by first|omega|(dsimp only;omega))];done)|(have hz:=A3 (r:=record) (by omega) (by first|omega|(dsimp only;omega)) hA hB hC;exact hz)|(have hz:=Cw (r:=record) (by omega) (by first|omega|(dsimp only;omega)) hA hB (by first|omega|(dsimp only;omega));exact hz)|(have hz:=C2 (r:=record) (by omega) (by first|omega|(dsimp only;omega)) hA (by first|omega|(dsimp only;omega));exact hz)|(have hz:=A3 (r:=record) (by omega) (by first|omega|(dsimp only;omega)) hA hB hC;obtain rfl:wcod=0:=(by omega);exact hz)|(have hz:=A3 (r:=record) (by omega) (by first|omega|(dsimp only;omega)) hA hB hC;obtain rfl:lwcod=0:=(by omega);exact hz))
 rw[hr]at e
 simp only[Prod.mk.injEq,Aa.mk.injEq,Ac.mk.injEq]at e
 obtain⟨⟨rfl,rfl,rfl,rfl,rfl,rfl⟩,⟨rfl,rfl,rfl,rfl,rfl,rfl,rfl,rfl,rfl⟩,rfl⟩:=e
 refine hQ _ _ ?_
 exact .many (.inl rfl) rfl rfl (.agg (.d rfl (Aw Av A7) (.d rfl (Aw At A9) (.d rfl (Aw Ax A8) (.d rfl (Aw Ay Ba) (.d rfl rfl (.d rfl rfl (.nil))))))) (.agg (.d rfl rfl (.d rfl rfl (.d rfl rfl (.d rfl rfl (.d rfl rfl (.d rfl (Aw hwoff hoboff) (.d rfl rfl (.d rfl rfl (.d rfl rfl (.nil)))))))))) (.d rfl rfl (.nil))))
 conv=>cbv
 refine .neq (fun h5=>?_) fun h5=>?_
 conv=>cbv
 have e:((⟨Aj,An,Ao,Al,As,Aq⟩:Aa),(⟨wver,wstr,wrol,wbas,wlin,woff,wend,false,wcod⟩:Ac),wcod)=Ah (⟨Aj,An,Ao,Al,As,Aq⟩:Aa) (⟨wver,wstr,wrol,wbas,wlin,woff,wend,false,wcod⟩:Ac) record:=(by first|(exfalso;omega)|(unfold Ah;rw[if_pos (by omega)];done)|(unfold Ah;rw[if_neg (by omega),if_pos (by first|omega|(dsimp only;omega))];done)|(have hz:=A3 (r:=record) (by omega) (by first|omega|(dsimp only;omega)) hA hB hC;exact hz)|(have hz:=Cw (r:=record) (by omega) (by first|omega|(dsimp only;omega)) hA hB (by first|omega|(dsimp only;omega));exact hz)|(have hz:=C2 (r:=record) (by omega) (by first|omega|(dsimp only;omega)) hA (by first|omega|(dsimp only;omega));exact hz)|(have hz:=A3 (r:=record) (by omega) (by first|omega|(dsimp only;omega)) hA hB hC;obtain rfl:wcod=0:=(by omega);exact hz)|(have hz:=A3 (r:=record) (by omega) (by first|omega|(dsimp only;omega)) hA hB hC;obtain rfl:lwcod=0:=(by omega);exact hz))
 rw[hr]at e
 simp only[Prod.mk.injEq,Aa.mk.injEq,Ac.mk.injEq]at e
 obtain⟨⟨rfl,rfl,rfl,rfl,rfl,rfl⟩,⟨rfl,rfl,rfl,rfl,rfl,rfl,rfl,rfl,rfl⟩,rfl⟩:=e
 refine hQ _ _ ?_
 exact .many (.inl rfl) rfl rfl (.agg (.d rfl (Aw Av A7) (.d rfl (Aw At A9) (.d rfl (Aw Ax A8) (.d rfl (Aw Ay Ba) (.d rfl rfl (.d rfl rfl (.nil))))))) (.agg (.d rfl rfl (.d rfl rfl (.d rfl rfl (.d rfl rfl (.d rfl rfl (.d rfl (Aw hwoff hoboff) (.d rfl rfl (.d rfl rfl (.d rfl rfl (.nil)))))))))) (.d rfl rfl (.nil))))
 conv=>cbv
 refine .eql (fun h6=>?_) fun h6=>?_
 conv=>cbv
 have hA:Tw (⟨Aj,An,Ao,Al,As,Aq⟩:Aa) (⟨wver,wstr,wrol,wbas,wlin,woff,wend,false,wcod⟩:Ac)=((⟨Aj,An,Ao,Al,As,Aq⟩:Aa),(⟨wver,wstr,wrol,wbas,wlin,woff,wend,false,wcod⟩:Ac)):=by unfold Tw;rw[if_neg (by first|(simp;done)|(exfalso;omega)|(simp;omega))]
 by_cases hbc:Xf (⟨Aj,An,Ao,Al,As,Aq⟩:Aa) (⟨wver,wstr,wrol,wbas,wlin,woff,wend,false,wcod⟩:Ac)=0
 have hgB:=Tg (d:=(⟨Aj,An,Ao,Al,As,Aq⟩:Aa)) (w:=(⟨wver,wstr,wrol,wbas,wlin,woff,wend,false,wcod⟩:Ac)) a5 (by first|omega|(dsimp only;omega))
 have hwB:=Td (d:=(⟨Aj,An,Ao,Al,As,Aq⟩:Aa)) (w:=(⟨wver,wstr,wrol,wbas,wlin,woff,wend,false,wcod⟩:Ac)) hw
 unfold XdF at hwB
 rw[if_pos hbc]at hwB
 have hB:appB ((⟨Aj,An,Ao,Al,As,Aq⟩:Aa),(⟨wver,wstr,wrol,wbas,wlin,woff,wend,false,wcod⟩:Ac))=(T4 (⟨Aj,An,Ao,Al,As,Aq⟩:Aa) (⟨wver,wstr,wrol,wbas,wlin,woff,wend,false,wcod⟩:Ac),(⟨wver,wstr,wrol,wbas,wlin,[],24,true,wcod⟩:Ac)):=by unfold appB;rw[if_pos ⟨by dsimp only;omega,rfl⟩];unfold XdF;rw[if_pos hbc]
 rcases hbd:T4 (⟨Aj,An,Ao,Al,As,Aq⟩:Aa) (⟨wver,wstr,wrol,wbas,wlin,woff,wend,false,wcod⟩:Ac)with⟨bdnod,bdent,bdold,bdste,bdroo,bdnex⟩
 generalize hbdnod:bdnod.map A5=xbdnod
 generalize hbdent:bdent.map Ad=xbdent
 generalize hbdold:bdold.map Ad=xbdold
 generalize hbdste:bdste.map cS=xbdste
 rw[hbd]at hgB hB
 have hsB:=hgB.2
 simp only[]at hsB hwB
 obtain⟨hc_1,hc_2,hc_3,hc_4,-⟩:=id hwB
 try (simp only[]at hc_1 hc_2 hc_3 hc_4)
 refine .ddN hP (Uu Av At Ax Ay hwoff a5 (by first|omega|(dsimp only;omega)) hw hk hbc hbd hbdnod hbdent hbdold hbdste) rfl ?_
 conv=>cbv
 refine .neq (fun h8=>?_) fun h8=>?_
 conv=>cbv
 have e:((⟨bdnod,bdent,bdold,bdste,bdroo,bdnex⟩:Aa),(⟨wver,wstr,wrol,wbas,wlin,([]:List Int),24,true,wcod⟩:Ac),wcod)=Ah (⟨Aj,An,Ao,Al,As,Aq⟩:Aa) (⟨wver,wstr,wrol,wbas,wlin,woff,wend,false,wcod⟩:Ac) record:=(by first|(exfalso;omega)|(unfold Ah;rw[if_pos (by omega)];done)|(unfold Ah;rw[if_neg (by omega),if_pos (by first|omega|(dsimp only;omega))];done)|(have hz:=A3 (r:=record) (by omega) (by first|omega|(dsimp only;omega)) hA hB hC;exact hz)|(have hz:=Cw (r:=record) (by omega) (by first|omega|(dsimp only;omega)) hA hB (by first|omega|(dsimp only;omega));exact hz)|(have hz:=C2 (r:=record) (by omega) (by first|omega|(dsimp only;omega)) hA (by first|omega|(dsimp only;omega));exact hz)|(have hz:=A3 (r:=record) (by omega) (by first|omega|(dsimp only;omega)) hA hB hC;obtain rfl:wcod=0:=(by omega);exact hz)|(have hz:=A3 (r:=record) (by omega) (by first|omega|(dsimp only;omega)) hA hB hC;obtain rfl:lwcod=0:=(by omega);exact hz))
 rw[hr]at e
 simp only[Prod.mk.injEq,Aa.mk.injEq,Ac.mk.injEq]at e
 obtain⟨⟨rfl,rfl,rfl,rfl,rfl,rfl⟩,⟨rfl,rfl,rfl,rfl,rfl,rfl,rfl,rfl,rfl⟩,rfl⟩:=e
 refine hQ _ _ ?_
 exact .many (.inl rfl) rfl rfl (.agg (.d rfl (Aw hbdnod A7) (.d rfl (Aw hbdent A9) (.d rfl (Aw hbdold A8) (.d rfl (Aw hbdste Ba) (.d rfl rfl (.d rfl rfl (.nil))))))) (.agg (.d rfl rfl (.d rfl rfl (.d rfl rfl (.d rfl rfl (.d rfl rfl (.ref rfl rfl (by rw[←hoboff];rfl) (.d rfl rfl (.d rfl rfl (.d rfl rfl (.nil)))))))))) (.d rfl rfl (.nil))))
 conv=>cbv
 refine .go fun v9 cm=>?_
 conv=>cbv
 refine .add fun de cf=>?_
 conv=>cbv
 generalize bn:Am wver de record=b8
 have zr11:=Bz bn
 refine .dd hP (Ds (by omega) bn) ?_
 conv=>cbv
 generalize bp:Af wbas=df
 refine .dd hP (B1 bp) ?_
 conv=>cbv
 rcases a4:Ai (⟨bdnod,bdent,bdold,bdste,bdroo,bdnex⟩:Aa) df b8 with⟨⟨ag,ah,ai,aj,ap,aq⟩,cg⟩
 generalize a6:ag.map A5=cn
 generalize a7:ah.map Ad=co
 generalize a8:ai.map Ad=cp
 generalize a9:aj.map cS=cq
 refine .dd hP (Dp hbdnod hbdent hbdold hbdste hgB.1.1.1 hgB.1.1.2.2.1 hgB.1.1.2.2.2.2.1 (by omega) hgB.1.2.2 hgB.1 (by omega) a4 a6 a7 a8 a9) ?_
 conv=>cbv
 refine .neq (fun h14=>?_) fun h14=>?_
 conv=>cbv
 have hlf:Js (⟨wver,wstr,wrol,wbas,wlin,([]:List Int),24,true,wcod⟩:Ac) record=b8:=by unfold Js;dsimp only;rw[←bn,cf,cm]<;>first|rfl|(congr 1;omega)|(congr 1;simp;omega)|(congr 1;simp)
 have hca:Ai (⟨bdnod,bdent,bdold,bdste,bdroo,bdnex⟩:Aa) (Af wbas) (Js (⟨wver,wstr,wrol,wbas,wlin,([]:List Int),24,true,wcod⟩:Ac) record)=((⟨ag,ah,ai,aj,ap,aq⟩:Aa),cg):=by rw[hlf,bp];exact a4
 have bo:Po (⟨bdnod,bdent,bdold,bdste,bdroo,bdnex⟩:Aa) (⟨wver,wstr,wrol,wbas,wlin,([]:List Int),24,true,wcod⟩:Ac) record=2:=by unfold Po;dsimp only;rw[hca];exact if_pos h14
 have hC:Mb ((⟨bdnod,bdent,bdold,bdste,bdroo,bdnex⟩:Aa),(⟨wver,wstr,wrol,wbas,wlin,([]:List Int),24,true,wcod⟩:Ac)) record=((⟨ag,ah,ai,aj,ap,aq⟩:Aa),(⟨wver,wstr,wrol,wbas,wlin,([]:List Int),24,true,2⟩:Ac)):=by unfold Mb;rw[if_pos (by first|omega|(dsimp only;omega))];unfold Zt Z9;rw[bo,if_neg (by decide)];dsimp only;rw[hca]
 have e:((⟨ag,ah,ai,aj,ap,aq⟩:Aa),(⟨wver,wstr,wrol,wbas,wlin,([]:List Int),24,true,2⟩:Ac),2)=Ah (⟨Aj,An,Ao,Al,As,Aq⟩:Aa) (⟨wver,wstr,wrol,wbas,wlin,woff,wend,false,wcod⟩:Ac) record:=(by first|(exfalso;omega)|(unfold Ah;rw[if_pos (by omega)];done)|(unfold Ah;rw[if_neg (by omega),if_pos (by first|omega|(dsimp only;omega))];done)|(have hz:=A3 (r:=record) (by omega) (by first|omega|(dsimp only;omega)) hA hB hC;exact hz)|(have hz:=Cw (r:=record) (by omega) (by first|omega|(dsimp only;omega)) hA hB (by first|omega|(dsimp only;omega));exact hz)|(have hz:=C2 (r:=record) (by omega) (by first|omega|(dsimp only;omega)) hA (by first|omega|(dsimp only;omega));exact hz)|(have hz:=A3 (r:=record) (by omega) (by first|omega|(dsimp only;omega)) hA hB hC;obtain rfl:wcod=0:=(by omega);exact hz)|(have hz:=A3 (r:=record) (by omega) (by first|omega|(dsimp only;omega)) hA hB hC;obtain rfl:lwcod=0:=(by omega);exact hz))
 rw[hr]at e
 simp only[Prod.mk.injEq,Aa.mk.injEq,Ac.mk.injEq]at e
 obtain⟨⟨rfl,rfl,rfl,rfl,rfl,rfl⟩,⟨rfl,rfl,rfl,rfl,rfl,rfl,rfl,rfl,rfl⟩,rfl⟩:=e
 refine hQ _ _ ?_
 exact .many (.inl rfl) rfl rfl (.agg (.d rfl (Aw a6 A7) (.d rfl (Aw a7 A9) (.d rfl (Aw a8 A8) (.d rfl (Aw a9 Ba) (.d rfl rfl (.d rfl rfl (.nil))))))) (.agg (.d rfl rfl (.d rfl rfl (.d rfl rfl (.d rfl rfl (.d rfl rfl (.ref rfl rfl (by rw[←hoboff];rfl) (.d rfl rfl (.d rfl rfl (.d rfl rfl (.nil)))))))))) (.d rfl rfl (.nil))))
 conv=>cbv
 refine .one (24:Int) (show([]:List Int).map cI=[]from rfl) rfl (hl:=rfl) fun d5 eb dy db=>?_
 conv=>cbv
 refine .go fun ec dn=>?_
 conv=>cbv
 refine .add fun dp dq=>?_
 conv=>cbv
 have hlf:Js (⟨wver,wstr,wrol,wbas,wlin,([]:List Int),24,true,wcod⟩:Ac) record=b8:=by unfold Js;dsimp only;rw[←bn,cf,cm]<;>first|rfl|(congr 1;omega)|(congr 1;simp;omega)|(congr 1;simp)
 have hca:Ai (⟨bdnod,bdent,bdold,bdste,bdroo,bdnex⟩:Aa) (Af wbas) (Js (⟨wver,wstr,wrol,wbas,wlin,([]:List Int),24,true,wcod⟩:Ac) record)=((⟨ag,ah,ai,aj,ap,aq⟩:Aa),cg):=by rw[hlf,bp];exact a4
 have cd:Po (⟨bdnod,bdent,bdold,bdste,bdroo,bdnex⟩:Aa) (⟨wver,wstr,wrol,wbas,wlin,([]:List Int),24,true,wcod⟩:Ac) record=0:=by unfold Po;dsimp only;rw[hca];exact if_neg (by first|omega|(dsimp only;omega))
 have hC:Mb ((⟨bdnod,bdent,bdold,bdste,bdroo,bdnex⟩:Aa),(⟨wver,wstr,wrol,wbas,wlin,([]:List Int),24,true,wcod⟩:Ac)) record=((⟨ag,ah,ai,aj,ap,aq⟩:Aa),(⟨wver,wstr,wrol,wbas,wlin,([]:List Int)++[24],dp,true,wcod⟩:Ac)):=by unfold Mb;rw[if_pos (by first|omega|(dsimp only;omega))];unfold Zt Z9;rw[cd,if_pos rfl];dsimp only;rw[hca,hlf,dq,dn]
 have e:((⟨ag,ah,ai,aj,ap,aq⟩:Aa),(⟨wver,wstr,wrol,wbas,wlin,(([]:List Int)++[24]),dp,true,wcod⟩:Ac),0)=Ah (⟨Aj,An,Ao,Al,As,Aq⟩:Aa) (⟨wver,wstr,wrol,wbas,wlin,woff,wend,false,wcod⟩:Ac) record:=(by first|(exfalso;omega)|(unfold Ah;rw[if_pos (by omega)];done)|(unfold Ah;rw[if_neg (by omega),if_pos (by first|omega|(dsimp only;omega))];done)|(have hz:=A3 (r:=record) (by omega) (by first|omega|(dsimp only;omega)) hA hB hC;exact hz)|(have hz:=Cw (r:=record) (by omega) (by first|omega|(dsimp only;omega)) hA hB (by first|omega|(dsimp only;omega));exact hz)|(have hz:=C2 (r:=record) (by omega) (by first|omega|(dsimp only;omega)) hA (by first|omega|(dsimp only;omega));exact hz)|(have hz:=A3 (r:=record) (by omega) (by first|omega|(dsimp only;omega)) hA hB hC;obtain rfl:wcod=0:=(by omega);exact hz)|(have hz:=A3 (r:=record) (by omega) (by first|omega|(dsimp only;omega)) hA hB hC;obtain rfl:lwcod=0:=(by omega);exact hz))
 rw[hr]at e
 simp only[Prod.mk.injEq,Aa.mk.injEq,Ac.mk.injEq]at e
 obtain⟨⟨rfl,rfl,rfl,rfl,rfl,rfl⟩,⟨rfl,rfl,rfl,rfl,rfl,rfl,rfl,rfl,rfl⟩,rfl⟩:=e
 refine hQ _ _ ?_
 exact .many (.inl rfl) rfl rfl (.agg (.d rfl (Aw a6 A7) (.d rfl (Aw a7 A9) (.d rfl (Aw a8 A8) (.d rfl (Aw a9 Ba) (.d rfl rfl (.d rfl rfl (.nil))))))) (.agg (.d rfl rfl (.d rfl rfl (.d rfl rfl (.d rfl rfl (.d rfl rfl (.ref rfl (Ae db) (Cz db hoboff) (.d rfl rfl (.d rfl rfl (.d rfl rfl (.nil)))))))))) (.d rfl rfl (.nil))))
 obtain⟨bc,hbe⟩:∃c,Xf (⟨Aj,An,Ao,Al,As,Aq⟩:Aa) (⟨wver,wstr,wrol,wbas,wlin,woff,wend,false,wcod⟩:Ac)=c:=⟨_,rfl⟩
 rw[hbe]at hbc
 have hB:appB ((⟨Aj,An,Ao,Al,As,Aq⟩:Aa),(⟨wver,wstr,wrol,wbas,wlin,woff,wend,false,wcod⟩:Ac))=(T4 (⟨Aj,An,Ao,Al,As,Aq⟩:Aa) (⟨wver,wstr,wrol,wbas,wlin,woff,wend,false,wcod⟩:Ac),(⟨wver,wstr,wrol,wbas,wlin,woff,wend,false,bc⟩:Ac)):=by unfold appB;rw[if_pos ⟨by dsimp only;omega,rfl⟩];unfold XdF;rw[hbe,if_neg hbc]
 have hgB:=Tg (d:=(⟨Aj,An,Ao,Al,As,Aq⟩:Aa)) (w:=(⟨wver,wstr,wrol,wbas,wlin,woff,wend,false,wcod⟩:Ac)) a5 (by first|omega|(dsimp only;omega))
 have hwB:=Td (d:=(⟨Aj,An,Ao,Al,As,Aq⟩:Aa)) (w:=(⟨wver,wstr,wrol,wbas,wlin,woff,wend,false,wcod⟩:Ac)) hw
 unfold XdF at hwB
 rw[hbe,if_neg hbc]at hwB
 rcases hbd:T4 (⟨Aj,An,Ao,Al,As,Aq⟩:Aa) (⟨wver,wstr,wrol,wbas,wlin,woff,wend,false,wcod⟩:Ac)with⟨bdnod,bdent,bdold,bdste,bdroo,bdnex⟩
 generalize hbdnod:bdnod.map A5=xbdnod
 generalize hbdent:bdent.map Ad=xbdent
 generalize hbdold:bdold.map Ad=xbdold
 generalize hbdste:bdste.map cS=xbdste
 rw[hbd]at hgB hB
 have hsB:=hgB.2
 simp only[]at hsB hwB
 refine .dd hP (Vg Av At Ax Ay hwoff a5 (by first|omega|(dsimp only;omega)) hw hk hbe hbc hbd hbdnod hbdent hbdold hbdste) ?_
 conv=>cbv
 refine .neq (fun h8=>?_) fun h8=>?_
 conv=>cbv
 have e:((⟨bdnod,bdent,bdold,bdste,bdroo,bdnex⟩:Aa),(⟨wver,wstr,wrol,wbas,wlin,woff,wend,false,bc⟩:Ac),bc)=Ah (⟨Aj,An,Ao,Al,As,Aq⟩:Aa) (⟨wver,wstr,wrol,wbas,wlin,woff,wend,false,wcod⟩:Ac) record:=(by first|(exfalso;omega)|(unfold Ah;rw[if_pos (by omega)];done)|(unfold Ah;rw[if_neg (by omega),if_pos (by first|omega|(dsimp only;omega))];done)|(have hz:=A3 (r:=record) (by omega) (by first|omega|(dsimp only;omega)) hA hB hC;exact hz)|(have hz:=Cw (r:=record) (by omega) (by first|omega|(dsimp only;omega)) hA hB (by first|omega|(dsimp only;omega));exact hz)|(have hz:=C2 (r:=record) (by omega) (by first|omega|(dsimp only;omega)) hA (by first|omega|(dsimp only;omega));exact hz)|(have hz:=A3 (r:=record) (by omega) (by first|omega|(dsimp only;omega)) hA hB hC;obtain rfl:wcod=0:=(by omega);exact hz)|(have hz:=A3 (r:=record) (by omega) (by first|omega|(dsimp only;omega)) hA hB hC;obtain rfl:lwcod=0:=(by omega);exact hz))
 rw[hr]at e
 simp only[Prod.mk.injEq,Aa.mk.injEq,Ac.mk.injEq]at e
 obtain⟨⟨rfl,rfl,rfl,rfl,rfl,rfl⟩,⟨rfl,rfl,rfl,rfl,rfl,rfl,rfl,rfl,rfl⟩,rfl⟩:=e
 refine hQ _ _ ?_
 exact .many (.inl rfl) rfl rfl (.agg (.d rfl (Aw hbdnod A7) (.d rfl (Aw hbdent A9) (.d rfl (Aw hbdold A8) (.d rfl (Aw hbdste Ba) (.d rfl rfl (.d rfl rfl (.nil))))))) (.agg (.d rfl rfl (.d rfl rfl (.d rfl rfl (.d rfl rfl (.d rfl rfl (.d rfl (Aw hwoff hoboff) (.d rfl rfl (.d rfl rfl (.d rfl rfl (.nil)))))))))) (.d rfl rfl (.nil))))
 conv=>cbv
 refine .go hwoff fun v9 cm=>?_
 conv=>cbv
 refine .add fun de cf=>?_
 conv=>cbv
 generalize bn:Am wver de record=b8
 have zr11:=Bz bn
 refine .dd hP (Ds (by omega) bn) ?_
 conv=>cbv
 generalize bp:Af wbas=df
 refine .dd hP (B1 bp) ?_
 conv=>cbv
 rcases a4:Ai (⟨bdnod,bdent,bdold,bdste,bdroo,bdnex⟩:Aa) df b8 with⟨⟨ag,ah,ai,aj,ap,aq⟩,cg⟩
 generalize a6:ag.map A5=cn
 generalize a7:ah.map Ad=co
 generalize a8:ai.map Ad=cp
 generalize a9:aj.map cS=cq
 refine .dd hP (Dp hbdnod hbdent hbdold hbdste hgB.1.1.1 hgB.1.1.2.2.1 hgB.1.1.2.2.2.2.1 (by omega) hgB.1.2.2 hgB.1 (by omega) a4 a6 a7 a8 a9) ?_
 conv=>cbv
 refine .neq (fun h14=>?_) fun h14=>?_
 conv=>cbv
 have hlf:Js (⟨wver,wstr,wrol,wbas,wlin,woff,wend,false,bc⟩:Ac) record=b8:=by unfold Js;dsimp only;rw[←bn,cf,cm]<;>first|rfl|(congr 1;omega)|(congr 1;simp;omega)|(congr 1;simp)
 have hca:Ai (⟨bdnod,bdent,bdold,bdste,bdroo,bdnex⟩:Aa) (Af wbas) (Js (⟨wver,wstr,wrol,wbas,wlin,woff,wend,false,bc⟩:Ac) record)=((⟨ag,ah,ai,aj,ap,aq⟩:Aa),cg):=by rw[hlf,bp];exact a4
 have bo:Po (⟨bdnod,bdent,bdold,bdste,bdroo,bdnex⟩:Aa) (⟨wver,wstr,wrol,wbas,wlin,woff,wend,false,bc⟩:Ac) record=2:=by unfold Po;dsimp only;rw[hca];exact if_pos h14
 have hC:Mb ((⟨bdnod,bdent,bdold,bdste,bdroo,bdnex⟩:Aa),(⟨wver,wstr,wrol,wbas,wlin,woff,wend,false,bc⟩:Ac)) record=((⟨ag,ah,ai,aj,ap,aq⟩:Aa),(⟨wver,wstr,wrol,wbas,wlin,woff,wend,false,2⟩:Ac)):=by unfold Mb;rw[if_pos (by first|omega|(dsimp only;omega))];unfold Zt Z9;rw[bo,if_neg (by decide)];dsimp only;rw[hca]
 have e:((⟨ag,ah,ai,aj,ap,aq⟩:Aa),(⟨wver,wstr,wrol,wbas,wlin,woff,wend,false,2⟩:Ac),2)=Ah (⟨Aj,An,Ao,Al,As,Aq⟩:Aa) (⟨wver,wstr,wrol,wbas,wlin,woff,wend,false,wcod⟩:Ac) record:=(by first|(exfalso;omega)|(unfold Ah;rw[if_pos (by omega)];done)|(unfold Ah;rw[if_neg (by omega),if_pos (by first|omega|(dsimp only;omega))];done)|(have hz:=A3 (r:=record) (by omega) (by first|omega|(dsimp only;omega)) hA hB hC;exact hz)|(have hz:=Cw (r:=record) (by omega) (by first|omega|(dsimp only;omega)) hA hB (by first|omega|(dsimp only;omega));exact hz)|(have hz:=C2 (r:=record) (by omega) (by first|omega|(dsimp only;omega)) hA (by first|omega|(dsimp only;omega));exact hz)|(have hz:=A3 (r:=record) (by omega) (by first|omega|(dsimp only;omega)) hA hB hC;obtain rfl:wcod=0:=(by omega);exact hz)|(have hz:=A3 (r:=record) (by omega) (by first|omega|(dsimp only;omega)) hA hB hC;obtain rfl:lwcod=0:=(by omega);exact hz))
 rw[hr]at e
 simp only[Prod.mk.injEq,Aa.mk.injEq,Ac.mk.injEq]at e
 obtain⟨⟨rfl,rfl,rfl,rfl,rfl,rfl⟩,⟨rfl,rfl,rfl,rfl,rfl,rfl,rfl,rfl,rfl⟩,rfl⟩:=e
 refine hQ _ _ ?_
 exact .many (.inl rfl) rfl rfl (.agg (.d rfl (Aw a6 A7) (.d rfl (Aw a7 A9) (.d rfl (Aw a8 A8) (.d rfl (Aw a9 Ba) (.d rfl rfl (.d rfl rfl (.nil))))))) (.agg (.d rfl rfl (.d rfl rfl (.d rfl rfl (.d rfl rfl (.d rfl rfl (.d rfl (Aw hwoff hoboff) (.d rfl rfl (.d rfl rfl (.d rfl rfl (.nil)))))))))) (.d rfl rfl (.nil))))
 conv=>cbv
 first|(exfalso;omega)|exact absurd (hopA (by omega)) (by decide)
 conv=>cbv
 refine .neq (fun h7=>?_) fun h7=>?_
 conv=>cbv
 have e:((⟨Aj,An,Ao,Al,As,Aq⟩:Aa),(⟨wver,wstr,wrol,wbas,wlin,woff,wend,false,wcod⟩:Ac),wcod)=Ah (⟨Aj,An,Ao,Al,As,Aq⟩:Aa) (⟨wver,wstr,wrol,wbas,wlin,woff,wend,false,wcod⟩:Ac) record:=(by first|(exfalso;omega)|(unfold Ah;rw[if_pos (by omega)];done)|(unfold Ah;rw[if_neg (by omega),if_pos (by first|omega|(dsimp only;omega))];done)|(have hz:=A3 (r:=record) (by omega) (by first|omega|(dsimp only;omega)) hA hB hC;exact hz)|(have hz:=Cw (r:=record) (by omega) (by first|omega|(dsimp only;omega)) hA hB (by first|omega|(dsimp only;omega));exact hz)|(have hz:=C2 (r:=record) (by omega) (by first|omega|(dsimp only;omega)) hA (by first|omega|(dsimp only;omega));exact hz)|(have hz:=A3 (r:=record) (by omega) (by first|omega|(dsimp only;omega)) hA hB hC;obtain rfl:wcod=0:=(by omega);exact hz)|(have hz:=A3 (r:=record) (by omega) (by first|omega|(dsimp only;omega)) hA hB hC;obtain rfl:lwcod=0:=(by omega);exact hz))
 rw[hr]at e
 simp only[Prod.mk.injEq,Aa.mk.injEq,Ac.mk.injEq]at e
 obtain⟨⟨rfl,rfl,rfl,rfl,rfl,rfl⟩,⟨rfl,rfl,rfl,rfl,rfl,rfl,rfl,rfl,rfl⟩,rfl⟩:=e
 refine hQ _ _ ?_
 exact .many (.inl rfl) rfl rfl (.agg (.d rfl (Aw Av A7) (.d rfl (Aw At A9) (.d rfl (Aw Ax A8) (.d rfl (Aw Ay Ba) (.d rfl rfl (.d rfl rfl (.nil))))))) (.agg (.d rfl rfl (.d rfl rfl (.d rfl rfl (.d rfl rfl (.d rfl rfl (.d rfl (Aw hwoff hoboff) (.d rfl rfl (.d rfl rfl (.d rfl rfl (.nil)))))))))) (.d rfl rfl (.nil))))
 conv=>cbv
 refine .go hwoff fun v8 dz=>?_
 conv=>cbv
 refine .add fun v9 cm=>?_
 conv=>cbv
 generalize c4:Am wver v9 record=dr
 have zr10:=Bz c4
 refine .dd hP (Ds (by omega) c4) ?_
 conv=>cbv
 generalize bn:Af wbas=b8
 refine .dd hP (B1 bn) ?_
 conv=>cbv
 have hA:Tw (⟨Aj,An,Ao,Al,As,Aq⟩:Aa) (⟨wver,wstr,wrol,wbas,wlin,woff,wend,false,wcod⟩:Ac)=((⟨Aj,An,Ao,Al,As,Aq⟩:Aa),(⟨wver,wstr,wrol,wbas,wlin,woff,wend,false,wcod⟩:Ac)):=by unfold Tw;rw[if_neg (by first|(simp;done)|(exfalso;omega)|(simp;omega))]
 have hB:appB ((⟨Aj,An,Ao,Al,As,Aq⟩:Aa),(⟨wver,wstr,wrol,wbas,wlin,woff,wend,false,wcod⟩:Ac))=((⟨Aj,An,Ao,Al,As,Aq⟩:Aa),(⟨wver,wstr,wrol,wbas,wlin,woff,wend,false,wcod⟩:Ac)):=by unfold appB;rw[if_neg (by first|(simp;done)|(exfalso;omega)|(simp;omega))]
 rcases bp:Ai (⟨Aj,An,Ao,Al,As,Aq⟩:Aa) b8 dr with⟨⟨bq,bs,bt,bu,bz,b0⟩,ds⟩
 generalize b2:bq.map A5=dj
 generalize b3:bs.map Ad=dk
 generalize b4:bt.map Ad=dl
 generalize b5:bu.map cS=dm
 refine .dd hP (Dp Av At Ax Ay a5.1.1 a5.1.2.2.1 a5.1.2.2.2.2.1 (by omega) a5.2.2 a5 (by omega) bp b2 b3 b4 b5) ?_
 conv=>cbv
 refine .neq (fun h13=>?_) fun h13=>?_
 conv=>cbv
 have hlf:Js (⟨wver,wstr,wrol,wbas,wlin,woff,wend,false,wcod⟩:Ac) record=dr:=by unfold Js;dsimp only;rw[←c4,cm,dz]<;>first|rfl|(congr 1;omega)|(congr 1;simp;omega)|(congr 1;simp)
 have hca:Ai (⟨Aj,An,Ao,Al,As,Aq⟩:Aa) (Af wbas) (Js (⟨wver,wstr,wrol,wbas,wlin,woff,wend,false,wcod⟩:Ac) record)=((⟨bq,bs,bt,bu,bz,b0⟩:Aa),ds):=by rw[hlf,bn];exact bp
 have bo:Po (⟨Aj,An,Ao,Al,As,Aq⟩:Aa) (⟨wver,wstr,wrol,wbas,wlin,woff,wend,false,wcod⟩:Ac) record=2:=by unfold Po;dsimp only;rw[hca];exact if_pos h13
 have hC:Mb ((⟨Aj,An,Ao,Al,As,Aq⟩:Aa),(⟨wver,wstr,wrol,wbas,wlin,woff,wend,false,wcod⟩:Ac)) record=((⟨bq,bs,bt,bu,bz,b0⟩:Aa),(⟨wver,wstr,wrol,wbas,wlin,woff,wend,false,2⟩:Ac)):=by unfold Mb;rw[if_pos (by first|omega|(dsimp only;omega))];unfold Zt Z9;rw[bo,if_neg (by decide)];dsimp only;rw[hca]
 have e:((⟨bq,bs,bt,bu,bz,b0⟩:Aa),(⟨wver,wstr,wrol,wbas,wlin,woff,wend,false,2⟩:Ac),2)=Ah (⟨Aj,An,Ao,Al,As,Aq⟩:Aa) (⟨wver,wstr,wrol,wbas,wlin,woff,wend,false,wcod⟩:Ac) record:=(by first|(exfalso;omega)|(unfold Ah;rw[if_pos (by omega)];done)|(unfold Ah;rw[if_neg (by omega),if_pos (by first|omega|(dsimp only;omega))];done)|(have hz:=A3 (r:=record) (by omega) (by first|omega|(dsimp only;omega)) hA hB hC;exact hz)|(have hz:=Cw (r:=record) (by omega) (by first|omega|(dsimp only;omega)) hA hB (by first|omega|(dsimp only;omega));exact hz)|(have hz:=C2 (r:=record) (by omega) (by first|omega|(dsimp only;omega)) hA (by first|omega|(dsimp only;omega));exact hz)|(have hz:=A3 (r:=record) (by omega) (by first|omega|(dsimp only;omega)) hA hB hC;obtain rfl:wcod=0:=(by omega);exact hz)|(have hz:=A3 (r:=record) (by omega) (by first|omega|(dsimp only;omega)) hA hB hC;obtain rfl:lwcod=0:=(by omega);exact hz))
 rw[hr]at e
 simp only[Prod.mk.injEq,Aa.mk.injEq,Ac.mk.injEq]at e
 obtain⟨⟨rfl,rfl,rfl,rfl,rfl,rfl⟩,⟨rfl,rfl,rfl,rfl,rfl,rfl,rfl,rfl,rfl⟩,rfl⟩:=e
 refine hQ _ _ ?_
 exact .many (.inl rfl) rfl rfl (.agg (.d rfl (Aw b2 A7) (.d rfl (Aw b3 A9) (.d rfl (Aw b4 A8) (.d rfl (Aw b5 Ba) (.d rfl rfl (.d rfl rfl (.nil))))))) (.agg (.d rfl rfl (.d rfl rfl (.d rfl rfl (.d rfl rfl (.d rfl rfl (.d rfl (Aw hwoff hoboff) (.d rfl rfl (.d rfl rfl (.d rfl rfl (.nil)))))))))) (.d rfl rfl (.nil))))
 conv=>cbv
 first|(exfalso;omega)|exact absurd (hopA (by omega)) (by decide)
 obtain⟨n3,d0⟩:∃m,m=woff.length:=⟨_,rfl⟩
 refine .ddN hP (XeO hwoff (by omega) d0) rfl ?_
 conv=>cbv
 refine .go fun v4 ed=>?_
 conv=>cbv
 refine .gtr (fun h5=>?_) fun h5=>?_
 conv=>cbv
 have e:((⟨Aj,An,Ao,Al,As,Aq⟩:Aa),(⟨wver,wstr,wrol,wbas,wlin,woff,wend,true,wcod⟩:Ac),1)=Ah (⟨Aj,An,Ao,Al,As,Aq⟩:Aa) (⟨wver,wstr,wrol,wbas,wlin,woff,wend,true,wcod⟩:Ac) record:=(by first|(exfalso;omega)|(unfold Ah;rw[if_pos (by omega)];done)|(unfold Ah;rw[if_neg (by omega),if_pos (by first|omega|(dsimp only;omega))];done)|(have hz:=A3 (r:=record) (by omega) (by first|omega|(dsimp only;omega)) hA hB hC;exact hz)|(have hz:=Cw (r:=record) (by omega) (by first|omega|(dsimp only;omega)) hA hB (by first|omega|(dsimp only;omega));exact hz)|(have hz:=C2 (r:=record) (by omega) (by first|omega|(dsimp only;omega)) hA (by first|omega|(dsimp only;omega));exact hz)|(have hz:=A3 (r:=record) (by omega) (by first|omega|(dsimp only;omega)) hA hB hC;obtain rfl:wcod=0:=(by omega);exact hz)|(have hz:=A3 (r:=record) (by omega) (by first|omega|(dsimp only;omega)) hA hB hC;obtain rfl:lwcod=0:=(by omega);exact hz))
 rw[hr]at e
 simp only[Prod.mk.injEq,Aa.mk.injEq,Ac.mk.injEq]at e
 obtain⟨⟨rfl,rfl,rfl,rfl,rfl,rfl⟩,⟨rfl,rfl,rfl,rfl,rfl,rfl,rfl,rfl,rfl⟩,rfl⟩:=e
 refine hQ _ _ ?_
 exact .many (.inl rfl) rfl rfl (.agg (.d rfl (Aw Av A7) (.d rfl (Aw At A9) (.d rfl (Aw Ax A8) (.d rfl (Aw Ay Ba) (.d rfl rfl (.d rfl rfl (.nil))))))) (.agg (.d rfl rfl (.d rfl rfl (.d rfl rfl (.d rfl rfl (.d rfl rfl (.ref rfl (Ae hwoff) (Cz hwoff hoboff) (.d rfl rfl (.d rfl rfl (.d rfl rfl (.nil)))))))))) (.d rfl rfl (.nil))))
 conv=>cbv
 refine .neq (fun h6=>?_) fun h6=>?_
 conv=>cbv
 have e:((⟨Aj,An,Ao,Al,As,Aq⟩:Aa),(⟨wver,wstr,wrol,wbas,wlin,woff,wend,true,wcod⟩:Ac),wcod)=Ah (⟨Aj,An,Ao,Al,As,Aq⟩:Aa) (⟨wver,wstr,wrol,wbas,wlin,woff,wend,true,wcod⟩:Ac) record:=(by first|(exfalso;omega)|(unfold Ah;rw[if_pos (by omega)];done)|(unfold Ah;rw[if_neg (by omega),if_pos (by first|omega|(dsimp only;omega))];done)|(have hz:=A3 (r:=record) (by omega) (by first|omega|(dsimp only;omega)) hA hB hC;exact hz)|(have hz:=Cw (r:=record) (by omega) (by first|omega|(dsimp only;omega)) hA hB (by first|omega|(dsimp only;omega));exact hz)|(have hz:=C2 (r:=record) (by omega) (by first|omega|(dsimp only;omega)) hA (by first|omega|(dsimp only;omega));exact hz)|(have hz:=A3 (r:=record) (by omega) (by first|omega|(dsimp only;omega)) hA hB hC;obtain rfl:wcod=0:=(by omega);exact hz)|(have hz:=A3 (r:=record) (by omega) (by first|omega|(dsimp only;omega)) hA hB hC;obtain rfl:lwcod=0:=(by omega);exact hz))
 rw[hr]at e
 simp only[Prod.mk.injEq,Aa.mk.injEq,Ac.mk.injEq]at e
 obtain⟨⟨rfl,rfl,rfl,rfl,rfl,rfl⟩,⟨rfl,rfl,rfl,rfl,rfl,rfl,rfl,rfl,rfl⟩,rfl⟩:=e
 refine hQ _ _ ?_
 exact .many (.inl rfl) rfl rfl (.agg (.d rfl (Aw Av A7) (.d rfl (Aw At A9) (.d rfl (Aw Ax A8) (.d rfl (Aw Ay Ba) (.d rfl rfl (.d rfl rfl (.nil))))))) (.agg (.d rfl rfl (.d rfl rfl (.d rfl rfl (.d rfl rfl (.d rfl rfl (.ref rfl (Ae hwoff) (Cz hwoff hoboff) (.d rfl rfl (.d rfl rfl (.d rfl rfl (.nil)))))))))) (.d rfl rfl (.nil))))
 conv=>cbv
 refine .go fun v7 ee=>?_
 conv=>cbv
 refine .geq (fun h8=>?_) fun h8=>?_
 conv=>cbv
 rcases hrl:Cx (⟨Aj,An,Ao,Al,As,Aq⟩:Aa) (⟨wver,wstr,wrol,wbas,wlin,woff,wend,true,wcod⟩:Ac)with⟨⟨rlnod,rlent,rlold,rlste,rlroo,rlnex⟩,⟨lwver,lwstr,lwrol,lwbas,lwlin,lwoff,lwend,lwope,lwcod⟩,rlc⟩
 obtain⟨hrA,hrB⟩:=XcR (d:=(⟨Aj,An,Ao,Al,As,Aq⟩:Aa)) (w:=(⟨wver,wstr,wrol,wbas,wlin,woff,wend,true,wcod⟩:Ac)) rfl (by first|omega|(dsimp only;omega)) hrl
 have hA:Tw (⟨Aj,An,Ao,Al,As,Aq⟩:Aa) (⟨wver,wstr,wrol,wbas,wlin,woff,wend,true,wcod⟩:Ac)=((⟨rlnod,rlent,rlold,rlste,rlroo,rlnex⟩:Aa),(⟨lwver,lwstr,lwrol,lwbas,lwlin,lwoff,lwend,lwope,lwcod⟩:Ac)):=by unfold Tw;rw[if_pos ⟨rfl,by dsimp only;omega⟩,hrA,hrB]
 have hgA:=We (d:=(⟨Aj,An,Ao,Al,As,Aq⟩:Aa)) (w:=(⟨wver,wstr,wrol,wbas,wlin,woff,wend,true,wcod⟩:Ac)) a5
 have hwA:=Xb3 (d:=(⟨Aj,An,Ao,Al,As,Aq⟩:Aa)) (w:=(⟨wver,wstr,wrol,wbas,wlin,woff,wend,true,wcod⟩:Ac)) hw
 have hopA:lwcod=0→lwope=false:=fun h=>by have:=XcK (d:=(⟨Aj,An,Ao,Al,As,Aq⟩:Aa)) (w:=(⟨wver,wstr,wrol,wbas,wlin,woff,wend,true,wcod⟩:Ac)) (by first|omega|(dsimp only;omega)) (by rw[hrB];exact h);rw[hrB]at this;exact this
 rw[hrA]at hgA
 rw[hrB]at hwA
 have hsA:=hgA.2
 simp only[]at hsA
 obtain⟨ha_1,ha_2,ha_3,ha_4,-⟩:=id hwA
 try (simp only[]at ha_1 ha_2 ha_3 ha_4)
 generalize hrlnod:rlnod.map A5=xrlnod
 generalize hrlent:rlent.map Ad=xrlent
 generalize hrlold:rlold.map Ad=xrlold
 generalize hrlste:rlste.map cS=xrlste
 generalize hlwoff:lwoff.map cI=xlwoff
 refine .lntD hP (Yv Av At Ax Ay hwoff a5 (by omega) hw hk hrl hrlnod hrlent hrlold hrlste hlwoff) (.agg (.d rfl (.d rfl (.d rfl (.d rfl (.d rfl (.d rfl .nil)))))) (.agg (.d rfl (.d rfl (.d rfl (.d rfl (.d rfl (.ref rfl (Ae hwoff) (.d rfl (.d rfl (.d rfl .nil))))))))) .nil)) ?_
 conv=>cbv
 refine .eql (fun h10=>?_) fun h10=>?_
 conv=>cbv
 cases lwope
 conv=>cbv
 by_cases hbc:Xf (⟨rlnod,rlent,rlold,rlste,rlroo,rlnex⟩:Aa) (⟨lwver,lwstr,lwrol,lwbas,lwlin,lwoff,lwend,false,lwcod⟩:Ac)=0
 have hgB:=Tg (d:=(⟨rlnod,rlent,rlold,rlste,rlroo,rlnex⟩:Aa)) (w:=(⟨lwver,lwstr,lwrol,lwbas,lwlin,lwoff,lwend,false,lwcod⟩:Ac)) hgA.1 (by first|omega|(dsimp only;omega))
 have hwB:=Td (d:=(⟨rlnod,rlent,rlold,rlste,rlroo,rlnex⟩:Aa)) (w:=(⟨lwver,lwstr,lwrol,lwbas,lwlin,lwoff,lwend,false,lwcod⟩:Ac)) hwA
 unfold XdF at hwB
 rw[if_pos hbc]at hwB
 have hB:appB ((⟨rlnod,rlent,rlold,rlste,rlroo,rlnex⟩:Aa),(⟨lwver,lwstr,lwrol,lwbas,lwlin,lwoff,lwend,false,lwcod⟩:Ac))=(T4 (⟨rlnod,rlent,rlold,rlste,rlroo,rlnex⟩:Aa) (⟨lwver,lwstr,lwrol,lwbas,lwlin,lwoff,lwend,false,lwcod⟩:Ac),(⟨lwver,lwstr,lwrol,lwbas,lwlin,[],24,true,lwcod⟩:Ac)):=by unfold appB;rw[if_pos ⟨by dsimp only;omega,rfl⟩];unfold XdF;rw[if_pos hbc]
 rcases hbd:T4 (⟨rlnod,rlent,rlold,rlste,rlroo,rlnex⟩:Aa) (⟨lwver,lwstr,lwrol,lwbas,lwlin,lwoff,lwend,false,lwcod⟩:Ac)with⟨bdnod,bdent,bdold,bdste,bdroo,bdnex⟩
 generalize hbdnod:bdnod.map A5=xbdnod
 generalize hbdent:bdent.map Ad=xbdent
 generalize hbdold:bdold.map Ad=xbdold
 generalize hbdste:bdste.map cS=xbdste
 rw[hbd]at hgB hB
 have hsB:=hgB.2
 simp only[]at hsB hwB
 obtain⟨hc_1,hc_2,hc_3,hc_4,-⟩:=id hwB
 try (simp only[]at hc_1 hc_2 hc_3 hc_4)
 refine .ddN hP (Uu hrlnod hrlent hrlold hrlste hlwoff hgA.1 (by first|omega|(dsimp only;omega)) hwA hk hbc hbd hbdnod hbdent hbdold hbdste) rfl ?_
 conv=>cbv
 refine .neq (fun h12=>?_) fun h12=>?_
 conv=>cbv
 have e:((⟨bdnod,bdent,bdold,bdste,bdroo,bdnex⟩:Aa),(⟨lwver,lwstr,lwrol,lwbas,lwlin,([]:List Int),24,true,lwcod⟩:Ac),lwcod)=Ah (⟨Aj,An,Ao,Al,As,Aq⟩:Aa) (⟨wver,wstr,wrol,wbas,wlin,woff,wend,true,wcod⟩:Ac) record:=(by first|(exfalso;omega)|(unfold Ah;rw[if_pos (by omega)];done)|(unfold Ah;rw[if_neg (by omega),if_pos (by first|omega|(dsimp only;omega))];done)|(have hz:=A3 (r:=record) (by omega) (by first|omega|(dsimp only;omega)) hA hB hC;exact hz)|(have hz:=Cw (r:=record) (by omega) (by first|omega|(dsimp only;omega)) hA hB (by first|omega|(dsimp only;omega));exact hz)|(have hz:=C2 (r:=record) (by omega) (by first|omega|(dsimp only;omega)) hA (by first|omega|(dsimp only;omega));exact hz)|(have hz:=A3 (r:=record) (by omega) (by first|omega|(dsimp only;omega)) hA hB hC;obtain rfl:wcod=0:=(by omega);exact hz)|(have hz:=A3 (r:=record) (by omega) (by first|omega|(dsimp only;omega)) hA hB hC;obtain rfl:lwcod=0:=(by omega);exact hz))
 rw[hr]at e
 simp only[Prod.mk.injEq,Aa.mk.injEq,Ac.mk.injEq]at e
 obtain⟨⟨rfl,rfl,rfl,rfl,rfl,rfl⟩,⟨rfl,rfl,rfl,rfl,rfl,rfl,rfl,rfl,rfl⟩,rfl⟩:=e
 refine hQ _ _ ?_
 exact .many (.inl rfl) rfl rfl (.agg (.d rfl (Aw hbdnod A7) (.d rfl (Aw hbdent A9) (.d rfl (Aw hbdold A8) (.d rfl (Aw hbdste Ba) (.d rfl rfl (.d rfl rfl (.nil))))))) (.agg (.d rfl rfl (.d rfl rfl (.d rfl rfl (.d rfl rfl (.d rfl rfl (.ref rfl rfl (by rw[←hoboff];rfl) (.d rfl rfl (.d rfl rfl (.d rfl rfl (.nil)))))))))) (.d rfl rfl (.nil))))
 conv=>cbv
 refine .go fun c5 bw=>?_
 conv=>cbv
 refine .add fun dg cj=>?_
 conv=>cbv
 generalize ao:Am lwver dg record=b1
 have zr15:=Bz ao
 refine .dd hP (Ds (by omega) ao) ?_
 conv=>cbv
 generalize bm:Af lwbas=dh
 refine .dd hP (B1 bm) ?_
 conv=>cbv
 rcases b6:Ai (⟨bdnod,bdent,bdold,bdste,bdroo,bdnex⟩:Aa) dh b1 with⟨⟨ak,al,am,an,ar,au⟩,ck⟩
 generalize ba:ak.map A5=cr
 generalize bb:al.map Ad=ct
 generalize bd:am.map Ad=cu
 generalize be:an.map cS=cv
 refine .dd hP (Dp hbdnod hbdent hbdold hbdste hgB.1.1.1 hgB.1.1.2.2.1 hgB.1.1.2.2.2.2.1 (by omega) hgB.1.2.2 hgB.1 (by omega) b6 ba bb bd be) ?_
 conv=>cbv
 refine .neq (fun h18=>?_) fun h18=>?_
 conv=>cbv
 have hlf:Js (⟨lwver,lwstr,lwrol,lwbas,lwlin,([]:List Int),24,true,lwcod⟩:Ac) record=b1:=by unfold Js;dsimp only;rw[←ao,cj,bw]<;>first|rfl|(congr 1;omega)|(congr 1;simp;omega)|(congr 1;simp)
 have hca:Ai (⟨bdnod,bdent,bdold,bdste,bdroo,bdnex⟩:Aa) (Af lwbas) (Js (⟨lwver,lwstr,lwrol,lwbas,lwlin,([]:List Int),24,true,lwcod⟩:Ac) record)=((⟨ak,al,am,an,ar,au⟩:Aa),ck):=by rw[hlf,bm];exact b6
 have bo:Po (⟨bdnod,bdent,bdold,bdste,bdroo,bdnex⟩:Aa) (⟨lwver,lwstr,lwrol,lwbas,lwlin,([]:List Int),24,true,lwcod⟩:Ac) record=2:=by unfold Po;dsimp only;rw[hca];exact if_pos h18
 have hC:Mb ((⟨bdnod,bdent,bdold,bdste,bdroo,bdnex⟩:Aa),(⟨lwver,lwstr,lwrol,lwbas,lwlin,([]:List Int),24,true,lwcod⟩:Ac)) record=((⟨ak,al,am,an,ar,au⟩:Aa),(⟨lwver,lwstr,lwrol,lwbas,lwlin,([]:List Int),24,true,2⟩:Ac)):=by unfold Mb;rw[if_pos (by first|omega|(dsimp only;omega))];unfold Zt Z9;rw[bo,if_neg (by decide)];dsimp only;rw[hca]
 have e:((⟨ak,al,am,an,ar,au⟩:Aa),(⟨lwver,lwstr,lwrol,lwbas,lwlin,([]:List Int),24,true,2⟩:Ac),2)=Ah (⟨Aj,An,Ao,Al,As,Aq⟩:Aa) (⟨wver,wstr,wrol,wbas,wlin,woff,wend,true,wcod⟩:Ac) record:=(by first|(exfalso;omega)|(unfold Ah;rw[if_pos (by omega)];done)|(unfold Ah;rw[if_neg (by omega),if_pos (by first|omega|(dsimp only;omega))];done)|(have hz:=A3 (r:=record) (by omega) (by first|omega|(dsimp only;omega)) hA hB hC;exact hz)|(have hz:=Cw (r:=record) (by omega) (by first|omega|(dsimp only;omega)) hA hB (by first|omega|(dsimp only;omega));exact hz)|(have hz:=C2 (r:=record) (by omega) (by first|omega|(dsimp only;omega)) hA (by first|omega|(dsimp only;omega));exact hz)|(have hz:=A3 (r:=record) (by omega) (by first|omega|(dsimp only;omega)) hA hB hC;obtain rfl:wcod=0:=(by omega);exact hz)|(have hz:=A3 (r:=record) (by omega) (by first|omega|(dsimp only;omega)) hA hB hC;obtain rfl:lwcod=0:=(by omega);exact hz))
 rw[hr]at e
 simp only[Prod.mk.injEq,Aa.mk.injEq,Ac.mk.injEq]at e
 obtain⟨⟨rfl,rfl,rfl,rfl,rfl,rfl⟩,⟨rfl,rfl,rfl,rfl,rfl,rfl,rfl,rfl,rfl⟩,rfl⟩:=e
 refine hQ _ _ ?_
 exact .many (.inl rfl) rfl rfl (.agg (.d rfl (Aw ba A7) (.d rfl (Aw bb A9) (.d rfl (Aw bd A8) (.d rfl (Aw be Ba) (.d rfl rfl (.d rfl rfl (.nil))))))) (.agg (.d rfl rfl (.d rfl rfl (.d rfl rfl (.d rfl rfl (.d rfl rfl (.ref rfl rfl (by rw[←hoboff];rfl) (.d rfl rfl (.d rfl rfl (.d rfl rfl (.nil)))))))))) (.d rfl rfl (.nil))))
 conv=>cbv
 refine .one (24:Int) (show([]:List Int).map cI=[]from rfl) rfl (hl:=rfl) fun d6 ef d1 dc=>?_
 conv=>cbv
 refine .go fun eg dt=>?_
 conv=>cbv
 refine .add fun du dv=>?_
 conv=>cbv
 have hlf:Js (⟨lwver,lwstr,lwrol,lwbas,lwlin,([]:List Int),24,true,lwcod⟩:Ac) record=b1:=by unfold Js;dsimp only;rw[←ao,cj,bw]<;>first|rfl|(congr 1;omega)|(congr 1;simp;omega)|(congr 1;simp)
 have hca:Ai (⟨bdnod,bdent,bdold,bdste,bdroo,bdnex⟩:Aa) (Af lwbas) (Js (⟨lwver,lwstr,lwrol,lwbas,lwlin,([]:List Int),24,true,lwcod⟩:Ac) record)=((⟨ak,al,am,an,ar,au⟩:Aa),ck):=by rw[hlf,bm];exact b6
 have cd:Po (⟨bdnod,bdent,bdold,bdste,bdroo,bdnex⟩:Aa) (⟨lwver,lwstr,lwrol,lwbas,lwlin,([]:List Int),24,true,lwcod⟩:Ac) record=0:=by unfold Po;dsimp only;rw[hca];exact if_neg (by first|omega|(dsimp only;omega))
 have hC:Mb ((⟨bdnod,bdent,bdold,bdste,bdroo,bdnex⟩:Aa),(⟨lwver,lwstr,lwrol,lwbas,lwlin,([]:List Int),24,true,lwcod⟩:Ac)) record=((⟨ak,al,am,an,ar,au⟩:Aa),(⟨lwver,lwstr,lwrol,lwbas,lwlin,([]:List Int)++[24],du,true,lwcod⟩:Ac)):=by unfold Mb;rw[if_pos (by first|omega|(dsimp only;omega))];unfold Zt Z9;rw[cd,if_pos rfl];dsimp only;rw[hca,hlf,dv,dt]
 have e:((⟨ak,al,am,an,ar,au⟩:Aa),(⟨lwver,lwstr,lwrol,lwbas,lwlin,(([]:List Int)++[24]),du,true,lwcod⟩:Ac),0)=Ah (⟨Aj,An,Ao,Al,As,Aq⟩:Aa) (⟨wver,wstr,wrol,wbas,wlin,woff,wend,true,wcod⟩:Ac) record:=(by first|(exfalso;omega)|(unfold Ah;rw[if_pos (by omega)];done)|(unfold Ah;rw[if_neg (by omega),if_pos (by first|omega|(dsimp only;omega))];done)|(have hz:=A3 (r:=record) (by omega) (by first|omega|(dsimp only;omega)) hA hB hC;exact hz)|(have hz:=Cw (r:=record) (by omega) (by first|omega|(dsimp only;omega)) hA hB (by first|omega|(dsimp only;omega));exact hz)|(have hz:=C2 (r:=record) (by omega) (by first|omega|(dsimp only;omega)) hA (by first|omega|(dsimp only;omega));exact hz)|(have hz:=A3 (r:=record) (by omega) (by first|omega|(dsimp only;omega)) hA hB hC;obtain rfl:wcod=0:=(by omega);exact hz)|(have hz:=A3 (r:=record) (by omega) (by first|omega|(dsimp only;omega)) hA hB hC;obtain rfl:lwcod=0:=(by omega);exact hz))
 rw[hr]at e
 simp only[Prod.mk.injEq,Aa.mk.injEq,Ac.mk.injEq]at e
 obtain⟨⟨rfl,rfl,rfl,rfl,rfl,rfl⟩,⟨rfl,rfl,rfl,rfl,rfl,rfl,rfl,rfl,rfl⟩,rfl⟩:=e
 refine hQ _ _ ?_
 exact .many (.inl rfl) rfl rfl (.agg (.d rfl (Aw ba A7) (.d rfl (Aw bb A9) (.d rfl (Aw bd A8) (.d rfl (Aw be Ba) (.d rfl rfl (.d rfl rfl (.nil))))))) (.agg (.d rfl rfl (.d rfl rfl (.d rfl rfl (.d rfl rfl (.d rfl rfl (.ref rfl (Ae dc) (Cz dc hoboff) (.d rfl rfl (.d rfl rfl (.d rfl rfl (.nil)))))))))) (.d rfl rfl (.nil))))
 obtain⟨bc,hbe⟩:∃c,Xf (⟨rlnod,rlent,rlold,rlste,rlroo,rlnex⟩:Aa) (⟨lwver,lwstr,lwrol,lwbas,lwlin,lwoff,lwend,false,lwcod⟩:Ac)=c:=⟨_,rfl⟩
 rw[hbe]at hbc
 have hB:appB ((⟨rlnod,rlent,rlold,rlste,rlroo,rlnex⟩:Aa),(⟨lwver,lwstr,lwrol,lwbas,lwlin,lwoff,lwend,false,lwcod⟩:Ac))=(T4 (⟨rlnod,rlent,rlold,rlste,rlroo,rlnex⟩:Aa) (⟨lwver,lwstr,lwrol,lwbas,lwlin,lwoff,lwend,false,lwcod⟩:Ac),(⟨lwver,lwstr,lwrol,lwbas,lwlin,lwoff,lwend,false,bc⟩:Ac)):=by unfold appB;rw[if_pos ⟨by dsimp only;omega,rfl⟩];unfold XdF;rw[hbe,if_neg hbc]
 have hgB:=Tg (d:=(⟨rlnod,rlent,rlold,rlste,rlroo,rlnex⟩:Aa)) (w:=(⟨lwver,lwstr,lwrol,lwbas,lwlin,lwoff,lwend,false,lwcod⟩:Ac)) hgA.1 (by first|omega|(dsimp only;omega))
 have hwB:=Td (d:=(⟨rlnod,rlent,rlold,rlste,rlroo,rlnex⟩:Aa)) (w:=(⟨lwver,lwstr,lwrol,lwbas,lwlin,lwoff,lwend,false,lwcod⟩:Ac)) hwA
 unfold XdF at hwB
 rw[hbe,if_neg hbc]at hwB
 rcases hbd:T4 (⟨rlnod,rlent,rlold,rlste,rlroo,rlnex⟩:Aa) (⟨lwver,lwstr,lwrol,lwbas,lwlin,lwoff,lwend,false,lwcod⟩:Ac)with⟨bdnod,bdent,bdold,bdste,bdroo,bdnex⟩
 generalize hbdnod:bdnod.map A5=xbdnod
 generalize hbdent:bdent.map Ad=xbdent
 generalize hbdold:bdold.map Ad=xbdold
 generalize hbdste:bdste.map cS=xbdste
 rw[hbd]at hgB hB
 have hsB:=hgB.2
 simp only[]at hsB hwB
 refine .dd hP (Vg hrlnod hrlent hrlold hrlste hlwoff hgA.1 (by first|omega|(dsimp only;omega)) hwA hk hbe hbc hbd hbdnod hbdent hbdold hbdste) ?_
 conv=>cbv
 refine .neq (fun h12=>?_) fun h12=>?_
 conv=>cbv
 have e:((⟨bdnod,bdent,bdold,bdste,bdroo,bdnex⟩:Aa),(⟨lwver,lwstr,lwrol,lwbas,lwlin,lwoff,lwend,false,bc⟩:Ac),bc)=Ah (⟨Aj,An,Ao,Al,As,Aq⟩:Aa) (⟨wver,wstr,wrol,wbas,wlin,woff,wend,true,wcod⟩:Ac) record:=(by first|(exfalso;omega)|(unfold Ah;rw[if_pos (by omega)];done)|(unfold Ah;rw[if_neg (by omega),if_pos (by first|omega|(dsimp only;omega))];done)|(have hz:=A3 (r:=record) (by omega) (by first|omega|(dsimp only;omega)) hA hB hC;exact hz)|(have hz:=Cw (r:=record) (by omega) (by first|omega|(dsimp only;omega)) hA hB (by first|omega|(dsimp only;omega));exact hz)|(have hz:=C2 (r:=record) (by omega) (by first|omega|(dsimp only;omega)) hA (by first|omega|(dsimp only;omega));exact hz)|(have hz:=A3 (r:=record) (by omega) (by first|omega|(dsimp only;omega)) hA hB hC;obtain rfl:wcod=0:=(by omega);exact hz)|(have hz:=A3 (r:=record) (by omega) (by first|omega|(dsimp only;omega)) hA hB hC;obtain rfl:lwcod=0:=(by omega);exact hz))
 rw[hr]at e
 simp only[Prod.mk.injEq,Aa.mk.injEq,Ac.mk.injEq]at e
 obtain⟨⟨rfl,rfl,rfl,rfl,rfl,rfl⟩,⟨rfl,rfl,rfl,rfl,rfl,rfl,rfl,rfl,rfl⟩,rfl⟩:=e
 refine hQ _ _ ?_
 exact .many (.inl rfl) rfl rfl (.agg (.d rfl (Aw hbdnod A7) (.d rfl (Aw hbdent A9) (.d rfl (Aw hbdold A8) (.d rfl (Aw hbdste Ba) (.d rfl rfl (.d rfl rfl (.nil))))))) (.agg (.d rfl rfl (.d rfl rfl (.d rfl rfl (.d rfl rfl (.d rfl rfl (.d rfl (Aw hlwoff hoboff) (.d rfl rfl (.d rfl rfl (.d rfl rfl (.nil)))))))))) (.d rfl rfl (.nil))))
 conv=>cbv
 refine .go hlwoff fun c5 bw=>?_
 conv=>cbv
 refine .add fun dg cj=>?_
 conv=>cbv
 generalize ao:Am lwver dg record=b1
 have zr15:=Bz ao
 refine .dd hP (Ds (by omega) ao) ?_
 conv=>cbv
 generalize bm:Af lwbas=dh
 refine .dd hP (B1 bm) ?_
 conv=>cbv
 rcases b6:Ai (⟨bdnod,bdent,bdold,bdste,bdroo,bdnex⟩:Aa) dh b1 with⟨⟨ak,al,am,an,ar,au⟩,ck⟩
 generalize ba:ak.map A5=cr
 generalize bb:al.map Ad=ct
 generalize bd:am.map Ad=cu
 generalize be:an.map cS=cv
 refine .dd hP (Dp hbdnod hbdent hbdold hbdste hgB.1.1.1 hgB.1.1.2.2.1 hgB.1.1.2.2.2.2.1 (by omega) hgB.1.2.2 hgB.1 (by omega) b6 ba bb bd be) ?_
 conv=>cbv
 refine .neq (fun h18=>?_) fun h18=>?_
 conv=>cbv
 have hlf:Js (⟨lwver,lwstr,lwrol,lwbas,lwlin,lwoff,lwend,false,bc⟩:Ac) record=b1:=by unfold Js;dsimp only;rw[←ao,cj,bw]<;>first|rfl|(congr 1;omega)|(congr 1;simp;omega)|(congr 1;simp)
 have hca:Ai (⟨bdnod,bdent,bdold,bdste,bdroo,bdnex⟩:Aa) (Af lwbas) (Js (⟨lwver,lwstr,lwrol,lwbas,lwlin,lwoff,lwend,false,bc⟩:Ac) record)=((⟨ak,al,am,an,ar,au⟩:Aa),ck):=by rw[hlf,bm];exact b6
 have bo:Po (⟨bdnod,bdent,bdold,bdste,bdroo,bdnex⟩:Aa) (⟨lwver,lwstr,lwrol,lwbas,lwlin,lwoff,lwend,false,bc⟩:Ac) record=2:=by unfold Po;dsimp only;rw[hca];exact if_pos h18
 have hC:Mb ((⟨bdnod,bdent,bdold,bdste,bdroo,bdnex⟩:Aa),(⟨lwver,lwstr,lwrol,lwbas,lwlin,lwoff,lwend,false,bc⟩:Ac)) record=((⟨ak,al,am,an,ar,au⟩:Aa),(⟨lwver,lwstr,lwrol,lwbas,lwlin,lwoff,lwend,false,2⟩:Ac)):=by unfold Mb;rw[if_pos (by first|omega|(dsimp only;omega))];unfold Zt Z9;rw[bo,if_neg (by decide)];dsimp only;rw[hca]
 have e:((⟨ak,al,am,an,ar,au⟩:Aa),(⟨lwver,lwstr,lwrol,lwbas,lwlin,lwoff,lwend,false,2⟩:Ac),2)=Ah (⟨Aj,An,Ao,Al,As,Aq⟩:Aa) (⟨wver,wstr,wrol,wbas,wlin,woff,wend,true,wcod⟩:Ac) record:=(by first|(exfalso;omega)|(unfold Ah;rw[if_pos (by omega)];done)|(unfold Ah;rw[if_neg (by omega),if_pos (by first|omega|(dsimp only;omega))];done)|(have hz:=A3 (r:=record) (by omega) (by first|omega|(dsimp only;omega)) hA hB hC;exact hz)|(have hz:=Cw (r:=record) (by omega) (by first|omega|(dsimp only;omega)) hA hB (by first|omega|(dsimp only;omega));exact hz)|(have hz:=C2 (r:=record) (by omega) (by first|omega|(dsimp only;omega)) hA (by first|omega|(dsimp only;omega));exact hz)|(have hz:=A3 (r:=record) (by omega) (by first|omega|(dsimp only;omega)) hA hB hC;obtain rfl:wcod=0:=(by omega);exact hz)|(have hz:=A3 (r:=record) (by omega) (by first|omega|(dsimp only;omega)) hA hB hC;obtain rfl:lwcod=0:=(by omega);exact hz))
 rw[hr]at e
 simp only[Prod.mk.injEq,Aa.mk.injEq,Ac.mk.injEq]at e
 obtain⟨⟨rfl,rfl,rfl,rfl,rfl,rfl⟩,⟨rfl,rfl,rfl,rfl,rfl,rfl,rfl,rfl,rfl⟩,rfl⟩:=e
 refine hQ _ _ ?_
 exact .many (.inl rfl) rfl rfl (.agg (.d rfl (Aw ba A7) (.d rfl (Aw bb A9) (.d rfl (Aw bd A8) (.d rfl (Aw be Ba) (.d rfl rfl (.d rfl rfl (.nil))))))) (.agg (.d rfl rfl (.d rfl rfl (.d rfl rfl (.d rfl rfl (.d rfl rfl (.d rfl (Aw hlwoff hoboff) (.d rfl rfl (.d rfl rfl (.d rfl rfl (.nil)))))))))) (.d rfl rfl (.nil))))
 conv=>cbv
 first|(exfalso;omega)|exact absurd (hopA (by omega)) (by decide)
 conv=>cbv
 refine .neq (fun h11=>?_) fun h11=>?_
 conv=>cbv
 have e:((⟨rlnod,rlent,rlold,rlste,rlroo,rlnex⟩:Aa),(⟨lwver,lwstr,lwrol,lwbas,lwlin,lwoff,lwend,true,lwcod⟩:Ac),lwcod)=Ah (⟨Aj,An,Ao,Al,As,Aq⟩:Aa) (⟨wver,wstr,wrol,wbas,wlin,woff,wend,true,wcod⟩:Ac) record:=(by first|(exfalso;omega)|(unfold Ah;rw[if_pos (by omega)];done)|(unfold Ah;rw[if_neg (by omega),if_pos (by first|omega|(dsimp only;omega))];done)|(have hz:=A3 (r:=record) (by omega) (by first|omega|(dsimp only;omega)) hA hB hC;exact hz)|(have hz:=Cw (r:=record) (by omega) (by first|omega|(dsimp only;omega)) hA hB (by first|omega|(dsimp only;omega));exact hz)|(have hz:=C2 (r:=record) (by omega) (by first|omega|(dsimp only;omega)) hA (by first|omega|(dsimp only;omega));exact hz)|(have hz:=A3 (r:=record) (by omega) (by first|omega|(dsimp only;omega)) hA hB hC;obtain rfl:wcod=0:=(by omega);exact hz)|(have hz:=A3 (r:=record) (by omega) (by first|omega|(dsimp only;omega)) hA hB hC;obtain rfl:lwcod=0:=(by omega);exact hz))
 rw[hr]at e
 simp only[Prod.mk.injEq,Aa.mk.injEq,Ac.mk.injEq]at e
 obtain⟨⟨rfl,rfl,rfl,rfl,rfl,rfl⟩,⟨rfl,rfl,rfl,rfl,rfl,rfl,rfl,rfl,rfl⟩,rfl⟩:=e
 refine hQ _ _ ?_
 exact .many (.inl rfl) rfl rfl (.agg (.d rfl (Aw hrlnod A7) (.d rfl (Aw hrlent A9) (.d rfl (Aw hrlold A8) (.d rfl (Aw hrlste Ba) (.d rfl rfl (.d rfl rfl (.nil))))))) (.agg (.d rfl rfl (.d rfl rfl (.d rfl rfl (.d rfl rfl (.d rfl rfl (.d rfl (Aw hlwoff hoboff) (.d rfl rfl (.d rfl rfl (.d rfl rfl (.nil)))))))))) (.d rfl rfl (.nil))))
 conv=>cbv
 refine .go hlwoff fun c6 bv=>?_
 conv=>cbv
 refine .add fun c5 bw=>?_
 conv=>cbv
 generalize bf:Am lwver c5 record=b7
 have zr14:=Bz bf
 refine .dd hP (Ds (by omega) bf) ?_
 conv=>cbv
 generalize ao:Af lwbas=b1
 refine .dd hP (B1 ao) ?_
 conv=>cbv
 have hB:appB ((⟨rlnod,rlent,rlold,rlste,rlroo,rlnex⟩:Aa),(⟨lwver,lwstr,lwrol,lwbas,lwlin,lwoff,lwend,true,lwcod⟩:Ac))=((⟨rlnod,rlent,rlold,rlste,rlroo,rlnex⟩:Aa),(⟨lwver,lwstr,lwrol,lwbas,lwlin,lwoff,lwend,true,lwcod⟩:Ac)):=by unfold appB;rw[if_neg (by first|(simp;done)|(exfalso;omega)|(simp;omega))]
 rcases bm:Ai (⟨rlnod,rlent,rlold,rlste,rlroo,rlnex⟩:Aa) b1 b7 with⟨⟨aw,ax,ay,az,bg,bh⟩,c7⟩
 generalize bi:aw.map A5=cw
 generalize bj:ax.map Ad=cx
 generalize bk:ay.map Ad=cy
 generalize bl:az.map cS=cz
 refine .dd hP (Dp hrlnod hrlent hrlold hrlste hgA.1.1.1 hgA.1.1.2.2.1 hgA.1.1.2.2.2.2.1 (by omega) hgA.1.2.2 hgA.1 (by omega) bm bi bj bk bl) ?_
 conv=>cbv
 refine .neq (fun h17=>?_) fun h17=>?_
 conv=>cbv
 have hlf:Js (⟨lwver,lwstr,lwrol,lwbas,lwlin,lwoff,lwend,true,lwcod⟩:Ac) record=b7:=by unfold Js;dsimp only;rw[←bf,bw,bv]<;>first|rfl|(congr 1;omega)|(congr 1;simp;omega)|(congr 1;simp)
 have hca:Ai (⟨rlnod,rlent,rlold,rlste,rlroo,rlnex⟩:Aa) (Af lwbas) (Js (⟨lwver,lwstr,lwrol,lwbas,lwlin,lwoff,lwend,true,lwcod⟩:Ac) record)=((⟨aw,ax,ay,az,bg,bh⟩:Aa),c7):=by rw[hlf,ao];exact bm
 have bo:Po (⟨rlnod,rlent,rlold,rlste,rlroo,rlnex⟩:Aa) (⟨lwver,lwstr,lwrol,lwbas,lwlin,lwoff,lwend,true,lwcod⟩:Ac) record=2:=by unfold Po;dsimp only;rw[hca];exact if_pos h17
 have hC:Mb ((⟨rlnod,rlent,rlold,rlste,rlroo,rlnex⟩:Aa),(⟨lwver,lwstr,lwrol,lwbas,lwlin,lwoff,lwend,true,lwcod⟩:Ac)) record=((⟨aw,ax,ay,az,bg,bh⟩:Aa),(⟨lwver,lwstr,lwrol,lwbas,lwlin,lwoff,lwend,true,2⟩:Ac)):=by unfold Mb;rw[if_pos (by first|omega|(dsimp only;omega))];unfold Zt Z9;rw[bo,if_neg (by decide)];dsimp only;rw[hca]
 have e:((⟨aw,ax,ay,az,bg,bh⟩:Aa),(⟨lwver,lwstr,lwrol,lwbas,lwlin,lwoff,lwend,true,2⟩:Ac),2)=Ah (⟨Aj,An,Ao,Al,As,Aq⟩:Aa) (⟨wver,wstr,wrol,wbas,wlin,woff,wend,true,wcod⟩:Ac) record:=(by first|(exfalso;omega)|(unfold Ah;rw[if_pos (by omega)];done)|(unfold Ah;rw[if_neg (by omega),if_pos (by first|omega|(dsimp only;omega))];done)|(have hz:=A3 (r:=record) (by omega) (by first|omega|(dsimp only;omega)) hA hB hC;exact hz)|(have hz:=Cw (r:=record) (by omega) (by first|omega|(dsimp only;omega)) hA hB (by first|omega|(dsimp only;omega));exact hz)|(have hz:=C2 (r:=record) (by omega) (by first|omega|(dsimp only;omega)) hA (by first|omega|(dsimp only;omega));exact hz)|(have hz:=A3 (r:=record) (by omega) (by first|omega|(dsimp only;omega)) hA hB hC;obtain rfl:wcod=0:=(by omega);exact hz)|(have hz:=A3 (r:=record) (by omega) (by first|omega|(dsimp only;omega)) hA hB hC;obtain rfl:lwcod=0:=(by omega);exact hz))
 rw[hr]at e
 simp only[Prod.mk.injEq,Aa.mk.injEq,Ac.mk.injEq]at e
 obtain⟨⟨rfl,rfl,rfl,rfl,rfl,rfl⟩,⟨rfl,rfl,rfl,rfl,rfl,rfl,rfl,rfl,rfl⟩,rfl⟩:=e
 refine hQ _ _ ?_
 exact .many (.inl rfl) rfl rfl (.agg (.d rfl (Aw bi A7) (.d rfl (Aw bj A9) (.d rfl (Aw bk A8) (.d rfl (Aw bl Ba) (.d rfl rfl (.d rfl rfl (.nil))))))) (.agg (.d rfl rfl (.d rfl rfl (.d rfl rfl (.d rfl rfl (.d rfl rfl (.d rfl (Aw hlwoff hoboff) (.d rfl rfl (.d rfl rfl (.d rfl rfl (.nil)))))))))) (.d rfl rfl (.nil))))
 conv=>cbv
 first|(exfalso;omega)|exact absurd (hopA (by omega)) (by decide)
 conv=>cbv
 refine .neq (fun h11=>?_) fun h11=>?_
 conv=>cbv
 have e:((⟨rlnod,rlent,rlold,rlste,rlroo,rlnex⟩:Aa),(⟨lwver,lwstr,lwrol,lwbas,lwlin,lwoff,lwend,lwope,lwcod⟩:Ac),lwcod)=Ah (⟨Aj,An,Ao,Al,As,Aq⟩:Aa) (⟨wver,wstr,wrol,wbas,wlin,woff,wend,true,wcod⟩:Ac) record:=(by first|(exfalso;omega)|(unfold Ah;rw[if_pos (by omega)];done)|(unfold Ah;rw[if_neg (by omega),if_pos (by first|omega|(dsimp only;omega))];done)|(have hz:=A3 (r:=record) (by omega) (by first|omega|(dsimp only;omega)) hA hB hC;exact hz)|(have hz:=Cw (r:=record) (by omega) (by first|omega|(dsimp only;omega)) hA hB (by first|omega|(dsimp only;omega));exact hz)|(have hz:=C2 (r:=record) (by omega) (by first|omega|(dsimp only;omega)) hA (by first|omega|(dsimp only;omega));exact hz)|(have hz:=A3 (r:=record) (by omega) (by first|omega|(dsimp only;omega)) hA hB hC;obtain rfl:wcod=0:=(by omega);exact hz)|(have hz:=A3 (r:=record) (by omega) (by first|omega|(dsimp only;omega)) hA hB hC;obtain rfl:lwcod=0:=(by omega);exact hz))
 rw[hr]at e
 simp only[Prod.mk.injEq,Aa.mk.injEq,Ac.mk.injEq]at e
 obtain⟨⟨rfl,rfl,rfl,rfl,rfl,rfl⟩,⟨rfl,rfl,rfl,rfl,rfl,rfl,rfl,rfl,rfl⟩,rfl⟩:=e
 refine hQ _ _ ?_
 exact .many (.inl rfl) rfl rfl (.agg (.d rfl (Aw hrlnod A7) (.d rfl (Aw hrlent A9) (.d rfl (Aw hrlold A8) (.d rfl (Aw hrlste Ba) (.d rfl rfl (.d rfl rfl (.nil))))))) (.agg (.d rfl rfl (.d rfl rfl (.d rfl rfl (.d rfl rfl (.d rfl rfl (.d rfl (Aw hlwoff hoboff) (.d rfl rfl (.d rfl rfl (.d rfl rfl (.nil)))))))))) (.d rfl rfl (.nil))))
 conv=>cbv
 refine .go hlwoff fun c6 bv=>?_
 conv=>cbv
 refine .add fun c5 bw=>?_
 conv=>cbv
 generalize bf:Am lwver c5 record=b7
 have zr14:=Bz bf
 refine .dd hP (Ds (by omega) bf) ?_
 conv=>cbv
 generalize ao:Af lwbas=b1
 refine .dd hP (B1 ao) ?_
 conv=>cbv
 have hB:appB ((⟨rlnod,rlent,rlold,rlste,rlroo,rlnex⟩:Aa),(⟨lwver,lwstr,lwrol,lwbas,lwlin,lwoff,lwend,lwope,lwcod⟩:Ac))=((⟨rlnod,rlent,rlold,rlste,rlroo,rlnex⟩:Aa),(⟨lwver,lwstr,lwrol,lwbas,lwlin,lwoff,lwend,lwope,lwcod⟩:Ac)):=by unfold appB;rw[if_neg (by first|(simp;done)|(exfalso;omega)|(simp;omega))]
 rcases bm:Ai (⟨rlnod,rlent,rlold,rlste,rlroo,rlnex⟩:Aa) b1 b7 with⟨⟨aw,ax,ay,az,bg,bh⟩,c7⟩
 generalize bi:aw.map A5=cw
 generalize bj:ax.map Ad=cx
 generalize bk:ay.map Ad=cy
 generalize bl:az.map cS=cz
 refine .dd hP (Dp hrlnod hrlent hrlold hrlste hgA.1.1.1 hgA.1.1.2.2.1 hgA.1.1.2.2.2.2.1 (by omega) hgA.1.2.2 hgA.1 (by omega) bm bi bj bk bl) ?_
 conv=>cbv
 refine .neq (fun h17=>?_) fun h17=>?_
 conv=>cbv
 have hlf:Js (⟨lwver,lwstr,lwrol,lwbas,lwlin,lwoff,lwend,lwope,lwcod⟩:Ac) record=b7:=by unfold Js;dsimp only;rw[←bf,bw,bv]<;>first|rfl|(congr 1;omega)|(congr 1;simp;omega)|(congr 1;simp)
 have hca:Ai (⟨rlnod,rlent,rlold,rlste,rlroo,rlnex⟩:Aa) (Af lwbas) (Js (⟨lwver,lwstr,lwrol,lwbas,lwlin,lwoff,lwend,lwope,lwcod⟩:Ac) record)=((⟨aw,ax,ay,az,bg,bh⟩:Aa),c7):=by rw[hlf,ao];exact bm
 have bo:Po (⟨rlnod,rlent,rlold,rlste,rlroo,rlnex⟩:Aa) (⟨lwver,lwstr,lwrol,lwbas,lwlin,lwoff,lwend,lwope,lwcod⟩:Ac) record=2:=by unfold Po;dsimp only;rw[hca];exact if_pos h17
 have hC:Mb ((⟨rlnod,rlent,rlold,rlste,rlroo,rlnex⟩:Aa),(⟨lwver,lwstr,lwrol,lwbas,lwlin,lwoff,lwend,lwope,lwcod⟩:Ac)) record=((⟨aw,ax,ay,az,bg,bh⟩:Aa),(⟨lwver,lwstr,lwrol,lwbas,lwlin,lwoff,lwend,lwope,2⟩:Ac)):=by unfold Mb;rw[if_pos (by first|omega|(dsimp only;omega))];unfold Zt Z9;rw[bo,if_neg (by decide)];dsimp only;rw[hca]
 have e:((⟨aw,ax,ay,az,bg,bh⟩:Aa),(⟨lwver,lwstr,lwrol,lwbas,lwlin,lwoff,lwend,lwope,2⟩:Ac),2)=Ah (⟨Aj,An,Ao,Al,As,Aq⟩:Aa) (⟨wver,wstr,wrol,wbas,wlin,woff,wend,true,wcod⟩:Ac) record:=(by first|(exfalso;omega)|(unfold Ah;rw[if_pos (by omega)];done)|(unfold Ah;rw[if_neg (by omega),if_pos (by first|omega|(dsimp only;omega))];done)|(have hz:=A3 (r:=record) (by omega) (by first|omega|(dsimp only;omega)) hA hB hC;exact hz)|(have hz:=Cw (r:=record) (by omega) (by first|omega|(dsimp only;omega)) hA hB (by first|omega|(dsimp only;omega));exact hz)|(have hz:=C2 (r:=record) (by omega) (by first|omega|(dsimp only;omega)) hA (by first|omega|(dsimp only;omega));exact hz)|(have hz:=A3 (r:=record) (by omega) (by first|omega|(dsimp only;omega)) hA hB hC;obtain rfl:wcod=0:=(by omega);exact hz)|(have hz:=A3 (r:=record) (by omega) (by first|omega|(dsimp only;omega)) hA hB hC;obtain rfl:lwcod=0:=(by omega);exact hz))
 rw[hr]at e
 simp only[Prod.mk.injEq,Aa.mk.injEq,Ac.mk.injEq]at e
 obtain⟨⟨rfl,rfl,rfl,rfl,rfl,rfl⟩,⟨rfl,rfl,rfl,rfl,rfl,rfl,rfl,rfl,rfl⟩,rfl⟩:=e
 refine hQ _ _ ?_
 exact .many (.inl rfl) rfl rfl (.agg (.d rfl (Aw bi A7) (.d rfl (Aw bj A9) (.d rfl (Aw bk A8) (.d rfl (Aw bl Ba) (.d rfl rfl (.d rfl rfl (.nil))))))) (.agg (.d rfl rfl (.d rfl rfl (.d rfl rfl (.d rfl rfl (.d rfl rfl (.d rfl (Aw hlwoff hoboff) (.d rfl rfl (.d rfl rfl (.d rfl rfl (.nil)))))))))) (.d rfl rfl (.nil))))
 conv=>cbv
 first|(exfalso;omega)|exact absurd (hopA (by omega)) (by decide)
 conv=>cbv
 refine .eql (fun h9=>?_) fun h9=>?_
 conv=>cbv
 refine .neq (fun h10=>?_) fun h10=>?_
 conv=>cbv
 have e:((⟨Aj,An,Ao,Al,As,Aq⟩:Aa),(⟨wver,wstr,wrol,wbas,wlin,woff,wend,true,wcod⟩:Ac),wcod)=Ah (⟨Aj,An,Ao,Al,As,Aq⟩:Aa) (⟨wver,wstr,wrol,wbas,wlin,woff,wend,true,wcod⟩:Ac) record:=(by first|(exfalso;omega)|(unfold Ah;rw[if_pos (by omega)];done)|(unfold Ah;rw[if_neg (by omega),if_pos (by first|omega|(dsimp only;omega))];done)|(have hz:=A3 (r:=record) (by omega) (by first|omega|(dsimp only;omega)) hA hB hC;exact hz)|(have hz:=Cw (r:=record) (by omega) (by first|omega|(dsimp only;omega)) hA hB (by first|omega|(dsimp only;omega));exact hz)|(have hz:=C2 (r:=record) (by omega) (by first|omega|(dsimp only;omega)) hA (by first|omega|(dsimp only;omega));exact hz)|(have hz:=A3 (r:=record) (by omega) (by first|omega|(dsimp only;omega)) hA hB hC;obtain rfl:wcod=0:=(by omega);exact hz)|(have hz:=A3 (r:=record) (by omega) (by first|omega|(dsimp only;omega)) hA hB hC;obtain rfl:lwcod=0:=(by omega);exact hz))
 rw[hr]at e
 simp only[Prod.mk.injEq,Aa.mk.injEq,Ac.mk.injEq]at e
 obtain⟨⟨rfl,rfl,rfl,rfl,rfl,rfl⟩,⟨rfl,rfl,rfl,rfl,rfl,rfl,rfl,rfl,rfl⟩,rfl⟩:=e
 refine hQ _ _ ?_
 exact .many (.inl rfl) rfl rfl (.agg (.d rfl (Aw Av A7) (.d rfl (Aw At A9) (.d rfl (Aw Ax A8) (.d rfl (Aw Ay Ba) (.d rfl rfl (.d rfl rfl (.nil))))))) (.agg (.d rfl rfl (.d rfl rfl (.d rfl rfl (.d rfl rfl (.d rfl rfl (.ref rfl (Ae hwoff) (Cz hwoff hoboff) (.d rfl rfl (.d rfl rfl (.d rfl rfl (.nil)))))))))) (.d rfl rfl (.nil))))
 conv=>cbv
 refine .go fun d2 b9=>?_
 conv=>cbv
 refine .add fun c6 bv=>?_
 conv=>cbv
 generalize a4:Am wver c6 record=ce
 have zr13:=Bz a4
 refine .dd hP (Ds (by omega) a4) ?_
 conv=>cbv
 generalize bf:Af wbas=b7
 refine .dd hP (B1 bf) ?_
 conv=>cbv
 have hA:Tw (⟨Aj,An,Ao,Al,As,Aq⟩:Aa) (⟨wver,wstr,wrol,wbas,wlin,woff,wend,true,wcod⟩:Ac)=((⟨Aj,An,Ao,Al,As,Aq⟩:Aa),(⟨wver,wstr,wrol,wbas,wlin,woff,wend,true,wcod⟩:Ac)):=by unfold Tw;rw[if_neg (by first|(simp;done)|(exfalso;omega)|(simp;omega))]
 have hB:appB ((⟨Aj,An,Ao,Al,As,Aq⟩:Aa),(⟨wver,wstr,wrol,wbas,wlin,woff,wend,true,wcod⟩:Ac))=((⟨Aj,An,Ao,Al,As,Aq⟩:Aa),(⟨wver,wstr,wrol,wbas,wlin,woff,wend,true,wcod⟩:Ac)):=by unfold appB;rw[if_neg (by first|(simp;done)|(exfalso;omega)|(simp;omega))]
 rcases ao:Ai (⟨Aj,An,Ao,Al,As,Aq⟩:Aa) b7 ce with⟨⟨aa,ab,ac,ad,ae,af⟩,ca⟩
 generalize a0:aa.map A5=c0
 generalize a1:ab.map Ad=c1
 generalize a2:ac.map Ad=c2
 generalize a3:ad.map cS=c3
 refine .dd hP (Dp Av At Ax Ay a5.1.1 a5.1.2.2.1 a5.1.2.2.2.2.1 (by omega) a5.2.2 a5 (by omega) ao a0 a1 a2 a3) ?_
 conv=>cbv
 refine .neq (fun h16=>?_) fun h16=>?_
 conv=>cbv
 have hlf:Js (⟨wver,wstr,wrol,wbas,wlin,woff,wend,true,wcod⟩:Ac) record=ce:=by unfold Js;dsimp only;rw[←a4,bv,b9]<;>first|rfl|(congr 1;omega)|(congr 1;simp;omega)|(congr 1;simp)
 have hca:Ai (⟨Aj,An,Ao,Al,As,Aq⟩:Aa) (Af wbas) (Js (⟨wver,wstr,wrol,wbas,wlin,woff,wend,true,wcod⟩:Ac) record)=((⟨aa,ab,ac,ad,ae,af⟩:Aa),ca):=by rw[hlf,bf];exact ao
 have bo:Po (⟨Aj,An,Ao,Al,As,Aq⟩:Aa) (⟨wver,wstr,wrol,wbas,wlin,woff,wend,true,wcod⟩:Ac) record=2:=by unfold Po;dsimp only;rw[hca];exact if_pos h16
 have hC:Mb ((⟨Aj,An,Ao,Al,As,Aq⟩:Aa),(⟨wver,wstr,wrol,wbas,wlin,woff,wend,true,wcod⟩:Ac)) record=((⟨aa,ab,ac,ad,ae,af⟩:Aa),(⟨wver,wstr,wrol,wbas,wlin,woff,wend,true,2⟩:Ac)):=by unfold Mb;rw[if_pos (by first|omega|(dsimp only;omega))];unfold Zt Z9;rw[bo,if_neg (by decide)];dsimp only;rw[hca]
 have e:((⟨aa,ab,ac,ad,ae,af⟩:Aa),(⟨wver,wstr,wrol,wbas,wlin,woff,wend,true,2⟩:Ac),2)=Ah (⟨Aj,An,Ao,Al,As,Aq⟩:Aa) (⟨wver,wstr,wrol,wbas,wlin,woff,wend,true,wcod⟩:Ac) record:=(by first|(exfalso;omega)|(unfold Ah;rw[if_pos (by omega)];done)|(unfold Ah;rw[if_neg (by omega),if_pos (by first|omega|(dsimp only;omega))];done)|(have hz:=A3 (r:=record) (by omega) (by first|omega|(dsimp only;omega)) hA hB hC;exact hz)|(have hz:=Cw (r:=record) (by omega) (by first|omega|(dsimp only;omega)) hA hB (by first|omega|(dsimp only;omega));exact hz)|(have hz:=C2 (r:=record) (by omega) (by first|omega|(dsimp only;omega)) hA (by first|omega|(dsimp only;omega));exact hz)|(have hz:=A3 (r:=record) (by omega) (by first|omega|(dsimp only;omega)) hA hB hC;obtain rfl:wcod=0:=(by omega);exact hz)|(have hz:=A3 (r:=record) (by omega) (by first|omega|(dsimp only;omega)) hA hB hC;obtain rfl:lwcod=0:=(by omega);exact hz))
 rw[hr]at e
 simp only[Prod.mk.injEq,Aa.mk.injEq,Ac.mk.injEq]at e
 obtain⟨⟨rfl,rfl,rfl,rfl,rfl,rfl⟩,⟨rfl,rfl,rfl,rfl,rfl,rfl,rfl,rfl,rfl⟩,rfl⟩:=e
 refine hQ _ _ ?_
 exact .many (.inl rfl) rfl rfl (.agg (.d rfl (Aw a0 A7) (.d rfl (Aw a1 A9) (.d rfl (Aw a2 A8) (.d rfl (Aw a3 Ba) (.d rfl rfl (.d rfl rfl (.nil))))))) (.agg (.d rfl rfl (.d rfl rfl (.d rfl rfl (.d rfl rfl (.d rfl rfl (.ref rfl (Ae hwoff) (Cz hwoff hoboff) (.d rfl rfl (.d rfl rfl (.d rfl rfl (.nil)))))))))) (.d rfl rfl (.nil))))
 conv=>cbv
 refine .one wend hwoff rfl fun dw d3 di cc=>?_
 conv=>cbv
 refine .go fun d4 c8=>?_
 conv=>cbv
 refine .add fun c9 da=>?_
 conv=>cbv
 have hlf:Js (⟨wver,wstr,wrol,wbas,wlin,woff,wend,true,wcod⟩:Ac) record=ce:=by unfold Js;dsimp only;rw[←a4,bv,b9]<;>first|rfl|(congr 1;omega)|(congr 1;simp;omega)|(congr 1;simp)
 have hca:Ai (⟨Aj,An,Ao,Al,As,Aq⟩:Aa) (Af wbas) (Js (⟨wver,wstr,wrol,wbas,wlin,woff,wend,true,wcod⟩:Ac) record)=((⟨aa,ab,ac,ad,ae,af⟩:Aa),ca):=by rw[hlf,bf];exact ao
 have cd:Po (⟨Aj,An,Ao,Al,As,Aq⟩:Aa) (⟨wver,wstr,wrol,wbas,wlin,woff,wend,true,wcod⟩:Ac) record=0:=by unfold Po;dsimp only;rw[hca];exact if_neg (by first|omega|(dsimp only;omega))
 have hC:Mb ((⟨Aj,An,Ao,Al,As,Aq⟩:Aa),(⟨wver,wstr,wrol,wbas,wlin,woff,wend,true,wcod⟩:Ac)) record=((⟨aa,ab,ac,ad,ae,af⟩:Aa),(⟨wver,wstr,wrol,wbas,wlin,woff++[wend],c9,true,wcod⟩:Ac)):=by unfold Mb;rw[if_pos (by first|omega|(dsimp only;omega))];unfold Zt Z9;rw[cd,if_pos rfl];dsimp only;rw[hca,hlf,da,c8]
 have e:((⟨aa,ab,ac,ad,ae,af⟩:Aa),(⟨wver,wstr,wrol,wbas,wlin,woff++[wend],c9,true,wcod⟩:Ac),0)=Ah (⟨Aj,An,Ao,Al,As,Aq⟩:Aa) (⟨wver,wstr,wrol,wbas,wlin,woff,wend,true,wcod⟩:Ac) record:=(by first|(exfalso;omega)|(unfold Ah;rw[if_pos (by omega)];done)|(unfold Ah;rw[if_neg (by omega),if_pos (by first|omega|(dsimp only;omega))];done)|(have hz:=A3 (r:=record) (by omega) (by first|omega|(dsimp only;omega)) hA hB hC;exact hz)|(have hz:=Cw (r:=record) (by omega) (by first|omega|(dsimp only;omega)) hA hB (by first|omega|(dsimp only;omega));exact hz)|(have hz:=C2 (r:=record) (by omega) (by first|omega|(dsimp only;omega)) hA (by first|omega|(dsimp only;omega));exact hz)|(have hz:=A3 (r:=record) (by omega) (by first|omega|(dsimp only;omega)) hA hB hC;obtain rfl:wcod=0:=(by omega);exact hz)|(have hz:=A3 (r:=record) (by omega) (by first|omega|(dsimp only;omega)) hA hB hC;obtain rfl:lwcod=0:=(by omega);exact hz))
 rw[hr]at e
 simp only[Prod.mk.injEq,Aa.mk.injEq,Ac.mk.injEq]at e
 obtain⟨⟨rfl,rfl,rfl,rfl,rfl,rfl⟩,⟨rfl,rfl,rfl,rfl,rfl,rfl,rfl,rfl,rfl⟩,rfl⟩:=e
 refine hQ _ _ ?_
 exact .many (.inl rfl) rfl rfl (.agg (.d rfl (Aw a0 A7) (.d rfl (Aw a1 A9) (.d rfl (Aw a2 A8) (.d rfl (Aw a3 Ba) (.d rfl rfl (.d rfl rfl (.nil))))))) (.agg (.d rfl rfl (.d rfl rfl (.d rfl rfl (.d rfl rfl (.d rfl rfl (.ref rfl (Ae cc) (Cz cc hoboff) (.d rfl rfl (.d rfl rfl (.d rfl rfl (.nil)))))))))) (.d rfl rfl (.nil))))
 conv=>cbv
 refine .neq (fun h10=>?_) fun h10=>?_
 conv=>cbv
 have e:((⟨Aj,An,Ao,Al,As,Aq⟩:Aa),(⟨wver,wstr,wrol,wbas,wlin,woff,wend,true,wcod⟩:Ac),wcod)=Ah (⟨Aj,An,Ao,Al,As,Aq⟩:Aa) (⟨wver,wstr,wrol,wbas,wlin,woff,wend,true,wcod⟩:Ac) record:=(by first|(exfalso;omega)|(unfold Ah;rw[if_pos (by omega)];done)|(unfold Ah;rw[if_neg (by omega),if_pos (by first|omega|(dsimp only;omega))];done)|(have hz:=A3 (r:=record) (by omega) (by first|omega|(dsimp only;omega)) hA hB hC;exact hz)|(have hz:=Cw (r:=record) (by omega) (by first|omega|(dsimp only;omega)) hA hB (by first|omega|(dsimp only;omega));exact hz)|(have hz:=C2 (r:=record) (by omega) (by first|omega|(dsimp only;omega)) hA (by first|omega|(dsimp only;omega));exact hz)|(have hz:=A3 (r:=record) (by omega) (by first|omega|(dsimp only;omega)) hA hB hC;obtain rfl:wcod=0:=(by omega);exact hz)|(have hz:=A3 (r:=record) (by omega) (by first|omega|(dsimp only;omega)) hA hB hC;obtain rfl:lwcod=0:=(by omega);exact hz))
 rw[hr]at e
 simp only[Prod.mk.injEq,Aa.mk.injEq,Ac.mk.injEq]at e
 obtain⟨⟨rfl,rfl,rfl,rfl,rfl,rfl⟩,⟨rfl,rfl,rfl,rfl,rfl,rfl,rfl,rfl,rfl⟩,rfl⟩:=e
 refine hQ _ _ ?_
 exact .many (.inl rfl) rfl rfl (.agg (.d rfl (Aw Av A7) (.d rfl (Aw At A9) (.d rfl (Aw Ax A8) (.d rfl (Aw Ay Ba) (.d rfl rfl (.d rfl rfl (.nil))))))) (.agg (.d rfl rfl (.d rfl rfl (.d rfl rfl (.d rfl rfl (.d rfl rfl (.ref rfl (Ae hwoff) (Cz hwoff hoboff) (.d rfl rfl (.d rfl rfl (.d rfl rfl (.nil)))))))))) (.d rfl rfl (.nil))))
 conv=>cbv
 refine .go fun d2 b9=>?_
 conv=>cbv
 refine .add fun c6 bv=>?_
 conv=>cbv
 generalize a4:Am wver c6 record=ce
 have zr13:=Bz a4
 refine .dd hP (Ds (by omega) a4) ?_
 conv=>cbv
 generalize bf:Af wbas=b7
 refine .dd hP (B1 bf) ?_
 conv=>cbv
 have hA:Tw (⟨Aj,An,Ao,Al,As,Aq⟩:Aa) (⟨wver,wstr,wrol,wbas,wlin,woff,wend,true,wcod⟩:Ac)=((⟨Aj,An,Ao,Al,As,Aq⟩:Aa),(⟨wver,wstr,wrol,wbas,wlin,woff,wend,true,wcod⟩:Ac)):=by unfold Tw;rw[if_neg (by first|(simp;done)|(exfalso;omega)|(simp;omega))]
 have hB:appB ((⟨Aj,An,Ao,Al,As,Aq⟩:Aa),(⟨wver,wstr,wrol,wbas,wlin,woff,wend,true,wcod⟩:Ac))=((⟨Aj,An,Ao,Al,As,Aq⟩:Aa),(⟨wver,wstr,wrol,wbas,wlin,woff,wend,true,wcod⟩:Ac)):=by unfold appB;rw[if_neg (by first|(simp;done)|(exfalso;omega)|(simp;omega))]
 rcases ao:Ai (⟨Aj,An,Ao,Al,As,Aq⟩:Aa) b7 ce with⟨⟨aa,ab,ac,ad,ae,af⟩,ca⟩
 generalize a0:aa.map A5=c0
 generalize a1:ab.map Ad=c1
 generalize a2:ac.map Ad=c2
 generalize a3:ad.map cS=c3
 refine .dd hP (Dp Av At Ax Ay a5.1.1 a5.1.2.2.1 a5.1.2.2.2.2.1 (by omega) a5.2.2 a5 (by omega) ao a0 a1 a2 a3) ?_
 conv=>cbv
 refine .neq (fun h16=>?_) fun h16=>?_
 conv=>cbv
 have hlf:Js (⟨wver,wstr,wrol,wbas,wlin,woff,wend,true,wcod⟩:Ac) record=ce:=by unfold Js;dsimp only;rw[←a4,bv,b9]<;>first|rfl|(congr 1;omega)|(congr 1;simp;omega)|(congr 1;simp)
 have hca:Ai (⟨Aj,An,Ao,Al,As,Aq⟩:Aa) (Af wbas) (Js (⟨wver,wstr,wrol,wbas,wlin,woff,wend,true,wcod⟩:Ac) record)=((⟨aa,ab,ac,ad,ae,af⟩:Aa),ca):=by rw[hlf,bf];exact ao
 have bo:Po (⟨Aj,An,Ao,Al,As,Aq⟩:Aa) (⟨wver,wstr,wrol,wbas,wlin,woff,wend,true,wcod⟩:Ac) record=2:=by unfold Po;dsimp only;rw[hca];exact if_pos h16
 have hC:Mb ((⟨Aj,An,Ao,Al,As,Aq⟩:Aa),(⟨wver,wstr,wrol,wbas,wlin,woff,wend,true,wcod⟩:Ac)) record=((⟨aa,ab,ac,ad,ae,af⟩:Aa),(⟨wver,wstr,wrol,wbas,wlin,woff,wend,true,2⟩:Ac)):=by unfold Mb;rw[if_pos (by first|omega|(dsimp only;omega))];unfold Zt Z9;rw[bo,if_neg (by decide)];dsimp only;rw[hca]
 have e:((⟨aa,ab,ac,ad,ae,af⟩:Aa),(⟨wver,wstr,wrol,wbas,wlin,woff,wend,true,2⟩:Ac),2)=Ah (⟨Aj,An,Ao,Al,As,Aq⟩:Aa) (⟨wver,wstr,wrol,wbas,wlin,woff,wend,true,wcod⟩:Ac) record:=(by first|(exfalso;omega)|(unfold Ah;rw[if_pos (by omega)];done)|(unfold Ah;rw[if_neg (by omega),if_pos (by first|omega|(dsimp only;omega))];done)|(have hz:=A3 (r:=record) (by omega) (by first|omega|(dsimp only;omega)) hA hB hC;exact hz)|(have hz:=Cw (r:=record) (by omega) (by first|omega|(dsimp only;omega)) hA hB (by first|omega|(dsimp only;omega));exact hz)|(have hz:=C2 (r:=record) (by omega) (by first|omega|(dsimp only;omega)) hA (by first|omega|(dsimp only;omega));exact hz)|(have hz:=A3 (r:=record) (by omega) (by first|omega|(dsimp only;omega)) hA hB hC;obtain rfl:wcod=0:=(by omega);exact hz)|(have hz:=A3 (r:=record) (by omega) (by first|omega|(dsimp only;omega)) hA hB hC;obtain rfl:lwcod=0:=(by omega);exact hz))
 rw[hr]at e
 simp only[Prod.mk.injEq,Aa.mk.injEq,Ac.mk.injEq]at e
 obtain⟨⟨rfl,rfl,rfl,rfl,rfl,rfl⟩,⟨rfl,rfl,rfl,rfl,rfl,rfl,rfl,rfl,rfl⟩,rfl⟩:=e
 refine hQ _ _ ?_
 exact .many (.inl rfl) rfl rfl (.agg (.d rfl (Aw a0 A7) (.d rfl (Aw a1 A9) (.d rfl (Aw a2 A8) (.d rfl (Aw a3 Ba) (.d rfl rfl (.d rfl rfl (.nil))))))) (.agg (.d rfl rfl (.d rfl rfl (.d rfl rfl (.d rfl rfl (.d rfl rfl (.ref rfl (Ae hwoff) (Cz hwoff hoboff) (.d rfl rfl (.d rfl rfl (.d rfl rfl (.nil)))))))))) (.d rfl rfl (.nil))))
 conv=>cbv
 refine .one wend hwoff rfl fun dw d3 di cc=>?_
 conv=>cbv
 refine .go fun d4 c8=>?_
 conv=>cbv
 refine .add fun c9 da=>?_
 conv=>cbv
 have hlf:Js (⟨wver,wstr,wrol,wbas,wlin,woff,wend,true,wcod⟩:Ac) record=ce:=by unfold Js;dsimp only;rw[←a4,bv,b9]<;>first|rfl|(congr 1;omega)|(congr 1;simp;omega)|(congr 1;simp)
 have hca:Ai (⟨Aj,An,Ao,Al,As,Aq⟩:Aa) (Af wbas) (Js (⟨wver,wstr,wrol,wbas,wlin,woff,wend,true,wcod⟩:Ac) record)=((⟨aa,ab,ac,ad,ae,af⟩:Aa),ca):=by rw[hlf,bf];exact ao
 have cd:Po (⟨Aj,An,Ao,Al,As,Aq⟩:Aa) (⟨wver,wstr,wrol,wbas,wlin,woff,wend,true,wcod⟩:Ac) record=0:=by unfold Po;dsimp only;rw[hca];exact if_neg (by first|omega|(dsimp only;omega))
 have hC:Mb ((⟨Aj,An,Ao,Al,As,Aq⟩:Aa),(⟨wver,wstr,wrol,wbas,wlin,woff,wend,true,wcod⟩:Ac)) record=((⟨aa,ab,ac,ad,ae,af⟩:Aa),(⟨wver,wstr,wrol,wbas,wlin,woff++[wend],c9,true,wcod⟩:Ac)):=by unfold Mb;rw[if_pos (by first|omega|(dsimp only;omega))];unfold Zt Z9;rw[cd,if_pos rfl];dsimp only;rw[hca,hlf,da,c8]
 have e:((⟨aa,ab,ac,ad,ae,af⟩:Aa),(⟨wver,wstr,wrol,wbas,wlin,woff++[wend],c9,true,wcod⟩:Ac),0)=Ah (⟨Aj,An,Ao,Al,As,Aq⟩:Aa) (⟨wver,wstr,wrol,wbas,wlin,woff,wend,true,wcod⟩:Ac) record:=(by first|(exfalso;omega)|(unfold Ah;rw[if_pos (by omega)];done)|(unfold Ah;rw[if_neg (by omega),if_pos (by first|omega|(dsimp only;omega))];done)|(have hz:=A3 (r:=record) (by omega) (by first|omega|(dsimp only;omega)) hA hB hC;exact hz)|(have hz:=Cw (r:=record) (by omega) (by first|omega|(dsimp only;omega)) hA hB (by first|omega|(dsimp only;omega));exact hz)|(have hz:=C2 (r:=record) (by omega) (by first|omega|(dsimp only;omega)) hA (by first|omega|(dsimp only;omega));exact hz)|(have hz:=A3 (r:=record) (by omega) (by first|omega|(dsimp only;omega)) hA hB hC;obtain rfl:wcod=0:=(by omega);exact hz)|(have hz:=A3 (r:=record) (by omega) (by first|omega|(dsimp only;omega)) hA hB hC;obtain rfl:lwcod=0:=(by omega);exact hz))
 rw[hr]at e
 simp only[Prod.mk.injEq,Aa.mk.injEq,Ac.mk.injEq]at e
 obtain⟨⟨rfl,rfl,rfl,rfl,rfl,rfl⟩,⟨rfl,rfl,rfl,rfl,rfl,rfl,rfl,rfl,rfl⟩,rfl⟩:=e
 refine hQ _ _ ?_
 exact .many (.inl rfl) rfl rfl (.agg (.d rfl (Aw a0 A7) (.d rfl (Aw a1 A9) (.d rfl (Aw a2 A8) (.d rfl (Aw a3 Ba) (.d rfl rfl (.d rfl rfl (.nil))))))) (.agg (.d rfl rfl (.d rfl rfl (.d rfl rfl (.d rfl rfl (.d rfl rfl (.ref rfl (Ae cc) (Cz cc hoboff) (.d rfl rfl (.d rfl rfl (.d rfl rfl (.nil)))))))))) (.d rfl rfl (.nil))))
end
section
open Go Go.Proofs
set_option maxRecDepth 20000
set_option maxHeartbeats 4000000
def XbI:List (Nat×TyRow):=[ty3,ty9,Xax,Xbj,ty76]
theorem XaQ:B3 Tryz.prog XbI:=B3.of (by kernel_rfl)
theorem Xa2:Setup Tryz.prog XbI:=⟨XaQ,mixed⟩
def XdA(v s r:Int):Prop:=(1≤v∧v≤2)∧(1≤s∧s≤20)∧(1≤r∧r≤50)
instance {v s r:Int}:Decidable (XdA v s r):=by unfold XdA;infer_instance
def Gc(d:Aa)(w:Ac):Aa×Ac×Int:=((Cx d w).1,if(Cx d w).2.2=0 then⟨(Cx d w).2.1.version_,(Cx d w).2.1.stride_,(Cx d w).2.1.roll_,(Cx d w).2.1.base_,(Cx d w).2.1.link_,(Cx d w).2.1.offsets_,(Cx d w).2.1.end_,(Cx d w).2.1.open_,3⟩else(Cx d w).2.1,(Cx d w).2.2)
def Wc(d:Aa)(w:Ac):List ByteArray→Aa×Ac×Int
 |[]=>(d,w,0)
 |r::rs=>if(Ah d w r).2.2≠0 then Ah d w r else Wc (Ah d w r).1 (Ah d w r).2.1 rs
theorem XeN{d:Aa}{w:Ac}{l:List ByteArray}{k:Nat}(h:k<l.length){x:ByteArray}(hx:l[k]=x):Wc d w (l.drop k)=if(Ah d w x).2.2≠0 then Ah d w x else Wc (Ah d w x).1 (Ah d w x).2.1 (l.drop (k+1)):=by
 rw[List.drop_eq_getElem_cons h,hx];rfl
def Dk(room v s r:Int)(records:List ByteArray):Aa×Int:=
 if XdA v s r then((Gc (Wc (Cq room) (B8 v s r).1 (records.take 200)).1 (Wc (Cq room) (B8 v s r).1 (records.take 200)).2.1).1,
  if(Wc (Cq room) (B8 v s r).1 (records.take 200)).2.2=0 then(Gc (Wc (Cq room) (B8 v s r).1 (records.take 200)).1 (Wc (Cq room) (B8 v s r).1 (records.take 200)).2.1).2.2 else(Wc (Cq room) (B8 v s r).1 (records.take 200)).2.2)
 else(Cq room,3)
theorem Xh0{room:Int}{d:Aa}(h:Cq room=d):Hz d∧d.steps_.length=0:=by
 subst h
 exact⟨by simp[Hz,okD,okL,okS,Cq],rfl⟩
theorem Xh6{v s r:Int}{w:Ac}{b:Bool}(h:B8 v s r=(w,b)):Sq 0 w:=by
 unfold B8 at h
 split at h<;>(cases h;simp[Sq])
variable {F2:List B5} {Co Cn Cm Cp:List (List D)} {Fy F3:List Ag} {Fz:List ByteArray} {G8 G9:Int}
theorem Px{Aj:List B5}{Bk:List (List D)}{An:List Ag}{Bh:List (List D)}{Ao:List Ag}{Bg:List (List D)}{Al:List ByteArray}{Bi:List (List D)}{As:Int}{Aq:Int}{wver:Int}{wstr:Int}{wrol:Int}{wbas:Int}{wlin:Int}{woff:List Int}{xwoff:List (List D)}{wend:Int}{wope:Bool}{wcod:Int}{obver:Int}{obstr:Int}{obrol:Int}{obbas:Int}{oblin:Int}{oboff:List Int}{xoboff:List (List D)}{obend:Int}{obope:Bool}{obcod:Int}{oc:Int}{k:Nat}(Av:Aj.map A5=Bk)(At:An.map Ad=Bh)(Ax:Ao.map Ad=Bg)(Ay:Al.map cS=Bi)(hwoff:woff.map cI=xwoff)(a4:Hz (⟨Aj,An,Ao,Al,As,Aq⟩:Aa))(hst:Al.length<800000000)(hw:Sq k (⟨wver,wstr,wrol,wbas,wlin,woff,wend,wope,wcod⟩:Ac))(hk:k≤1000000)(hr:Gc (⟨Aj,An,Ao,Al,As,Aq⟩:Aa) (⟨wver,wstr,wrol,wbas,wlin,woff,wend,wope,wcod⟩:Ac)=(⟨F2,Fy,F3,Fz,G8,G9⟩,⟨obver,obstr,obrol,obbas,oblin,oboff,obend,obope,obcod⟩,oc))(A7:F2.map A5=Co)(A9:Fy.map Ad=Cn)(A8:F3.map Ad=Cm)(Ba:Fz.map cS=Cp)(hoboff:oboff.map cI=xoboff):Fn Tryz.prog 65 [.agg [.d (.row 3 Bk),.d (.row 2 Bh),.d (.row 2 Bg),.d (.row 1 Bi),I As,I Aq],.agg [I wver,I wstr,I wrol,I wbas,I wlin,.d (.row 1 xwoff),I wend,B wope,I wcod]] [] ⟨.tup [.agg [.d (.row 3 Co),.d (.row 2 Cn),.d (.row 2 Cm),.d (.row 1 Cp),I G8,I G9],.agg [I obver,I obstr,I obrol,I obbas,I oblin,.d (.row 1 xoboff),I obend,B obope,I obcod],I oc],[],[]⟩:=by
 refine Fn.go Xa2 Tryz.func65 fun P hP Q hQ=>?_
 conv=>cbv
 rcases ax:Cx (⟨Aj,An,Ao,Al,As,Aq⟩:Aa) (⟨wver,wstr,wrol,wbas,wlin,woff,wend,wope,wcod⟩:Ac)with⟨⟨af,ag,ah,ai,ak,al⟩,⟨am,an,ao,ap,aq,aj,ar,au,aw⟩,ay⟩
 generalize aa:af.map A5=az
 generalize ab:ag.map Ad=a0
 generalize ac:ah.map Ad=a1
 generalize ad:ai.map cS=a2
 generalize ae:aj.map cI=a3
 refine .dd hP (Yv Av At Ax Ay hwoff a4 (by omega) hw hk ax aa ab ac ad ae) ?_
 conv=>cbv
 refine .eql (fun h2=>?_) fun h2=>?_
 conv=>cbv
 have e:((⟨af,ag,ah,ai,ak,al⟩:Aa),(⟨am,an,ao,ap,aq,aj,ar,au,3⟩:Ac),ay)=Gc (⟨Aj,An,Ao,Al,As,Aq⟩:Aa) (⟨wver,wstr,wrol,wbas,wlin,woff,wend,wope,wcod⟩:Ac):=(by unfold Gc;rw[ax];dsimp only;rw[if_pos h2])
 rw[hr]at e
 simp only[Prod.mk.injEq,Aa.mk.injEq,Ac.mk.injEq]at e
 obtain⟨⟨rfl,rfl,rfl,rfl,rfl,rfl⟩,⟨rfl,rfl,rfl,rfl,rfl,rfl,rfl,rfl,rfl⟩,rfl⟩:=e
 refine hQ _ _ ?_
 exact .many (.inl rfl) rfl rfl (.agg (.d rfl (Aw aa A7) (.d rfl (Aw ab A9) (.d rfl (Aw ac A8) (.d rfl (Aw ad Ba) (.d rfl rfl (.d rfl rfl (.nil))))))) (.agg (.d rfl rfl (.d rfl rfl (.d rfl rfl (.d rfl rfl (.d rfl rfl (.d rfl (Aw ae hoboff) (.d rfl rfl (.d rfl rfl (.d rfl rfl (.nil)))))))))) (.d rfl rfl (.nil))))
 conv=>cbv
 have e:((⟨af,ag,ah,ai,ak,al⟩:Aa),(⟨am,an,ao,ap,aq,aj,ar,au,aw⟩:Ac),ay)=Gc (⟨Aj,An,Ao,Al,As,Aq⟩:Aa) (⟨wver,wstr,wrol,wbas,wlin,woff,wend,wope,wcod⟩:Ac):=(by unfold Gc;rw[ax];dsimp only;rw[if_neg h2])
 rw[hr]at e
 simp only[Prod.mk.injEq,Aa.mk.injEq,Ac.mk.injEq]at e
 obtain⟨⟨rfl,rfl,rfl,rfl,rfl,rfl⟩,⟨rfl,rfl,rfl,rfl,rfl,rfl,rfl,rfl,rfl⟩,rfl⟩:=e
 refine hQ _ _ ?_
 exact .many (.inl rfl) rfl rfl (.agg (.d rfl (Aw aa A7) (.d rfl (Aw ab A9) (.d rfl (Aw ac A8) (.d rfl (Aw ad Ba) (.d rfl rfl (.d rfl rfl (.nil))))))) (.agg (.d rfl rfl (.d rfl rfl (.d rfl rfl (.d rfl rfl (.d rfl rfl (.d rfl (Aw ae hoboff) (.d rfl rfl (.d rfl rfl (.d rfl rfl (.nil)))))))))) (.d rfl rfl (.nil))))
theorem Ug{room:Int}{version:Int}{stride:Int}{roll:Int}{records:List ByteArray}{xrecords:List (List D)}{ob:Int}(hrecords:records.map cS=xrecords)(hr:Dk room version stride roll records=(⟨F2,Fy,F3,Fz,G8,G9⟩,ob))(A7:F2.map A5=Co)(A9:Fy.map Ad=Cn)(A8:F3.map Ad=Cm)(Ba:Fz.map cS=Cp):Fn Tryz.prog 12 [I room,I version,I stride,I roll,.d (.row 1 xrecords)] [] ⟨.tup [.agg [.d (.row 3 Co),.d (.row 2 Cn),.d (.row 2 Cm),.d (.row 1 Cp),I G8,I G9],I ob],[],[]⟩:=by
 refine Fn.go Xa2 Tryz.func12 fun P hP Q hQ=>?_
 conv=>cbv
 rcases cc:Cq room with⟨ak,al,am,an,a2,a3⟩
 generalize bq:ak.map A5=c9
 generalize bs:al.map Ad=da
 generalize bt:am.map Ad=db
 generalize bu:an.map cS=dc
 refine .dd hP (Xe0 cc bq bs bt bu) ?_
 conv=>cbv
 rcases bv:B8 version stride roll with⟨⟨ao,ap,aq,ar,au,aj,aw,ax,ay⟩,fd⟩
 generalize cd:aj.map cI=cx
 refine .dd hP (XaW bv cd) ?_
 conv=>cbv
 obtain⟨fe,ff⟩:=Xh0 cc
 have fg:=Xh6 bv
 simp only[]at ff
 cases fd
 conv=>cbv
 have e:((⟨ak,al,am,an,a2,a3⟩:Aa),3)=Dk room version stride roll records:=(by have hnk:¬XdA version stride roll:=of_decide_eq_false (Qf bv).symm;unfold Dk;rw[if_neg hnk,cc])
 rw[hr]at e
 simp only[Prod.mk.injEq,Aa.mk.injEq]at e
 obtain⟨⟨rfl,rfl,rfl,rfl,rfl,rfl⟩,rfl⟩:=e
 refine hQ _ _ ?_
 exact .many (.inl rfl) rfl rfl (.agg (.d rfl (Aw bq A7) (.d rfl (Aw bs A9) (.d rfl (Aw bt A8) (.d rfl (Aw bu Ba) (.d rfl rfl (.d rfl rfl (.nil))))))) (.d rfl rfl (.nil)))
 conv=>cbv
 have hok:XdA version stride roll:=of_decide_eq_true (Qf bv).symm
 have htl:(records.take 200).length=min 200 records.length:=List.length_take
 refine LoopW.lp (κ:=Int×Int×(List (List D))×(List (List D))×(List (List D))×(List (List D))×Int×Int×Int×Int×Int×Int×Int×(List (List D))×Int×Bool×Int) Xa2 hP [] [4,10,12,13] (fun(az,a5,bm,bn,bo,bp,a0,a1,aa,ab,ac,ad,ae,a9,af,ag,ah)=>[(15,I az),(16,I a5)]) (fun(az,a5,bm,bn,bo,bp,a0,a1,aa,ab,ac,ad,ae,a9,af,ag,ah)=>[(9,.box 28 [.d (.row 3 bm),.d (.row 2 bn),.d (.row 2 bo),.d (.row 1 bp),I a0,I a1]),(11,.box 76 [I aa,I ab,I ac,I ad,I ae,.d (.row 1 a9),I af,B ag,I ah])])
  (fun(az,a5,bm,bn,bo,bp,a0,a1,aa,ab,ac,ad,ae,a9,af,ag,ah)=>∃(a6:List B5) (a7:List Ag) (a8:List Ag) (a4:List ByteArray) (ai:List Int),a6.map A5=bm∧a7.map Ad=bn∧a8.map Ad=bo∧a4.map cS=bp∧ai.map cI=a9∧0≤a5∧a5≤(records.take 200).length∧Hz (⟨a6,a7,a8,a4,a0,a1⟩:Aa)∧a4.length≤10*a5.toNat∧Sq a5.toNat (⟨aa,ab,ac,ad,ae,ai,af,ag,ah⟩:Ac)∧Wc (⟨ak,al,am,an,a2,a3⟩:Aa) (⟨ao,ap,aq,ar,au,aj,aw,ax,ay⟩:Ac) (records.take 200)=if az=0 then Wc (⟨a6,a7,a8,a4,a0,a1⟩:Aa) (⟨aa,ab,ac,ad,ae,ai,af,ag,ah⟩:Ac) ((records.take 200).drop a5.toNat)else((⟨a6,a7,a8,a4,a0,a1⟩:Aa),(⟨aa,ab,ac,ad,ae,ai,af,ag,ah⟩:Ac),az))
  (fun(az,a5,bm,bn,bo,bp,a0,a1,aa,ab,ac,ad,ae,a9,af,ag,ah)=>((records.take 200).length - a5).toNat) (0,0,c9,da,db,dc,a2,a3,ao,ap,aq,ar,au,cx,aw,ax,ay) ⟨ak,al,am,an,aj,bq,bs,bt,bu,cd,by omega,by omega,fe,by omega,fg,rfl⟩ ⟨rfl,rfl,trivial⟩ rfl ?_
 rintro⟨az,a5,bm,bn,bo,bp,a0,a1,aa,ab,ac,ad,ae,a9,af,ag,ah⟩ J ⟨a6,a7,a8,a4,ai,cm,cn,co,cp,bw,h0,h1,cy,hqs,hqw,hio⟩ hJ
 conv=>cbv
 refine .go hrecords fun v3 fm=>?_
 conv=>cbv
 refine .lss (fun h4=>?_) fun h4=>?_
 conv=>cbv
 refine .lss (fun h5=>?_) fun h5=>?_
 conv=>cbv
 refine .eql (fun h6=>?_) fun h6=>?_
 conv=>cbv
 refine .go a5.toNat hrecords fun fl e7 fh=>?_
 conv=>cbv
 rcases dz:Ah (⟨a6,a7,a8,a4,a0,a1⟩:Aa) (⟨aa,ab,ac,ad,ae,ai,af,ag,ah⟩:Ac) e7 with⟨⟨de,df,dg,dh,di,dj⟩,⟨dk,dl,dm,dn,dp,dq,dr,ds,dt⟩,d0⟩
 generalize ce:de.map A5=cz
 generalize cf:df.map Ad=c0
 generalize cg:dg.map Ad=c1
 generalize cj:dh.map cS=c2
 generalize ck:dq.map cI=c3
 refine .dd hP (Xbb cm cn co cp bw cy (by omega) hqw (by omega) dz ce cf cg cj ck) ?_
 conv=>cbv
 obtain⟨c4,d1,c5⟩:=XgP (r:=e7) cy (by show a4.length<_;omega) hqw
 have hstep:=XeN (d:=(⟨a6,a7,a8,a4,a0,a1⟩:Aa)) (w:=(⟨aa,ab,ac,ad,ae,ai,af,ag,ah⟩:Ac)) (l:=(records.take 200)) (k:=a5.toNat) (x:=e7) (show a5.toNat<(records.take 200).length by omega) (by rw[List.getElem_take];exact fh.symm)
 rw[dz]at c4 d1 c5 hstep
 simp only[]at d1
 dsimp only at hstep
 refine .add fun v9 fn=>?_
 conv=>cbv
 exact .go [] (d0,v9,cz,c0,c1,c2,di,dj,dk,dl,dm,dn,dp,c3,dr,ds,dt) (hJ _ ⟨_,_,_,_,_,ce,cf,cg,cj,ck,by omega,by omega,c4,by omega,by rw[show v9.toNat=a5.toNat+1 by omega];exact c5,by rw[hio,if_pos (by omega),hstep,show v9.toNat=a5.toNat+1 by omega];by_cases hz:d0=0<;>simp[hz]⟩ mlt)
 conv=>cbv
 rcases d2:Gc (⟨a6,a7,a8,a4,a0,a1⟩:Aa) (⟨aa,ab,ac,ad,ae,ai,af,ag,ah⟩:Ac)with⟨⟨bz,b0,b1,b2,cq,cr⟩,⟨ei,ej,ek,eo,ep,du,er,es,et⟩,fi⟩
 generalize ba:bz.map A5=d3
 generalize bb:b0.map Ad=d4
 generalize bc:b1.map Ad=d5
 generalize bd:b2.map cS=d6
 generalize c6:du.map cI=d7
 refine .dd hP (Px cm cn co cp bw (by first|exact c4|exact cy) (by omega) (by first|exact c5|exact hqw) (by omega) d2 ba bb bc bd c6) ?_
 conv=>cbv
 refine .eql (fun h8=>?_) fun h8=>?_
 conv=>cbv
 have e:((⟨bz,b0,b1,b2,cq,cr⟩:Aa),fi)=Dk room version stride roll records:=(by exact absurd h8 h6)
 rw[hr]at e
 simp only[Prod.mk.injEq,Aa.mk.injEq]at e
 obtain⟨⟨rfl,rfl,rfl,rfl,rfl,rfl⟩,rfl⟩:=e
 refine hQ _ _ ?_
 exact .many (.inl rfl) rfl rfl (.agg (.d rfl (Aw ba A7) (.d rfl (Aw bb A9) (.d rfl (Aw bc A8) (.d rfl (Aw bd Ba) (.d rfl rfl (.d rfl rfl (.nil))))))) (.d rfl rfl (.nil)))
 conv=>cbv
 have e:((⟨bz,b0,b1,b2,cq,cr⟩:Aa),az)=Dk room version stride roll records:=(by have hwa:Wc (⟨ak,al,am,an,a2,a3⟩:Aa) (⟨ao,ap,aq,ar,au,aj,aw,ax,ay⟩:Ac) (records.take 200)=((⟨a6,a7,a8,a4,a0,a1⟩:Aa),(⟨aa,ab,ac,ad,ae,ai,af,ag,ah⟩:Ac),az):=(by exact hio.trans (if_neg h6));unfold Dk;rw[if_pos hok,cc,bv];dsimp only;rw[hwa];dsimp only;rw[if_neg h6,d2])
 rw[hr]at e
 simp only[Prod.mk.injEq,Aa.mk.injEq]at e
 obtain⟨⟨rfl,rfl,rfl,rfl,rfl,rfl⟩,rfl⟩:=e
 refine hQ _ _ ?_
 exact .many (.inl rfl) rfl rfl (.agg (.d rfl (Aw ba A7) (.d rfl (Aw bb A9) (.d rfl (Aw bc A8) (.d rfl (Aw bd Ba) (.d rfl rfl (.d rfl rfl (.nil))))))) (.d rfl rfl (.nil)))
 conv=>cbv
 rcases dx:Gc (⟨a6,a7,a8,a4,a0,a1⟩:Aa) (⟨aa,ab,ac,ad,ae,ai,af,ag,ah⟩:Ac)with⟨⟨b3,b4,b5,b6,ct,cu⟩,⟨eu,ew,ex,ey,e0,dv,e1,e2,e3⟩,fj⟩
 generalize be:b3.map A5=d8
 generalize bf:b4.map Ad=d9
 generalize bg:b5.map Ad=ea
 generalize bh:b6.map cS=eb
 generalize c7:dv.map cI=ec
 refine .dd hP (Px cm cn co cp bw (by first|exact c4|exact cy) (by omega) (by first|exact c5|exact hqw) (by omega) dx be bf bg bh c7) ?_
 conv=>cbv
 refine .eql (fun h7=>?_) fun h7=>?_
 conv=>cbv
 have e:((⟨b3,b4,b5,b6,ct,cu⟩:Aa),fj)=Dk room version stride roll records:=(by have hwa:Wc (⟨ak,al,am,an,a2,a3⟩:Aa) (⟨ao,ap,aq,ar,au,aj,aw,ax,ay⟩:Ac) (records.take 200)=((⟨a6,a7,a8,a4,a0,a1⟩:Aa),(⟨aa,ab,ac,ad,ae,ai,af,ag,ah⟩:Ac),az):=(by rw[hio];rcases Decidable.em (az=0)with hz|hz;(rw[if_pos hz,List.drop_of_length_le (by omega),hz];rfl);exact if_neg hz);unfold Dk;rw[if_pos hok,cc,bv];dsimp only;rw[hwa];dsimp only;rw[if_pos h7,dx])
 rw[hr]at e
 simp only[Prod.mk.injEq,Aa.mk.injEq]at e
 obtain⟨⟨rfl,rfl,rfl,rfl,rfl,rfl⟩,rfl⟩:=e
 refine hQ _ _ ?_
 exact .many (.inl rfl) rfl rfl (.agg (.d rfl (Aw be A7) (.d rfl (Aw bf A9) (.d rfl (Aw bg A8) (.d rfl (Aw bh Ba) (.d rfl rfl (.d rfl rfl (.nil))))))) (.d rfl rfl (.nil)))
 conv=>cbv
 have e:((⟨b3,b4,b5,b6,ct,cu⟩:Aa),az)=Dk room version stride roll records:=(by have hwa:Wc (⟨ak,al,am,an,a2,a3⟩:Aa) (⟨ao,ap,aq,ar,au,aj,aw,ax,ay⟩:Ac) (records.take 200)=((⟨a6,a7,a8,a4,a0,a1⟩:Aa),(⟨aa,ab,ac,ad,ae,ai,af,ag,ah⟩:Ac),az):=(by rw[hio];rcases Decidable.em (az=0)with hz|hz;(rw[if_pos hz,List.drop_of_length_le (by omega),hz];rfl);exact if_neg hz);unfold Dk;rw[if_pos hok,cc,bv];dsimp only;rw[hwa];dsimp only;rw[if_neg h7,dx])
 rw[hr]at e
 simp only[Prod.mk.injEq,Aa.mk.injEq]at e
 obtain⟨⟨rfl,rfl,rfl,rfl,rfl,rfl⟩,rfl⟩:=e
 refine hQ _ _ ?_
 exact .many (.inl rfl) rfl rfl (.agg (.d rfl (Aw be A7) (.d rfl (Aw bf A9) (.d rfl (Aw bg A8) (.d rfl (Aw bh Ba) (.d rfl rfl (.d rfl rfl (.nil))))))) (.d rfl rfl (.nil)))
 conv=>cbv
 rcases dy:Gc (⟨a6,a7,a8,a4,a0,a1⟩:Aa) (⟨aa,ab,ac,ad,ae,ai,af,ag,ah⟩:Ac)with⟨⟨b7,b8,b9,ca,cv,cw⟩,⟨e4,e5,e6,e8,e9,dw,fa,fb,fc⟩,fk⟩
 generalize bi:b7.map A5=ed
 generalize bj:b8.map Ad=ee
 generalize bk:b9.map Ad=ef
 generalize bl:ca.map cS=eg
 generalize c8:dw.map cI=eh
 refine .dd hP (Px cm cn co cp bw (by first|exact c4|exact cy) (by omega) (by first|exact c5|exact hqw) (by omega) dy bi bj bk bl c8) ?_
 conv=>cbv
 refine .eql (fun h6=>?_) fun h6=>?_
 conv=>cbv
 have e:((⟨b7,b8,b9,ca,cv,cw⟩:Aa),fk)=Dk room version stride roll records:=(by have hwa:Wc (⟨ak,al,am,an,a2,a3⟩:Aa) (⟨ao,ap,aq,ar,au,aj,aw,ax,ay⟩:Ac) (records.take 200)=((⟨a6,a7,a8,a4,a0,a1⟩:Aa),(⟨aa,ab,ac,ad,ae,ai,af,ag,ah⟩:Ac),az):=(by rw[hio];rcases Decidable.em (az=0)with hz|hz;(rw[if_pos hz,List.drop_of_length_le (by omega),hz];rfl);exact if_neg hz);unfold Dk;rw[if_pos hok,cc,bv];dsimp only;rw[hwa];dsimp only;rw[if_pos h6,dy])
 rw[hr]at e
 simp only[Prod.mk.injEq,Aa.mk.injEq]at e
 obtain⟨⟨rfl,rfl,rfl,rfl,rfl,rfl⟩,rfl⟩:=e
 refine hQ _ _ ?_
 exact .many (.inl rfl) rfl rfl (.agg (.d rfl (Aw bi A7) (.d rfl (Aw bj A9) (.d rfl (Aw bk A8) (.d rfl (Aw bl Ba) (.d rfl rfl (.d rfl rfl (.nil))))))) (.d rfl rfl (.nil)))
 conv=>cbv
 have e:((⟨b7,b8,b9,ca,cv,cw⟩:Aa),az)=Dk room version stride roll records:=(by have hwa:Wc (⟨ak,al,am,an,a2,a3⟩:Aa) (⟨ao,ap,aq,ar,au,aj,aw,ax,ay⟩:Ac) (records.take 200)=((⟨a6,a7,a8,a4,a0,a1⟩:Aa),(⟨aa,ab,ac,ad,ae,ai,af,ag,ah⟩:Ac),az):=(by rw[hio];rcases Decidable.em (az=0)with hz|hz;(rw[if_pos hz,List.drop_of_length_le (by omega),hz];rfl);exact if_neg hz);unfold Dk;rw[if_pos hok,cc,bv];dsimp only;rw[hwa];dsimp only;rw[if_neg h6,dy])
 rw[hr]at e
 simp only[Prod.mk.injEq,Aa.mk.injEq]at e
 obtain⟨⟨rfl,rfl,rfl,rfl,rfl,rfl⟩,rfl⟩:=e
 refine hQ _ _ ?_
 exact .many (.inl rfl) rfl rfl (.agg (.d rfl (Aw bi A7) (.d rfl (Aw bj A9) (.d rfl (Aw bk A8) (.d rfl (Aw bl Ba) (.d rfl rfl (.d rfl rfl (.nil))))))) (.d rfl rfl (.nil)))
end
section
open Go Go.Proofs
set_option maxRecDepth 20000
set_option maxHeartbeats 4000000
theorem XhN{l:List ByteArray}:∀{d:Aa} {w:Ac} {k:Nat},Hz d→d.steps_.length+10*l.length≤800000000→Sq k w→Hz (Wc d w l).1∧(Wc d w l).1.steps_.length≤d.steps_.length+10*l.length:=by
 induction l with
 |nil=>exact fun h _ _=>⟨h,Nat.le_add_right _ _⟩
 |cons x l ih=>
  intro d w k h hl hw
  rw[List.length_cons]at hl⊢
  have h1:=XgP (r:=x) h (by omega) hw
  have h2:=h1.2.1
  unfold Wc
  split
  ·exact⟨h1.1,by omega⟩
  ·have h3:=ih h1.1 (by omega) h1.2.2
   exact⟨h3.1,by have:=h3.2;omega⟩
theorem Xie{room v s r:Int}{l:List ByteArray}:Hz (Dk room v s r l).1:=by
 have hd:=Xh0 (rfl:Cq room=_)
 unfold Dk
 split
 ·have h:=XhN (l:=l.take 200) hd.1 (by rw[hd.2,List.length_take];omega) (Xh6 (rfl:B8 v s r=((B8 v s r).1,(B8 v s r).2)))
  show Hz (Cx _ _).1
  unfold Cx
  split
  ·exact h.1
  ·exact(We h.1).1
 ·exact hd.1
end
section
open Go Go.Proofs
set_option maxRecDepth 20000
set_option maxHeartbeats 4000000
def Qk:List (Nat×TyRow):=[ty3,ty9,XfZ,Xax,Xbj,XaE]
theorem Rf:B3 Tryz.prog Qk:=B3.of (by kernel_rfl)
theorem Ix:Setup Tryz.prog Qk:=⟨Rf,mixed⟩
theorem XhA:∀(l:List ByteArray) (m:Int),(m≤l.foldl (fun m t=>max m (t.size:Int)) m∧∀t∈l,(t.size:Int)≤l.foldl (fun m t=>max m (t.size:Int)) m)∧(l.foldl (fun m t=>max m (t.size:Int)) m=m∨∃t∈l,(t.size:Int)=l.foldl (fun m t=>max m (t.size:Int)) m)
 |[],m=>⟨⟨Int.le_refl _,fun t ht=>by cases ht⟩,.inl rfl⟩
 |x::l,m=>by
  rw[List.foldl_cons]
  have h:=XhA l (max m (x.size:Int))
  generalize l.foldl (fun m t=>max m (t.size:Int)) (max m (x.size:Int))=v at h⊢
  refine⟨⟨by omega,fun t ht=>?_⟩,?_⟩
  ·rcases List.mem_cons.1 ht with rfl|ht
   ·omega
   ·exact h.1.2 t ht
  ·rcases h.2 with e|⟨t,ht,e⟩
   ·by_cases hx:m≤(x.size:Int)
    ·exact .inr ⟨x,by simp,by omega⟩
    ·exact .inl (by omega)
   ·exact .inr ⟨t,by simp[ht],e⟩
theorem Wi{l:List ByteArray}{t:ByteArray}(h:t∈l):(t.size:Int)≤Xdp l:=(XhA l 0).1.2 t h
theorem Xgz(l:List ByteArray):(l=[]∧Xdp l=0)∨∃t∈l,(t.size:Int)=Xdp l:=by
 rcases(XhA l 0).2 with e|h
 ·cases l with
  |nil=>exact .inl ⟨rfl,rfl⟩
  |cons x l=>
   right
   have h1:=Wi (l:=x::l) (t:=x) (by simp)
   have e':Xdp (x::l)=0:=e
   exact⟨x,by simp,by omega⟩
 ·exact .inr h
theorem XbP:Hi (Dk 900 1 1 1 [tx [97]]).1=58:=by kernel_rfl
def Ft(code:List UInt8):Bool:=true
theorem Xq{Aj:List B5}{Bk:List (List D)}{An:List Ag}{Bh:List (List D)}{Ao:List Ag}{Bg:List (List D)}{Al:List ByteArray}{Bi:List (List D)}{As:Int}{Aq:Int}{o:List ByteArray}{xo:List (List D)}(Av:Aj.map A5=Bk)(At:An.map Ad=Bh)(Ax:Ao.map Ad=Bg)(Ay:Al.map cS=Bi)(hd:okD (⟨Aj,An,Ao,Al,As,Aq⟩:Aa))(hr:Eu (⟨Aj,An,Ao,Al,As,Aq⟩:Aa)=o)(ho:o.map cS=xo):Fn Tryz.prog 11 [.agg [.d (.row 3 Bk),.d (.row 2 Bh),.d (.row 2 Bg),.d (.row 1 Bi),I As,I Aq]] [] ⟨.d (.row 1 xo),[],[]⟩:=by
 refine Fn.go Ix Tryz.func11 fun P hP Q hQ=>?_
 conv=>cbv
 generalize ac:K8 (⟨Aj,An,Ao,Al,As,Aq⟩:Aa)=l1
 generalize ad:l1.map cI=am
 have zl1:=Pc ac
 refine .dd hP (XhS Av At Ax Ay hd ac ad) ?_
 conv=>cbv
 refine LoopW.lp (κ:=Int×(List (List D))×Nat) Ix hP [2] [1,4] (fun(i5,aa,ab)=>[(3,.ref 3 0 ab),(5,I i5)]) (fun(i5,aa,ab)=>[(3,.row 1 false aa)])
  (fun(i5,aa,ab)=>∃(w3:List ByteArray),w3.map cS=aa∧ab=w3.length∧0≤i5∧i5≤l1.length∧w3=(l1.take i5.toNat).map (Df (⟨Aj,An,Ao,Al,As,Aq⟩:Aa))∧w3.length=i5.toNat)
  (fun(i5,aa,ab)=>(l1.length - i5).toNat) (0,[],0) ⟨[],rfl,rfl,by omega,by omega,by simp,rfl⟩ ⟨rfl,rfl,trivial⟩ rfl ?_
 rintro⟨i5,aa,ab⟩ J ⟨w3,ae,ak,h0,h1,hx,hwl⟩ hJ
 conv=>cbv
 refine .go ad fun v2 an=>?_
 conv=>cbv
 refine .lss (fun h3=>?_) fun h3=>?_
 conv=>cbv
 refine .go i5.toNat ad fun af e4 ah=>?_
 conv=>cbv
 generalize ag:Df (⟨Aj,An,Ao,Al,As,Aq⟩:Aa) e4=r5
 refine .dd hP (Wv Av At Ax Ay hd ag) ?_
 conv=>cbv
 refine .one r5 ae rfl fun ai z6 al aj=>?_
 conv=>cbv
 refine .add fun v7 ao=>?_
 conv=>cbv
 exact .go [5] (v7,z6,ai) (hJ _ ⟨_,aj,Em,by omega,by omega,by rw[show v7.toNat=i5.toNat+1 by omega,List.take_succ_eq_append_getElem af,List.map_append,←hx,←ah,List.map_singleton,ag],by rw[List.length_append,hwl];simp;omega⟩ mlt)
 conv=>cbv
 have e:w3=Eu (⟨Aj,An,Ao,Al,As,Aq⟩:Aa):=(by rw[Nm,ac,hx,List.take_of_length_le (by omega)])
 rw[hr]at e
 subst e
 exact hQ _ _ (.r rfl rfl (Ae ae) (by rw[←ae,←ho]))
theorem Xak{code:List UInt8}{xcode:List (List D)}{o:Bool}(hcode:code.map cB=xcode)(hr:Ft code=o):Fn Tryz.prog 3 [.d (.row 1 xcode)] [] ⟨B o,[],[]⟩:=by
 refine Fn.go Ix Tryz.func3 fun P hP Q hQ=>?_
 conv=>cbv
 generalize bh:XhY code=r1
 refine .dd hP (Flbig hcode bh) ?_
 cases r1
 conv=>cbv
 have hb:code.length≤1000000000000:=by have:=of_decide_eq_false bh;omega
 rcases bi:Hs code with⟨ae,af,ag,ah,ay,az⟩
 generalize aa:ae.map A5=bw
 generalize ab:af.map Ad=bz
 generalize ac:ag.map Ad=b0
 generalize ad:ah.map cS=b1
 obtain⟨nr2nod,hnr2nod⟩:∃m,m=ae.length:=⟨_,rfl⟩
 obtain⟨nr2ent,hnr2ent⟩:∃m,m=af.length:=⟨_,rfl⟩
 obtain⟨nr2old,hnr2old⟩:∃m,m=ag.length:=⟨_,rfl⟩
 obtain⟨nr2ste,hnr2ste⟩:∃m,m=ah.length:=⟨_,rfl⟩
 have a7:=XeY (show Wj code=_ from bi) (by omega)
 refine .ddN hP (Qq hcode hb bi aa ab ac ad hnr2nod hnr2ent hnr2old hnr2ste) rfl ?_
 conv=>cbv
 generalize bj:Hi (⟨ae,af,ag,ah,ay,az⟩:Aa)=r3
 refine .lnt hP (Nh aa ab ac ad (by first|exact a7.1|exact hw.1) bj) (.agg (.ref rfl (Ae aa) (.ref rfl (Ae ab) (.ref rfl (Ae ac) (.ref rfl (Ae ad) (.d rfl (.d rfl .nil)))))) .nil) ?_
 conv=>cbv
 generalize ba:Eu (⟨ae,af,ag,ah,ay,az⟩:Aa)=l4
 generalize a0:l4.map cS=cf
 refine .lntD hP (Xq aa ab ac ad a7.1 ba a0) (.agg (.ref rfl (Ae aa) (.ref rfl (Ae ab) (.ref rfl (Ae ac) (.ref rfl (Ae ad) (.d rfl (.d rfl .nil)))))) .nil) ?_
 conv=>cbv
 have b8:l4.length≤1000:=by rw[←ba,Nm,List.length_map];have:=Pc (rfl:K8 (⟨ae,af,ag,ah,ay,az⟩:Aa)=_);omega
 have hmx:Xdp l4=r3:=by rw[←ba,←bj];rfl
 refine .go a0 fun v5 bk=>?_
 conv=>cbv
 refine .eql (fun h6=>?_) fun h6=>?_
 conv=>cbv
 refine .eql (fun h7=>?_) fun h7=>?_
 conv=>cbv
 refine LoopW.lp (κ:=Int) Ix hP [] [4,5,6] (fun i7=>[(7,I i7)]) (fun i7=>[])
  (fun i7=>0≤i7∧i7≤l4.length∧True)
  (fun i7=>(l4.length - i7).toNat) (0) ⟨by omega,by omega,trivial⟩ ⟨rfl,trivial⟩ rfl ?_
 rintro i7 J ⟨k0,k1,hm⟩ hJ
 conv=>cbv
 refine .go a0 fun v8 cg=>?_
 conv=>cbv
 refine .lss (fun h9=>?_) fun h9=>?_
 conv=>cbv
 refine .go i7.toNat a0 fun b2 b3 bl=>?_
 conv=>cbv
 refine .go fun cj b9=>?_
 conv=>cbv
 refine .gtr (fun h12=>?_) fun h12=>?_
 conv=>cbv
 have e:false=Ft code:=(by exfalso;have:=Wi (l:=l4) (t:=b3) (by rw[bl];exact List.getElem_mem _);omega)
 rw[hr]at e
 subst e
 exact hQ _ _ (.b rfl rfl)
 conv=>cbv
 refine .add fun bm bn=>?_
 conv=>cbv
 exact .go [] (bm) (hJ _ ⟨by omega,by omega,by first|trivial|exact .inl rfl⟩ mlt)
 conv=>cbv
 rcases am:Dk 900 1 1 1 [(tx [97])]with⟨⟨an,ao,ap,aq,a5,a6⟩,ca⟩
 generalize ai:an.map A5=bd
 generalize aj:ao.map Ad=be
 generalize ak:ap.map Ad=bf
 generalize al:aq.map cS=bg
 have hw:=Xie (room:=900) (v:=1) (s:=1) (r:=1) (l:=[tx [97]])
 rw[am]at hw
 dsimp only at hw
 refine .lntD hP (Ug rfl am ai aj ak al) (.d rfl (.d rfl (.d rfl (.d rfl (.ref rfl rfl .nil))))) ?_
 conv=>cbv
 generalize bo:Hi (⟨an,ao,ap,aq,a5,a6⟩:Aa)=ck
 refine .dd hP (Nh ai aj ak al (by first|exact a7.1|exact hw.1) bo) ?_
 conv=>cbv
 refine .eql (fun h12=>?_) fun h12=>?_
 conv=>cbv
 have e:true=Ft code:=(by rfl)
 rw[hr]at e
 subst e
 exact hQ _ _ (.b rfl rfl)
 conv=>cbv
 have e:false=Ft code:=(by exfalso;have h58:=XbP;rw[am]at h58;dsimp only at h58;omega)
 rw[hr]at e
 subst e
 exact hQ _ _ (.b rfl rfl)
 exact absurd (show r3=0 by rw[←hmx,List.eq_nil_of_length_eq_zero (show l4.length=0 by omega)];rfl) h7
 conv=>cbv
 refine LoopW.lp (κ:=Bool×Int) Ix hP [] [4,5] (fun(b6,i7)=>[(6,B b6),(7,I i7)]) (fun(b6,i7)=>[])
  (fun(b6,i7)=>0≤i7∧i7≤l4.length∧(b6=true∨∀(j:Nat) (hj:j<l4.length),j<i7.toNat→((l4[j].size:Nat):Int)≠r3))
  (fun(b6,i7)=>(l4.length - i7).toNat) (false,0) ⟨by omega,by omega,.inr fun j _ h=>by simp at h⟩ ⟨rfl,rfl,trivial⟩ rfl ?_
 rintro⟨b6,i7⟩ J ⟨k0,k1,hm⟩ hJ
 conv=>cbv
 refine .go a0 fun v7 cm=>?_
 conv=>cbv
 refine .lss (fun h8=>?_) fun h8=>?_
 conv=>cbv
 refine .go i7.toNat a0 fun cc e9 b4=>?_
 conv=>cbv
 refine .go fun cn cd=>?_
 conv=>cbv
 refine .gtr (fun h11=>?_) fun h11=>?_
 conv=>cbv
 have e:false=Ft code:=(by exfalso;have:=Wi (l:=l4) (t:=e9) (by rw[b4];exact List.getElem_mem _);omega)
 rw[hr]at e
 subst e
 exact hQ _ _ (.b rfl rfl)
 conv=>cbv
 cases b6
 conv=>cbv
 refine .go i7.toNat a0 fun b5 co bp=>?_
 conv=>cbv
 refine .go fun bm bn=>?_
 conv=>cbv
 refine .eql (fun h14=>?_) fun h14=>?_
 conv=>cbv
 refine .add fun bb bq=>?_
 conv=>cbv
 exact .go [] (true,bb) (hJ _ ⟨by omega,by omega,by first|trivial|exact .inl rfl⟩ mlt)
 conv=>cbv
 refine .add fun bb bq=>?_
 conv=>cbv
 exact .go [] (false,bb) (hJ _ ⟨by omega,by omega,.inr fun j hj h=>if e:j=i7.toNat then by subst e;rw[←bp];omega else(hm.resolve_left Bool.false_ne_true) j hj (by omega)⟩ mlt)
 conv=>cbv
 refine .add fun b7 ce=>?_
 conv=>cbv
 exact .go [] (true,b7) (hJ _ ⟨by omega,by omega,.inl rfl⟩ mlt)
 conv=>cbv
 rcases bc:Dk 900 1 1 1 [(tx [97])]with⟨⟨a1,a2,a3,a4,a8,a9⟩,cp⟩
 generalize ar:a1.map A5=bs
 generalize au:a2.map Ad=bt
 generalize aw:a3.map Ad=bu
 generalize ax:a4.map cS=bv
 have hw:=Xie (room:=900) (v:=1) (s:=1) (r:=1) (l:=[tx [97]])
 rw[bc]at hw
 dsimp only at hw
 refine .lntD hP (Ug rfl bc ar au aw ax) (.d rfl (.d rfl (.d rfl (.d rfl (.ref rfl rfl .nil))))) ?_
 conv=>cbv
 cases b6
 conv=>cbv
 have e:false=Ft code:=(by exfalso;rcases Xgz l4 with h|⟨t,ht,h⟩;(rw[h.1]at bk;exact h6 bk);obtain⟨j,hj,rfl⟩:=List.getElem_of_mem ht;exact(hm.resolve_left Bool.false_ne_true) j hj (by omega) (by omega))
 rw[hr]at e
 subst e
 exact hQ _ _ (.b rfl rfl)
 conv=>cbv
 generalize am:Hi (⟨a1,a2,a3,a4,a8,a9⟩:Aa)=cq
 refine .dd hP (Nh ar au aw ax (by first|exact a7.1|exact hw.1) am) ?_
 conv=>cbv
 refine .eql (fun h11=>?_) fun h11=>?_
 conv=>cbv
 have e:true=Ft code:=(by rfl)
 rw[hr]at e
 subst e
 exact hQ _ _ (.b rfl rfl)
 conv=>cbv
 have e:false=Ft code:=(by exfalso;have h58:=XbP;rw[bc]at h58;dsimp only at h58;omega)
 rw[hr]at e
 subst e
 exact hQ _ _ (.b rfl rfl)
 conv=>cbv
 have e:true=Ft code:=(by rfl)
 rw[hr]at e
 subst e
 exact hQ _ _ (.b rfl rfl)
theorem T3{code:List UInt8}{xcode:List (List D)}(hcode:code.map cB=xcode)(ok_code:code.length<2^47):CallOk Tryz.prog 3 [.d (.row 1 xcode)] [] ⟨.d (.sc (.bool true)),[],[]⟩:=(Xak (code:=code) hcode rfl).ok
end
end Go.Proofs.YtjbmpmmffjgedaaGreatDoor.Ab
