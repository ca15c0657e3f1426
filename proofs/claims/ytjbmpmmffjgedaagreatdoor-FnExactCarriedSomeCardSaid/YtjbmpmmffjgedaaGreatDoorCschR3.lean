/- What functions come to. -/
import Derived.Test.YtjbmpmmffjgedaaGreatDoorCsch06j
import Derived.Test.YtjbmpmmffjgedaaGreatDoorCsZ9
set_option linter.unusedVariables false
set_option linter.unusedSimpArgs false
set_option maxHeartbeats 4000000
set_option maxRecDepth 20000
namespace Go.Proofs.YtjbmpmmffjgedaaGreatDoor.Ab
section
open Go Go.Proofs
def Xen:List (Nat×TyRow):=[ty3,ty9,Xgt,XdN,Xcu,Xal,W0]
theorem XcH:B8 Tryz.prog Xen:=B8.of (by kernel_rfl)
theorem S5:Setup Tryz.prog Xen:=⟨XcH,mixed⟩
variable {Ae Fd:List Bg} {Bv Bq Bn Br Cc Cb Ca B9:List (List D)} {Al Ak Fb Fc:List Ad} {Ag Fa:List ByteArray} {At Ap Gd Gf ob:Int} {name:ByteArray} {noanod noaent noaold noaste:Nat}
theorem Yq(An:Ae.map Bi=Bv)(Am:Al.map Ac=Bq)(Aq:Ak.map Ac=Bn)(As:Ag.map cS=Br)(hn:Ae.length≤1000000000)(he:Al.length≤1000000000)(ho:Ak.length≤1000000000)(hs:Ag.length<1000000000)(hss:okS Ag)(ar:Jw (⟨Ae,Al,Ak,Ag,At,Ap⟩:Aa))(hm:name.size<1000000000)(hr:Db (⟨Ae,Al,Ak,Ag,At,Ap⟩:Aa) name=(⟨Fd,Fb,Fc,Fa,Gd,Gf⟩,ob))(By:Fd.map Bi=Cc)(Bx:Fb.map Ac=Cb)(Bz:Fc.map Ac=Ca)(B0:Fa.map cS=B9)(hnoanod:noanod=Fd.length)(hnoaent:noaent=Fb.length)(hnoaold:noaold=Fc.length)(hnoaste:noaste=Fa.length):Fn Tryz.prog 256 [.agg [.d (.row 3 Bv),.d (.row 2 Bq),.d (.row 2 Bn),.d (.row 1 Br),I At,I Ap],S name] [] ⟨.tup [.agg [.ref 0 0 noanod,.ref 1 0 noaent,.ref 2 0 noaold,.ref 3 0 noaste,I Gd,I Gf],I ob],[.row 3 false Cc,.row 2 false Cb,.row 2 false Ca,.row 1 false B9],[]⟩:=by
 refine Fn.goR S5 Tryz.func256 fun P hP Q hQ=>?_
 conv=>cbv
 obtain⟨n2,au⟩:∃m,m=Ae.length:=⟨_,rfl⟩
 obtain⟨ai,aj⟩:∃m,m=Al.length:=⟨_,rfl⟩
 obtain⟨af,ak⟩:∃m,m=Ak.length:=⟨_,rfl⟩
 obtain⟨n3,aw⟩:∃m,m=Ag.length:=⟨_,rfl⟩
 refine .ddN hP (Fz An Am Aq As (by omega) (by omega) (by omega) (by omega) rfl An Am Aq As au aj ak aw) rfl ?_
 conv=>cbv
 generalize ag:Bk (⟨Ae,Al,Ak,Ag,At,Ap⟩:Aa)=r4
 refine .dd hP (O3 An Am Aq As ar ag) ?_
 cases r4
 conv=>cbv
 have e:((⟨Ae,Al,Ak,Ag,At,Ap⟩:Aa),3)=Db (⟨Ae,Al,Ak,Ag,At,Ap⟩:Aa) name:=(by unfold Db;rw[if_pos (.inl ag)])
 rw[hr]at e
 simp only[Prod.mk.injEq,Aa.mk.injEq]at e
 obtain⟨⟨rfl,rfl,rfl,rfl,rfl,rfl⟩,rfl⟩:=e
 obtain rfl:Bv=Cc:=by rw[←An,←By]
 obtain rfl:n2=noanod:=by first|omega|(rw[hnoanod];simp;done)|(rw[hnoanod];simp;omega)
 obtain rfl:Bq=Cb:=by rw[←Am,←Bx]
 obtain rfl:ai=noaent:=by first|omega|(rw[hnoaent];simp;done)|(rw[hnoaent];simp;omega)
 obtain rfl:Bn=Ca:=by rw[←Aq,←Bz]
 obtain rfl:af=noaold:=by first|omega|(rw[hnoaold];simp;done)|(rw[hnoaold];simp;omega)
 obtain rfl:Br=B9:=by rw[←As,←B0]
 obtain rfl:n3=noaste:=by first|omega|(rw[hnoaste];simp;done)|(rw[hnoaste];simp;omega)
 exact hQ _ _ (.o [6,7,8,9] rfl)
 conv=>cbv
 generalize al:Ao Al name=r5
 refine .dd hP (Kk Am (by omega) al) ?_
 conv=>cbv
 refine .lss (fun h6=>?_) fun h6=>?_
 conv=>cbv
 have e:((⟨Ae,Al,Ak,Ag,At,Ap⟩:Aa),3)=Db (⟨Ae,Al,Ak,Ag,At,Ap⟩:Aa) name:=(by unfold Db;rw[if_pos (.inr (by rw[al];exact h6))])
 rw[hr]at e
 simp only[Prod.mk.injEq,Aa.mk.injEq]at e
 obtain⟨⟨rfl,rfl,rfl,rfl,rfl,rfl⟩,rfl⟩:=e
 obtain rfl:Bv=Cc:=by rw[←An,←By]
 obtain rfl:n2=noanod:=by first|omega|(rw[hnoanod];simp;done)|(rw[hnoanod];simp;omega)
 obtain rfl:Bq=Cb:=by rw[←Am,←Bx]
 obtain rfl:ai=noaent:=by first|omega|(rw[hnoaent];simp;done)|(rw[hnoaent];simp;omega)
 obtain rfl:Bn=Ca:=by rw[←Aq,←Bz]
 obtain rfl:af=noaold:=by first|omega|(rw[hnoaold];simp;done)|(rw[hnoaold];simp;omega)
 obtain rfl:Br=B9:=by rw[←As,←B0]
 obtain rfl:n3=noaste:=by first|omega|(rw[hnoaste];simp;done)|(rw[hnoaste];simp;omega)
 exact hQ _ _ (.o [6,7,8,9] rfl)
 conv=>cbv
 refine .litL 1 fun s7 ax a0=>?_
 conv=>cbv
 generalize aa:(Ah Al s7).1=ab
 generalize ac:ab.map Ac=am
 obtain⟨nen12,hnen12⟩:∃m,m=ab.length:=⟨_,rfl⟩
 generalize an:Ka Ae Ak (Ag++[s7])=o9
 obtain⟨ay,ao⟩:∃m,m=o9.length:=⟨_,rfl⟩
 generalize ad:o9.map Bi=ap
 generalize ae:(Ag++[s7]).map cS=az
 obtain⟨aq,ah⟩:∃m,m=(Ag++[s7]).length:=⟨_,rfl⟩
 refine .bx [14,6,7,8,9] [6,7,8,9] hP (Nh An Am Aq As (by first|assumption|omega|(simp;omega)) (by first|assumption|omega|(simp;omega)) (by first|assumption|omega|(simp;omega)) (by first|assumption|omega|(simp;omega)) (by omega) (by omega) (by omega) (by omega) (by omega) hss ((congrArg (List.map Ac) aa).trans ac) (hnen12.trans (congrArg List.length aa.symm)) an ao ad ae ah) rfl rfl rfl rfl ?_
 conv=>cbv
 have e:((⟨o9,ab,Ak,Ag++[s7],At,Ap⟩:Aa),0)=Db (⟨Ae,Al,Ak,Ag,At,Ap⟩:Aa) name:=(by unfold Db;rw[if_neg (by rintro(h|h);rw[ag]at h;cases h;dsimp only at h;omega)];unfold Kj;dsimp only;rw[show tx [45]++name=s7 from ax.symm,an,aa])
 rw[hr]at e
 simp only[Prod.mk.injEq,Aa.mk.injEq]at e
 obtain⟨⟨rfl,rfl,rfl,rfl,rfl,rfl⟩,rfl⟩:=e
 obtain rfl:ap=Cc:=by rw[←ad,←By]
 obtain rfl:ay=noanod:=by first|omega|(rw[hnoanod];simp;done)|(rw[hnoanod];simp;omega)
 obtain rfl:am=Cb:=by rw[←ac,←Bx]
 obtain rfl:nen12=noaent:=by first|omega|(rw[hnoaent];simp;done)|(rw[hnoaent];simp;omega)
 obtain rfl:Bn=Ca:=by rw[←Aq,←Bz]
 obtain rfl:af=noaold:=by first|omega|(rw[hnoaold];simp;done)|(rw[hnoaold];simp;omega)
 obtain rfl:az=B9:=by rw[←ae,←B0]
 obtain rfl:aq=noaste:=by first|omega|(rw[hnoaste];simp;done)|(rw[hnoaste];simp;omega)
 exact hQ _ _ (.o [6,16,8,15] rfl)
theorem Z1{from_:ByteArray}{to_:ByteArray}(An:Ae.map Bi=Bv)(Am:Al.map Ac=Bq)(Aq:Ak.map Ac=Bn)(As:Ag.map cS=Br)(hn:Ae.length≤1000000000)(he:Al.length≤1000000000)(ho:Ak.length≤1000000000)(hs:Ag.length<1000000000)(hss:okS Ag)(a0:Jw (⟨Ae,Al,Ak,Ag,At,Ap⟩:Aa))(hm:from_.size+to_.size<999999999)(hr:Bs (⟨Ae,Al,Ak,Ag,At,Ap⟩:Aa) from_ to_=(⟨Fd,Fb,Fc,Fa,Gd,Gf⟩,ob))(By:Fd.map Bi=Cc)(Bx:Fb.map Ac=Cb)(Bz:Fc.map Ac=Ca)(B0:Fa.map cS=B9)(hnoanod:noanod=Fd.length)(hnoaent:noaent=Fb.length)(hnoaold:noaold=Fc.length)(hnoaste:noaste=Fa.length):Fn Tryz.prog 260 [.agg [.d (.row 3 Bv),.d (.row 2 Bq),.d (.row 2 Bn),.d (.row 1 Br),I At,I Ap],S from_,S to_] [] ⟨.tup [.agg [.ref 0 0 noanod,.ref 1 0 noaent,.ref 2 0 noaold,.ref 3 0 noaste,I Gd,I Gf],I ob],[.row 3 false Cc,.row 2 false Cb,.row 2 false Ca,.row 1 false B9],[]⟩:=by
 refine Fn.goR S5 Tryz.func260 fun P hP Q hQ=>?_
 conv=>cbv
 obtain⟨n2,a1⟩:∃m,m=Ae.length:=⟨_,rfl⟩
 obtain⟨ah,ao⟩:∃m,m=Al.length:=⟨_,rfl⟩
 obtain⟨ac,ap⟩:∃m,m=Ak.length:=⟨_,rfl⟩
 obtain⟨n3,a2⟩:∃m,m=Ag.length:=⟨_,rfl⟩
 refine .ddN hP (Fz An Am Aq As (by omega) (by omega) (by omega) (by omega) rfl An Am Aq As a1 ao ap a2) rfl ?_
 conv=>cbv
 generalize ad:Bk (⟨Ae,Al,Ak,Ag,At,Ap⟩:Aa)=r4
 refine .dd hP (O3 An Am Aq As a0 ad) ?_
 cases r4
 conv=>cbv
 have e:((⟨Ae,Al,Ak,Ag,At,Ap⟩:Aa),3)=Bs (⟨Ae,Al,Ak,Ag,At,Ap⟩:Aa) from_ to_:=(by unfold Bs;rw[if_pos (.inl ad)])
 rw[hr]at e
 simp only[Prod.mk.injEq,Aa.mk.injEq]at e
 obtain⟨⟨rfl,rfl,rfl,rfl,rfl,rfl⟩,rfl⟩:=e
 obtain rfl:Bv=Cc:=by rw[←An,←By]
 obtain rfl:n2=noanod:=by first|omega|(rw[hnoanod];simp;done)|(rw[hnoanod];simp;omega)
 obtain rfl:Bq=Cb:=by rw[←Am,←Bx]
 obtain rfl:ah=noaent:=by first|omega|(rw[hnoaent];simp;done)|(rw[hnoaent];simp;omega)
 obtain rfl:Bn=Ca:=by rw[←Aq,←Bz]
 obtain rfl:ac=noaold:=by first|omega|(rw[hnoaold];simp;done)|(rw[hnoaold];simp;omega)
 obtain rfl:Br=B9:=by rw[←As,←B0]
 obtain rfl:n3=noaste:=by first|omega|(rw[hnoaste];simp;done)|(rw[hnoaste];simp;omega)
 exact hQ _ _ (.o [6,7,8,9] rfl)
 conv=>cbv
 generalize aq:Ao Al from_=r5
 refine .dd hP (Kk Am (by omega) aq) ?_
 conv=>cbv
 refine .lss (fun h6=>?_) fun h6=>?_
 conv=>cbv
 have e:((⟨Ae,Al,Ak,Ag,At,Ap⟩:Aa),3)=Bs (⟨Ae,Al,Ak,Ag,At,Ap⟩:Aa) from_ to_:=(by unfold Bs;rw[if_pos (.inr (by rw[aq];exact h6))])
 rw[hr]at e
 simp only[Prod.mk.injEq,Aa.mk.injEq]at e
 obtain⟨⟨rfl,rfl,rfl,rfl,rfl,rfl⟩,rfl⟩:=e
 obtain rfl:Bv=Cc:=by rw[←An,←By]
 obtain rfl:n2=noanod:=by first|omega|(rw[hnoanod];simp;done)|(rw[hnoanod];simp;omega)
 obtain rfl:Bq=Cb:=by rw[←Am,←Bx]
 obtain rfl:ah=noaent:=by first|omega|(rw[hnoaent];simp;done)|(rw[hnoaent];simp;omega)
 obtain rfl:Bn=Ca:=by rw[←Aq,←Bz]
 obtain rfl:ac=noaold:=by first|omega|(rw[hnoaold];simp;done)|(rw[hnoaold];simp;omega)
 obtain rfl:Br=B9:=by rw[←As,←B0]
 obtain rfl:n3=noaste:=by first|omega|(rw[hnoaste];simp;done)|(rw[hnoaste];simp;omega)
 exact hQ _ _ (.o [6,7,8,9] rfl)
 conv=>cbv
 generalize ak:Bj to_=r7
 refine .dd hP (Jr (by omega) ak) ?_
 cases r7
 conv=>cbv
 have e:((⟨Ae,Al,Ak,Ag,At,Ap⟩:Aa),1)=Bs (⟨Ae,Al,Ak,Ag,At,Ap⟩:Aa) from_ to_:=(by unfold Bs;rw[if_neg (by rintro(h|h);rw[ad]at h;cases h;dsimp only at h;omega),if_pos (.inl ak)])
 rw[hr]at e
 simp only[Prod.mk.injEq,Aa.mk.injEq]at e
 obtain⟨⟨rfl,rfl,rfl,rfl,rfl,rfl⟩,rfl⟩:=e
 obtain rfl:Bv=Cc:=by rw[←An,←By]
 obtain rfl:n2=noanod:=by first|omega|(rw[hnoanod];simp;done)|(rw[hnoanod];simp;omega)
 obtain rfl:Bq=Cb:=by rw[←Am,←Bx]
 obtain rfl:ah=noaent:=by first|omega|(rw[hnoaent];simp;done)|(rw[hnoaent];simp;omega)
 obtain rfl:Bn=Ca:=by rw[←Aq,←Bz]
 obtain rfl:ac=noaold:=by first|omega|(rw[hnoaold];simp;done)|(rw[hnoaold];simp;omega)
 obtain rfl:Br=B9:=by rw[←As,←B0]
 obtain rfl:n3=noaste:=by first|omega|(rw[hnoaste];simp;done)|(rw[hnoaste];simp;omega)
 exact hQ _ _ (.o [6,7,8,9] rfl)
 conv=>cbv
 refine .eql (fun h8=>?_) fun h8=>?_
 conv=>cbv
 have e:((⟨Ae,Al,Ak,Ag,At,Ap⟩:Aa),1)=Bs (⟨Ae,Al,Ak,Ag,At,Ap⟩:Aa) from_ to_:=(by unfold Bs;rw[if_neg (by rintro(h|h);rw[ad]at h;cases h;dsimp only at h;omega),if_pos (.inr h8)])
 rw[hr]at e
 simp only[Prod.mk.injEq,Aa.mk.injEq]at e
 obtain⟨⟨rfl,rfl,rfl,rfl,rfl,rfl⟩,rfl⟩:=e
 obtain rfl:Bv=Cc:=by rw[←An,←By]
 obtain rfl:n2=noanod:=by first|omega|(rw[hnoanod];simp;done)|(rw[hnoanod];simp;omega)
 obtain rfl:Bq=Cb:=by rw[←Am,←Bx]
 obtain rfl:ah=noaent:=by first|omega|(rw[hnoaent];simp;done)|(rw[hnoaent];simp;omega)
 obtain rfl:Bn=Ca:=by rw[←Aq,←Bz]
 obtain rfl:ac=noaold:=by first|omega|(rw[hnoaold];simp;done)|(rw[hnoaold];simp;omega)
 obtain rfl:Br=B9:=by rw[←As,←B0]
 obtain rfl:n3=noaste:=by first|omega|(rw[hnoaste];simp;done)|(rw[hnoaste];simp;omega)
 exact hQ _ _ (.o [6,7,8,9] rfl)
 conv=>cbv
 refine .litL 1 fun s9 a3 a7=>?_
 conv=>cbv
 refine .litR 1 fun a8 ar a5=>?_
 conv=>cbv
 refine .go fun ab au a6=>?_
 conv=>cbv
 generalize aa:(Ah Al ab).1=ae
 generalize af:ae.map Ac=aw
 obtain⟨nen16,hnen16⟩:∃m,m=ae.length:=⟨_,rfl⟩
 generalize ai:Ka Ae Ak (Ag++[ab])=al
 obtain⟨ax,am⟩:∃m,m=al.length:=⟨_,rfl⟩
 generalize ag:al.map Bi=ay
 generalize aj:(Ag++[ab]).map cS=a4
 obtain⟨az,an⟩:∃m,m=(Ag++[ab]).length:=⟨_,rfl⟩
 refine .bx [14,6,7,8,9] [6,7,8,9] hP (Nh An Am Aq As (by first|assumption|omega|(simp;omega)) (by first|assumption|omega|(simp;omega)) (by first|assumption|omega|(simp;omega)) (by first|assumption|omega|(simp;omega)) (by omega) (by omega) (by omega) (by omega) (by omega) hss ((congrArg (List.map Ac) aa).trans af) (hnen16.trans (congrArg List.length aa.symm)) ai am ag aj an) rfl rfl rfl rfl ?_
 conv=>cbv
 have e:((⟨al,ae,Ak,Ag++[ab],At,Ap⟩:Aa),0)=Bs (⟨Ae,Al,Ak,Ag,At,Ap⟩:Aa) from_ to_:=(by unfold Bs;rw[if_neg (by rintro(h|h);rw[ad]at h;cases h;dsimp only at h;omega),if_neg (by rintro(h|h);rw[ak]at h;cases h;exact h8 h)];unfold Kj;dsimp only;rw[show tx [62]++from_++tx [58]++to_=ab from by rw[au,ar,a3];rfl,ai,aa])
 rw[hr]at e
 simp only[Prod.mk.injEq,Aa.mk.injEq]at e
 obtain⟨⟨rfl,rfl,rfl,rfl,rfl,rfl⟩,rfl⟩:=e
 obtain rfl:ay=Cc:=by rw[←ag,←By]
 obtain rfl:ax=noanod:=by first|omega|(rw[hnoanod];simp;done)|(rw[hnoanod];simp;omega)
 obtain rfl:aw=Cb:=by rw[←af,←Bx]
 obtain rfl:nen16=noaent:=by first|omega|(rw[hnoaent];simp;done)|(rw[hnoaent];simp;omega)
 obtain rfl:Bn=Ca:=by rw[←Aq,←Bz]
 obtain rfl:ac=noaold:=by first|omega|(rw[hnoaold];simp;done)|(rw[hnoaold];simp;omega)
 obtain rfl:a4=B9:=by rw[←aj,←B0]
 obtain rfl:az=noaste:=by first|omega|(rw[hnoaste];simp;done)|(rw[hnoaste];simp;omega)
 exact hQ _ _ (.o [6,16,8,15] rfl)
theorem XcB(An:Ae.map Bi=Bv)(Am:Al.map Ac=Bq)(Aq:Ak.map Ac=Bn)(As:Ag.map cS=Br)(hn:Ae.length≤1000000000)(he:Al.length≤1000000000)(ho:Ak.length≤1000000000)(hs:Ag.length<1000000000)(hss:okS Ag)(ag:Jw (⟨Ae,Al,Ak,Ag,At,Ap⟩:Aa))(hr:Dk (⟨Ae,Al,Ak,Ag,At,Ap⟩:Aa) name=(⟨Fd,Fb,Fc,Fa,Gd,Gf⟩,ob))(By:Fd.map Bi=Cc)(Bx:Fb.map Ac=Cb)(Bz:Fc.map Ac=Ca)(B0:Fa.map cS=B9)(hnoanod:noanod=Fd.length)(hnoaent:noaent=Fb.length)(hnoaold:noaold=Fc.length)(hnoaste:noaste=Fa.length):Fn Tryz.prog 259 [.agg [.d (.row 3 Bv),.d (.row 2 Bq),.d (.row 2 Bn),.d (.row 1 Br),I At,I Ap],S name] [] ⟨.tup [.agg [.ref 0 0 noanod,.ref 1 0 noaent,.ref 2 0 noaold,.ref 3 0 noaste,I Gd,I Gf],I ob],[.row 3 false Cc,.row 2 false Cb,.row 2 false Ca,.row 1 false B9],[]⟩:=by
 refine Fn.goR S5 Tryz.func259 fun P hP Q hQ=>?_
 conv=>cbv
 obtain⟨n2,al⟩:∃m,m=Ae.length:=⟨_,rfl⟩
 obtain⟨ac,ah⟩:∃m,m=Al.length:=⟨_,rfl⟩
 obtain⟨ad,ai⟩:∃m,m=Ak.length:=⟨_,rfl⟩
 obtain⟨n3,am⟩:∃m,m=Ag.length:=⟨_,rfl⟩
 refine .ddN hP (Fz An Am Aq As (by omega) (by omega) (by omega) (by omega) rfl An Am Aq As al ah ai am) rfl ?_
 conv=>cbv
 generalize ab:Cu (⟨Ae,Al,Ak,Ag,At,Ap⟩:Aa) name=r4
 refine .dd hP (Me An Am Aq As ag.1 ab) ?_
 conv=>cbv
 have hb:=Hr ab
 simp only[]at hb
 generalize ae:Bk (⟨Ae,Al,Ak,Ag,At,Ap⟩:Aa)=r5
 refine .dd hP (O3 An Am Aq As ag ae) ?_
 cases r5
 conv=>cbv
 have e:((⟨Ae,Al,Ak,Ag,At,Ap⟩:Aa),3)=Dk (⟨Ae,Al,Ak,Ag,At,Ap⟩:Aa) name:=(by unfold Dk;rw[if_pos (.inl ae)])
 rw[hr]at e
 simp only[Prod.mk.injEq,Aa.mk.injEq]at e
 obtain⟨⟨rfl,rfl,rfl,rfl,rfl,rfl⟩,rfl⟩:=e
 obtain rfl:Bv=Cc:=by rw[←An,←By]
 obtain rfl:n2=noanod:=by first|omega|(rw[hnoanod];simp;done)|(rw[hnoanod];simp;omega)
 obtain rfl:Bq=Cb:=by rw[←Am,←Bx]
 obtain rfl:ac=noaent:=by first|omega|(rw[hnoaent];simp;done)|(rw[hnoaent];simp;omega)
 obtain rfl:Bn=Ca:=by rw[←Aq,←Bz]
 obtain rfl:ad=noaold:=by first|omega|(rw[hnoaold];simp;done)|(rw[hnoaold];simp;omega)
 obtain rfl:Br=B9:=by rw[←As,←B0]
 obtain rfl:n3=noaste:=by first|omega|(rw[hnoaste];simp;done)|(rw[hnoaste];simp;omega)
 exact hQ _ _ (.o [6,7,8,9] rfl)
 conv=>cbv
 refine .lss (fun h6=>?_) fun h6=>?_
 conv=>cbv
 have e:((⟨Ae,Al,Ak,Ag,At,Ap⟩:Aa),3)=Dk (⟨Ae,Al,Ak,Ag,At,Ap⟩:Aa) name:=(by unfold Dk;rw[if_pos (.inr (by rw[ab];exact h6))])
 rw[hr]at e
 simp only[Prod.mk.injEq,Aa.mk.injEq]at e
 obtain⟨⟨rfl,rfl,rfl,rfl,rfl,rfl⟩,rfl⟩:=e
 obtain rfl:Bv=Cc:=by rw[←An,←By]
 obtain rfl:n2=noanod:=by first|omega|(rw[hnoanod];simp;done)|(rw[hnoanod];simp;omega)
 obtain rfl:Bq=Cb:=by rw[←Am,←Bx]
 obtain rfl:ac=noaent:=by first|omega|(rw[hnoaent];simp;done)|(rw[hnoaent];simp;omega)
 obtain rfl:Bn=Ca:=by rw[←Aq,←Bz]
 obtain rfl:ad=noaold:=by first|omega|(rw[hnoaold];simp;done)|(rw[hnoaold];simp;omega)
 obtain rfl:Br=B9:=by rw[←As,←B0]
 obtain rfl:n3=noaste:=by first|omega|(rw[hnoaste];simp;done)|(rw[hnoaste];simp;omega)
 exact hQ _ _ (.o [6,7,8,9] rfl)
 conv=>cbv
 refine .go r4.toNat fun p7 ay au=>?_
 conv=>cbv
 refine .go An fun aw ⟨ax,af,an⟩ ao=>?_
 conv=>cbv
 refine .go fun v9 ap=>?_
 conv=>cbv
 refine .go r4.toNat fun aa aj aq=>?_
 conv=>cbv
 refine .go (⟨(Ae.getD aa ⟨0,tx [],0⟩).id_,(Ae.getD aa ⟨0,tx [],0⟩).text_,v9⟩:Bg) An (by omega) (by rw[←gD (show aa<Ae.length by omega)];rfl) (Nat.le_refl 3) fun ar ak=>?_
 conv=>cbv
 have e:((⟨Ae.set aa (⟨(Ae.getD aa ⟨0,tx [],0⟩).id_,(Ae.getD aa ⟨0,tx [],0⟩).text_,v9⟩:Bg),Al,Ak,Ag,At,Ap⟩:Aa),0)=Dk (⟨Ae,Al,Ak,Ag,At,Ap⟩:Aa) name:=(by unfold Dk;rw[if_neg (by rintro(h|h);rw[ae]at h;cases h;rw[ab]at h;omega),ab];dsimp only;have e9:af=(Ae.getD aa ⟨0,tx [],0⟩).text_:=(by have h9:p7=aa:=(by omega);subst h9;rw[←gD (show p7<Ae.length by omega),←ao]);rw[ap,e9,←aj])
 rw[hr]at e
 simp only[Prod.mk.injEq,Aa.mk.injEq]at e
 obtain⟨⟨rfl,rfl,rfl,rfl,rfl,rfl⟩,rfl⟩:=e
 obtain rfl:ar=Cc:=by rw[←ak,←By]
 obtain rfl:n2=noanod:=by first|omega|(rw[hnoanod];simp;done)|(rw[hnoanod];simp;omega)
 obtain rfl:Bq=Cb:=by rw[←Am,←Bx]
 obtain rfl:ac=noaent:=by first|omega|(rw[hnoaent];simp;done)|(rw[hnoaent];simp;omega)
 obtain rfl:Bn=Ca:=by rw[←Aq,←Bz]
 obtain rfl:ad=noaold:=by first|omega|(rw[hnoaold];simp;done)|(rw[hnoaold];simp;omega)
 obtain rfl:Br=B9:=by rw[←As,←B0]
 obtain rfl:n3=noaste:=by first|omega|(rw[hnoaste];simp;done)|(rw[hnoaste];simp;omega)
 exact hQ _ _ (.o [6,7,8,9] rfl)
theorem Z5{text:ByteArray}(An:Ae.map Bi=Bv)(Am:Al.map Ac=Bq)(Aq:Ak.map Ac=Bn)(As:Ag.map cS=Br)(hn:Ae.length≤1000000000)(he:Al.length≤1000000000)(ho:Ak.length≤1000000000)(hs:Ag.length<1000000000)(hss:okS Ag)(ag:Jw (⟨Ae,Al,Ak,Ag,At,Ap⟩:Aa))(ht:text.size≤1000000000)(hr:B6 (⟨Ae,Al,Ak,Ag,At,Ap⟩:Aa) name text=(⟨Fd,Fb,Fc,Fa,Gd,Gf⟩,ob))(By:Fd.map Bi=Cc)(Bx:Fb.map Ac=Cb)(Bz:Fc.map Ac=Ca)(B0:Fa.map cS=B9)(hnoanod:noanod=Fd.length)(hnoaent:noaent=Fb.length)(hnoaold:noaold=Fc.length)(hnoaste:noaste=Fa.length):Fn Tryz.prog 258 [.agg [.d (.row 3 Bv),.d (.row 2 Bq),.d (.row 2 Bn),.d (.row 1 Br),I At,I Ap],S name,S text] [] ⟨.tup [.agg [.ref 0 0 noanod,.ref 1 0 noaent,.ref 2 0 noaold,.ref 3 0 noaste,I Gd,I Gf],I ob],[.row 3 false Cc,.row 2 false Cb,.row 2 false Ca,.row 1 false B9],[]⟩:=by
 refine Fn.goR S5 Tryz.func258 fun P hP Q hQ=>?_
 conv=>cbv
 obtain⟨n2,a0⟩:∃m,m=Ae.length:=⟨_,rfl⟩
 obtain⟨ah,ar⟩:∃m,m=Al.length:=⟨_,rfl⟩
 obtain⟨ai,au⟩:∃m,m=Ak.length:=⟨_,rfl⟩
 obtain⟨n3,a1⟩:∃m,m=Ag.length:=⟨_,rfl⟩
 refine .ddN hP (Fz An Am Aq As (by omega) (by omega) (by omega) (by omega) rfl An Am Aq As a0 ar au a1) rfl ?_
 conv=>cbv
 generalize ac:Cu (⟨Ae,Al,Ak,Ag,At,Ap⟩:Aa) name=r4
 refine .dd hP (Me An Am Aq As ag.1 ac) ?_
 conv=>cbv
 have hb:=Hr ac
 simp only[]at hb
 generalize ad:Bk (⟨Ae,Al,Ak,Ag,At,Ap⟩:Aa)=r5
 refine .dd hP (O3 An Am Aq As ag ad) ?_
 cases r5
 conv=>cbv
 have e:((⟨Ae,Al,Ak,Ag,At,Ap⟩:Aa),3)=B6 (⟨Ae,Al,Ak,Ag,At,Ap⟩:Aa) name text:=(by unfold B6;rw[if_pos (.inl ad)])
 rw[hr]at e
 simp only[Prod.mk.injEq,Aa.mk.injEq]at e
 obtain⟨⟨rfl,rfl,rfl,rfl,rfl,rfl⟩,rfl⟩:=e
 obtain rfl:Bv=Cc:=by rw[←An,←By]
 obtain rfl:n2=noanod:=by first|omega|(rw[hnoanod];simp;done)|(rw[hnoanod];simp;omega)
 obtain rfl:Bq=Cb:=by rw[←Am,←Bx]
 obtain rfl:ah=noaent:=by first|omega|(rw[hnoaent];simp;done)|(rw[hnoaent];simp;omega)
 obtain rfl:Bn=Ca:=by rw[←Aq,←Bz]
 obtain rfl:ai=noaold:=by first|omega|(rw[hnoaold];simp;done)|(rw[hnoaold];simp;omega)
 obtain rfl:Br=B9:=by rw[←As,←B0]
 obtain rfl:n3=noaste:=by first|omega|(rw[hnoaste];simp;done)|(rw[hnoaste];simp;omega)
 exact hQ _ _ (.o [6,7,8,9] rfl)
 conv=>cbv
 refine .lss (fun h6=>?_) fun h6=>?_
 conv=>cbv
 have e:((⟨Ae,Al,Ak,Ag,At,Ap⟩:Aa),3)=B6 (⟨Ae,Al,Ak,Ag,At,Ap⟩:Aa) name text:=(by unfold B6;rw[if_pos (.inr (by rw[ac];exact h6))])
 rw[hr]at e
 simp only[Prod.mk.injEq,Aa.mk.injEq]at e
 obtain⟨⟨rfl,rfl,rfl,rfl,rfl,rfl⟩,rfl⟩:=e
 obtain rfl:Bv=Cc:=by rw[←An,←By]
 obtain rfl:n2=noanod:=by first|omega|(rw[hnoanod];simp;done)|(rw[hnoanod];simp;omega)
 obtain rfl:Bq=Cb:=by rw[←Am,←Bx]
 obtain rfl:ah=noaent:=by first|omega|(rw[hnoaent];simp;done)|(rw[hnoaent];simp;omega)
 obtain rfl:Bn=Ca:=by rw[←Aq,←Bz]
 obtain rfl:ai=noaold:=by first|omega|(rw[hnoaold];simp;done)|(rw[hnoaold];simp;omega)
 obtain rfl:Br=B9:=by rw[←As,←B0]
 obtain rfl:n3=noaste:=by first|omega|(rw[hnoaste];simp;done)|(rw[hnoaste];simp;omega)
 exact hQ _ _ (.o [6,7,8,9] rfl)
 conv=>cbv
 refine .go fun v7 aw=>?_
 conv=>cbv
 generalize aj:Fy (⟨Ae,Al,Ak,Ag,At,Ap⟩:Aa)=r8
 refine .dd hP (Xep An Am Aq As ag.1 aj) ?_
 conv=>cbv
 have hri:=Hu ad
 simp only[aj]at hri
 refine .sub fun v9 ax=>?_
 conv=>cbv
 refine .go fun bb al=>?_
 conv=>cbv
 refine .go r4.toNat fun ak a6 a2=>?_
 conv=>cbv
 refine .go An fun ap ⟨a3,ab,az⟩ ae=>?_
 conv=>cbv
 refine .hi fun a4 af=>?_
 conv=>cbv
 have a7:ab.size≤1000000000:=by have h9:=ag.1.2.1 _ (List.getElem_mem ap);rw[←ae]at h9;exact h9
 have a8:a4.size≤text.size:=by rw[af,ByteArray.size_extract];omega
 refine .go fun aq am a9=>?_
 conv=>cbv
 refine .go r4.toNat fun aa an a5=>?_
 conv=>cbv
 refine .go (⟨(Ae.getD aa ⟨0,tx [],0⟩).id_,aq,(Ae.getD aa ⟨0,tx [],0⟩).sure_⟩:Bg) An (by omega) (by rw[←gD (show aa<Ae.length by omega)];rfl) (show 1+1≤3 by decide) fun ay ao=>?_
 conv=>cbv
 refine .go fun bc ba=>?_
 conv=>cbv
 refine .lss (fun h18=>?_) fun h18=>?_
 conv=>cbv
 have e:((⟨Ae.set aa (⟨(Ae.getD aa ⟨0,tx [],0⟩).id_,aq,(Ae.getD aa ⟨0,tx [],0⟩).sure_⟩:Bg),Al,Ak,Ag,At,Ap⟩:Aa),5)=B6 (⟨Ae,Al,Ak,Ag,At,Ap⟩:Aa) name text:=(by unfold B6;rw[if_neg (by rintro(h|h);rw[ad]at h;cases h;rw[ac]at h;omega),ac,aj];dsimp only;rw[if_pos (by omega)];unfold Xkf gN;dsimp only;have e9:ab=(Ae.getD aa ⟨0,tx [],0⟩).text_:=(by have h9:ak=aa:=(by omega);subst h9;rw[←gD (show ak<Ae.length by omega),←ae]);rw[←an,am,e9,af,al,aw,ax])
 rw[hr]at e
 simp only[Prod.mk.injEq,Aa.mk.injEq]at e
 obtain⟨⟨rfl,rfl,rfl,rfl,rfl,rfl⟩,rfl⟩:=e
 obtain rfl:ay=Cc:=by rw[←ao,←By]
 obtain rfl:n2=noanod:=by first|omega|(rw[hnoanod];simp;done)|(rw[hnoanod];simp;omega)
 obtain rfl:Bq=Cb:=by rw[←Am,←Bx]
 obtain rfl:ah=noaent:=by first|omega|(rw[hnoaent];simp;done)|(rw[hnoaent];simp;omega)
 obtain rfl:Bn=Ca:=by rw[←Aq,←Bz]
 obtain rfl:ai=noaold:=by first|omega|(rw[hnoaold];simp;done)|(rw[hnoaold];simp;omega)
 obtain rfl:Br=B9:=by rw[←As,←B0]
 obtain rfl:n3=noaste:=by first|omega|(rw[hnoaste];simp;done)|(rw[hnoaste];simp;omega)
 exact hQ _ _ (.o [6,7,8,9] rfl)
 conv=>cbv
 have e:((⟨Ae.set aa (⟨(Ae.getD aa ⟨0,tx [],0⟩).id_,aq,(Ae.getD aa ⟨0,tx [],0⟩).sure_⟩:Bg),Al,Ak,Ag,At,Ap⟩:Aa),0)=B6 (⟨Ae,Al,Ak,Ag,At,Ap⟩:Aa) name text:=(by unfold B6;rw[if_neg (by rintro(h|h);rw[ad]at h;cases h;rw[ac]at h;omega),ac,aj];dsimp only;rw[if_neg (by omega)];unfold Xkf gN;dsimp only;have e9:ab=(Ae.getD aa ⟨0,tx [],0⟩).text_:=(by have h9:ak=aa:=(by omega);subst h9;rw[←gD (show ak<Ae.length by omega),←ae]);rw[←an,am,e9,af,al,aw,ax])
 rw[hr]at e
 simp only[Prod.mk.injEq,Aa.mk.injEq]at e
 obtain⟨⟨rfl,rfl,rfl,rfl,rfl,rfl⟩,rfl⟩:=e
 obtain rfl:ay=Cc:=by rw[←ao,←By]
 obtain rfl:n2=noanod:=by first|omega|(rw[hnoanod];simp;done)|(rw[hnoanod];simp;omega)
 obtain rfl:Bq=Cb:=by rw[←Am,←Bx]
 obtain rfl:ah=noaent:=by first|omega|(rw[hnoaent];simp;done)|(rw[hnoaent];simp;omega)
 obtain rfl:Bn=Ca:=by rw[←Aq,←Bz]
 obtain rfl:ai=noaold:=by first|omega|(rw[hnoaold];simp;done)|(rw[hnoaold];simp;omega)
 obtain rfl:Br=B9:=by rw[←As,←B0]
 obtain rfl:n3=noaste:=by first|omega|(rw[hnoaste];simp;done)|(rw[hnoaste];simp;omega)
 exact hQ _ _ (.o [6,7,8,9] rfl)
theorem Xar(An:Ae.map Bi=Bv)(Am:Al.map Ac=Bq)(Aq:Ak.map Ac=Bn)(As:Ag.map cS=Br)(hn:Ae.length≤1000000000)(he:Al.length≤1000000000)(ho:Ak.length≤1000000000)(hs:Ag.length<1000000000)(hss:okS Ag)(a4:Jw (⟨Ae,Al,Ak,Ag,At,Ap⟩:Aa))(hm:name.size≤1000000000)(hr:Bf (⟨Ae,Al,Ak,Ag,At,Ap⟩:Aa) name=(⟨Fd,Fb,Fc,Fa,Gd,Gf⟩,ob))(By:Fd.map Bi=Cc)(Bx:Fb.map Ac=Cb)(Bz:Fc.map Ac=Ca)(B0:Fa.map cS=B9)(hnoanod:noanod=Fd.length)(hnoaent:noaent=Fb.length)(hnoaold:noaold=Fc.length)(hnoaste:noaste=Fa.length):Fn Tryz.prog 257 [.agg [.d (.row 3 Bv),.d (.row 2 Bq),.d (.row 2 Bn),.d (.row 1 Br),I At,I Ap],S name] [] ⟨.tup [.agg [.ref 0 0 noanod,.ref 1 0 noaent,.ref 2 0 noaold,.ref 3 0 noaste,I Gd,I Gf],I ob],[.row 3 false Cc,.row 2 false Cb,.row 2 false Ca,.row 1 false B9],[]⟩:=by
 refine Fn.goR S5 Tryz.func257 fun P hP Q hQ=>?_
 conv=>cbv
 obtain⟨n2,a5⟩:∃m,m=Ae.length:=⟨_,rfl⟩
 obtain⟨ae,aq⟩:∃m,m=Al.length:=⟨_,rfl⟩
 obtain⟨ac,ar⟩:∃m,m=Ak.length:=⟨_,rfl⟩
 obtain⟨n3,a6⟩:∃m,m=Ag.length:=⟨_,rfl⟩
 refine .ddN hP (Fz An Am Aq As (by omega) (by omega) (by omega) (by omega) rfl An Am Aq As a5 aq ar a6) rfl ?_
 conv=>cbv
 generalize aa:Bk (⟨Ae,Al,Ak,Ag,At,Ap⟩:Aa)=r4
 refine .dd hP (O3 An Am Aq As a4 aa) ?_
 cases r4
 conv=>cbv
 have e:((⟨Ae,Al,Ak,Ag,At,Ap⟩:Aa),3)=Bf (⟨Ae,Al,Ak,Ag,At,Ap⟩:Aa) name:=(by unfold Bf;rw[if_pos aa])
 rw[hr]at e
 simp only[Prod.mk.injEq,Aa.mk.injEq]at e
 obtain⟨⟨rfl,rfl,rfl,rfl,rfl,rfl⟩,rfl⟩:=e
 obtain rfl:Bv=Cc:=by rw[←An,←By]
 obtain rfl:n2=noanod:=by first|omega|(rw[hnoanod];simp;done)|(rw[hnoanod];simp;omega)
 obtain rfl:Bq=Cb:=by rw[←Am,←Bx]
 obtain rfl:ae=noaent:=by first|omega|(rw[hnoaent];simp;done)|(rw[hnoaent];simp;omega)
 obtain rfl:Bn=Ca:=by rw[←Aq,←Bz]
 obtain rfl:ac=noaold:=by first|omega|(rw[hnoaold];simp;done)|(rw[hnoaold];simp;omega)
 obtain rfl:Br=B9:=by rw[←As,←B0]
 obtain rfl:n3=noaste:=by first|omega|(rw[hnoaste];simp;done)|(rw[hnoaste];simp;omega)
 exact hQ _ _ (.o [6,7,8,9] rfl)
 conv=>cbv
 generalize ab:Bj name=r5
 refine .dd hP (Jr (by omega) ab) ?_
 cases r5
 conv=>cbv
 have e:((⟨Ae,Al,Ak,Ag,At,Ap⟩:Aa),1)=Bf (⟨Ae,Al,Ak,Ag,At,Ap⟩:Aa) name:=(by unfold Bf;rw[if_neg (by rw[aa];decide),if_pos ab])
 rw[hr]at e
 simp only[Prod.mk.injEq,Aa.mk.injEq]at e
 obtain⟨⟨rfl,rfl,rfl,rfl,rfl,rfl⟩,rfl⟩:=e
 obtain rfl:Bv=Cc:=by rw[←An,←By]
 obtain rfl:n2=noanod:=by first|omega|(rw[hnoanod];simp;done)|(rw[hnoanod];simp;omega)
 obtain rfl:Bq=Cb:=by rw[←Am,←Bx]
 obtain rfl:ae=noaent:=by first|omega|(rw[hnoaent];simp;done)|(rw[hnoaent];simp;omega)
 obtain rfl:Bn=Ca:=by rw[←Aq,←Bz]
 obtain rfl:ac=noaold:=by first|omega|(rw[hnoaold];simp;done)|(rw[hnoaold];simp;omega)
 obtain rfl:Br=B9:=by rw[←As,←B0]
 obtain rfl:n3=noaste:=by first|omega|(rw[hnoaste];simp;done)|(rw[hnoaste];simp;omega)
 exact hQ _ _ (.o [6,7,8,9] rfl)
 conv=>cbv
 generalize af:Ao Al name=r6
 refine .dd hP (Kk Am (by omega) af) ?_
 conv=>cbv
 refine .geq (fun h7=>?_) fun h7=>?_
 conv=>cbv
 have e:((⟨Ae,Al,Ak,Ag,At,Ap⟩:Aa),2)=Bf (⟨Ae,Al,Ak,Ag,At,Ap⟩:Aa) name:=(by unfold Bf;rw[if_neg (by rw[aa];decide),if_neg (by rw[ab];decide),if_pos (by rw[af];omega)])
 rw[hr]at e
 simp only[Prod.mk.injEq,Aa.mk.injEq]at e
 obtain⟨⟨rfl,rfl,rfl,rfl,rfl,rfl⟩,rfl⟩:=e
 obtain rfl:Bv=Cc:=by rw[←An,←By]
 obtain rfl:n2=noanod:=by first|omega|(rw[hnoanod];simp;done)|(rw[hnoanod];simp;omega)
 obtain rfl:Bq=Cb:=by rw[←Am,←Bx]
 obtain rfl:ae=noaent:=by first|omega|(rw[hnoaent];simp;done)|(rw[hnoaent];simp;omega)
 obtain rfl:Bn=Ca:=by rw[←Aq,←Bz]
 obtain rfl:ac=noaold:=by first|omega|(rw[hnoaold];simp;done)|(rw[hnoaold];simp;omega)
 obtain rfl:Br=B9:=by rw[←As,←B0]
 obtain rfl:n3=noaste:=by first|omega|(rw[hnoaste];simp;done)|(rw[hnoaste];simp;omega)
 exact hQ _ _ (.o [6,7,8,9] rfl)
 conv=>cbv
 refine .go Am fun v8 bf=>?_
 conv=>cbv
 refine .geq (fun h9=>?_) fun h9=>?_
 conv=>cbv
 have e:((⟨Ae,Al,Ak,Ag,At,Ap⟩:Aa),4)=Bf (⟨Ae,Al,Ak,Ag,At,Ap⟩:Aa) name:=(by unfold Bf;rw[if_neg (by rw[aa];decide),if_neg (by rw[ab];decide),if_neg (by rw[af];omega),if_pos (by dsimp only;omega)])
 rw[hr]at e
 simp only[Prod.mk.injEq,Aa.mk.injEq]at e
 obtain⟨⟨rfl,rfl,rfl,rfl,rfl,rfl⟩,rfl⟩:=e
 obtain rfl:Bv=Cc:=by rw[←An,←By]
 obtain rfl:n2=noanod:=by first|omega|(rw[hnoanod];simp;done)|(rw[hnoanod];simp;omega)
 obtain rfl:Bq=Cb:=by rw[←Am,←Bx]
 obtain rfl:ae=noaent:=by first|omega|(rw[hnoaent];simp;done)|(rw[hnoaent];simp;omega)
 obtain rfl:Bn=Ca:=by rw[←Aq,←Bz]
 obtain rfl:ac=noaold:=by first|omega|(rw[hnoaold];simp;done)|(rw[hnoaold];simp;omega)
 obtain rfl:Br=B9:=by rw[←As,←B0]
 obtain rfl:n3=noaste:=by first|omega|(rw[hnoaste];simp;done)|(rw[hnoaste];simp;omega)
 exact hQ _ _ (.o [6,7,8,9] rfl)
 conv=>cbv
 refine .go An fun bg ba=>?_
 conv=>cbv
 refine .geq (fun h11=>?_) fun h11=>?_
 conv=>cbv
 have e:((⟨Ae,Al,Ak,Ag,At,Ap⟩:Aa),4)=Bf (⟨Ae,Al,Ak,Ag,At,Ap⟩:Aa) name:=(by unfold Bf;rw[if_neg (by rw[aa];decide),if_neg (by rw[ab];decide),if_neg (by rw[af];omega),if_pos (by dsimp only;omega)])
 rw[hr]at e
 simp only[Prod.mk.injEq,Aa.mk.injEq]at e
 obtain⟨⟨rfl,rfl,rfl,rfl,rfl,rfl⟩,rfl⟩:=e
 obtain rfl:Bv=Cc:=by rw[←An,←By]
 obtain rfl:n2=noanod:=by first|omega|(rw[hnoanod];simp;done)|(rw[hnoanod];simp;omega)
 obtain rfl:Bq=Cb:=by rw[←Am,←Bx]
 obtain rfl:ae=noaent:=by first|omega|(rw[hnoaent];simp;done)|(rw[hnoaent];simp;omega)
 obtain rfl:Bn=Ca:=by rw[←Aq,←Bz]
 obtain rfl:ac=noaold:=by first|omega|(rw[hnoaold];simp;done)|(rw[hnoaold];simp;omega)
 obtain rfl:Br=B9:=by rw[←As,←B0]
 obtain rfl:n3=noaste:=by first|omega|(rw[hnoaste];simp;done)|(rw[hnoaste];simp;omega)
 exact hQ _ _ (.o [6,7,8,9] rfl)
 conv=>cbv
 refine .geq (fun h12=>?_) fun h12=>?_
 conv=>cbv
 have e:((⟨Ae,Al,Ak,Ag,At,Ap⟩:Aa),4)=Bf (⟨Ae,Al,Ak,Ag,At,Ap⟩:Aa) name:=(by unfold Bf;rw[if_neg (by rw[aa];decide),if_neg (by rw[ab];decide),if_neg (by rw[af];omega),if_pos (by dsimp only;omega)])
 rw[hr]at e
 simp only[Prod.mk.injEq,Aa.mk.injEq]at e
 obtain⟨⟨rfl,rfl,rfl,rfl,rfl,rfl⟩,rfl⟩:=e
 obtain rfl:Bv=Cc:=by rw[←An,←By]
 obtain rfl:n2=noanod:=by first|omega|(rw[hnoanod];simp;done)|(rw[hnoanod];simp;omega)
 obtain rfl:Bq=Cb:=by rw[←Am,←Bx]
 obtain rfl:ae=noaent:=by first|omega|(rw[hnoaent];simp;done)|(rw[hnoaent];simp;omega)
 obtain rfl:Bn=Ca:=by rw[←Aq,←Bz]
 obtain rfl:ac=noaold:=by first|omega|(rw[hnoaold];simp;done)|(rw[hnoaold];simp;omega)
 obtain rfl:Br=B9:=by rw[←As,←B0]
 obtain rfl:n3=noaste:=by first|omega|(rw[hnoaste];simp;done)|(rw[hnoaste];simp;omega)
 exact hQ _ _ (.o [6,7,8,9] rfl)
 conv=>cbv
 refine .one (⟨Ap,tx [],0⟩:Bg) An rfl fun bb bh a7 au=>?_
 conv=>cbv
 have hri:=Hu aa
 simp only[]at hri
 have hnz:=V4 ab
 refine .add fun a8 aw=>?_
 conv=>cbv
 refine .litL 1 fun bi ax bc=>?_
 conv=>cbv
 refine .litR 1 fun bj ay bd=>?_
 conv=>cbv
 generalize ah:Ci Ap=bk
 refine .dd hP (XbX (by unfold Xae;omega) ah) ?_
 conv=>cbv
 have zr17:=Ss ah (by unfold Xae;omega)
 refine .go fun ag az be=>?_
 conv=>cbv
 generalize ad:(Ah Al ag).1=ai
 generalize aj:ai.map Ac=a0
 obtain⟨nen23,hnen23⟩:∃m,m=ai.length:=⟨_,rfl⟩
 generalize al:Ka (Ae++[(⟨Ap,tx [],0⟩:Bg)]) Ak (Ag++[ag])=an
 obtain⟨a1,ao⟩:∃m,m=an.length:=⟨_,rfl⟩
 generalize ak:an.map Bi=a2
 generalize am:(Ag++[ag]).map cS=a9
 obtain⟨a3,ap⟩:∃m,m=(Ag++[ag]).length:=⟨_,rfl⟩
 refine .bx [14,16,7,8,9] [16,7,8,9] hP (Nh au Am Aq As (by first|assumption|omega|(simp;omega)) (by first|assumption|omega|(simp;omega)) (by first|assumption|omega|(simp;omega)) (by first|assumption|omega|(simp;omega)) (by rw[List.length_append,List.length_singleton];omega) (by omega) (by omega) (by omega) (by omega) hss ((congrArg (List.map Ac) ad).trans aj) (hnen23.trans (congrArg List.length ad.symm)) al ao ak am ap) rfl rfl rfl rfl ?_
 conv=>cbv
 have e:((⟨an,ai,Ak,Ag++[ag],At,a8⟩:Aa),0)=Bf (⟨Ae,Al,Ak,Ag,At,Ap⟩:Aa) name:=(by unfold Bf;rw[if_neg (by rw[aa];decide),if_neg (by rw[ab];decide),if_neg (by rw[af];omega),if_neg (by dsimp only;omega)];unfold Kj;dsimp only;rw[show tx [43]++name++tx [58]++Ci Ap=ag from(by rw[az,ay,ax,ah];rfl),al,ad,aw])
 rw[hr]at e
 simp only[Prod.mk.injEq,Aa.mk.injEq]at e
 obtain⟨⟨rfl,rfl,rfl,rfl,rfl,rfl⟩,rfl⟩:=e
 obtain rfl:a2=Cc:=by rw[←ak,←By]
 obtain rfl:a1=noanod:=by first|omega|(rw[hnoanod];simp;done)|(rw[hnoanod];simp;omega)
 obtain rfl:a0=Cb:=by rw[←aj,←Bx]
 obtain rfl:nen23=noaent:=by first|omega|(rw[hnoaent];simp;done)|(rw[hnoaent];simp;omega)
 obtain rfl:Bn=Ca:=by rw[←Aq,←Bz]
 obtain rfl:ac=noaold:=by first|omega|(rw[hnoaold];simp;done)|(rw[hnoaold];simp;omega)
 obtain rfl:a9=B9:=by rw[←am,←B0]
 obtain rfl:a3=noaste:=by first|omega|(rw[hnoaste];simp;done)|(rw[hnoaste];simp;omega)
 exact hQ _ _ (.o [16,18,8,17] rfl)
theorem Xcm{onod:List Bg}{Sg:List (List D)}{oent:List Ad}{Sy:List (List D)}{oold:List Ad}{R8:List (List D)}{oste:List ByteArray}{Rq:List (List D)}{oroo:Int}{onex:Int}{nonod:Nat}{noent:Nat}{noold:Nat}{noste:Nat}(An:Ae.map Bi=Bv)(Am:Al.map Ac=Bq)(Aq:Ak.map Ac=Bn)(As:Ag.map cS=Br)(hn:Ae.length≤1000000000)(he:Al.length≤1000000000)(ho:Ak.length≤1000000000)(hs:Ag.length<1000000000)(hss:okS Ag)(aj:Jw (⟨Ae,Al,Ak,Ag,At,Ap⟩:Aa))(hr:Ds (⟨Ae,Al,Ak,Ag,At,Ap⟩:Aa)=⟨onod,oent,oold,oste,oroo,onex⟩)(Xas:onod.map Bi=Sg)(Y4:oent.map Ac=Sy)(Y5:oold.map Ac=R8)(Wv:oste.map cS=Rq)(hnonod:nonod=onod.length)(hnoent:noent=oent.length)(hnoold:noold=oold.length)(hnoste:noste=oste.length):Fn Tryz.prog 261 [.agg [.d (.row 3 Bv),.d (.row 2 Bq),.d (.row 2 Bn),.d (.row 1 Br),I At,I Ap]] [] ⟨.agg [.ref 0 0 nonod,.ref 1 0 noent,.ref 2 0 noold,.ref 3 0 noste,I oroo,I onex],[.row 3 false Sg,.row 2 false Sy,.row 2 false R8,.row 1 false Rq],[]⟩:=by
 refine Fn.goR S5 Tryz.func261 fun P hP Q hQ=>?_
 conv=>cbv
 obtain⟨n2,ak⟩:∃m,m=Ae.length:=⟨_,rfl⟩
 obtain⟨ad,ae⟩:∃m,m=Al.length:=⟨_,rfl⟩
 obtain⟨al,af⟩:∃m,m=Ak.length:=⟨_,rfl⟩
 obtain⟨n3,am⟩:∃m,m=Ag.length:=⟨_,rfl⟩
 refine .ddN hP (Fz An Am Aq As (by omega) (by omega) (by omega) (by omega) rfl An Am Aq As ak ae af am) rfl ?_
 conv=>cbv
 generalize ac:Bk (⟨Ae,Al,Ak,Ag,At,Ap⟩:Aa)=r4
 refine .dd hP (O3 An Am Aq As aj ac) ?_
 cases r4
 conv=>cbv
 have e:(⟨Ae,Al,Ak,Ag,At,Ap⟩:Aa)=Ds (⟨Ae,Al,Ak,Ag,At,Ap⟩:Aa):=(by unfold Ds;rw[if_pos ac])
 rw[hr]at e
 simp only[Aa.mk.injEq]at e
 obtain⟨rfl,rfl,rfl,rfl,rfl,rfl⟩:=e
 obtain rfl:Bv=Sg:=by rw[←An,←Xas]
 obtain rfl:n2=nonod:=by first|omega|(rw[hnonod];simp;done)|(rw[hnonod];simp;omega)
 obtain rfl:Bq=Sy:=by rw[←Am,←Y4]
 obtain rfl:ad=noent:=by first|omega|(rw[hnoent];simp;done)|(rw[hnoent];simp;omega)
 obtain rfl:Bn=R8:=by rw[←Aq,←Y5]
 obtain rfl:al=noold:=by first|omega|(rw[hnoold];simp;done)|(rw[hnoold];simp;omega)
 obtain rfl:Br=Rq:=by rw[←As,←Wv]
 obtain rfl:n3=noste:=by first|omega|(rw[hnoste];simp;done)|(rw[hnoste];simp;omega)
 exact hQ _ _ (.o [6,7,8,9] rfl)
 conv=>cbv
 generalize ag:Gh Al=l5
 generalize aa:l5.map Ac=an
 obtain⟨nl5,hnl5⟩:∃m,m=l5.length:=⟨_,rfl⟩
 refine .ddA hP (Dq Am (by omega) ag aa hnl5) rfl rfl rfl (aa▸Hc (fun _=>rfl) l5) ?_
 conv=>cbv
 have e5:l5=Al:=ag.symm
 have aq:l5.length≤1000000000:=by rw[e5];exact he
 generalize ah:Ka Ae l5 []=o7
 obtain⟨ao,ai⟩:∃m,m=o7.length:=⟨_,rfl⟩
 generalize ab:o7.map Bi=ap
 refine .bx [14,6,7,15,16] [6,7,15,16] hP (Fn.shr (Qg An Am aa (show([]:List ByteArray).map cS=[]from rfl) (by first|assumption|omega|rfl|(simp at*;omega)) (by first|assumption|omega|rfl|(simp at*;omega)) (by first|assumption|omega|rfl|(simp at*;omega)) (by first|assumption|omega|rfl|(simp at*;omega)) (by omega) (by omega) (by simp) (fun _ h=>by cases h) ah ai (Xka ab))) rfl rfl rfl rfl ?_
 conv=>cbv
 have e:(⟨o7,Al,l5,[],At,Ap⟩:Aa)=Ds (⟨Ae,Al,Ak,Ag,At,Ap⟩:Aa):=(by unfold Ds;rw[if_neg (by rw[ac];decide)];dsimp only;rw[←ah,e5])
 rw[hr]at e
 simp only[Aa.mk.injEq]at e
 obtain⟨rfl,rfl,rfl,rfl,rfl,rfl⟩:=e
 obtain rfl:ap=Sg:=by rw[←ab,←Xas]
 obtain rfl:ao=nonod:=by first|omega|(rw[hnonod];simp;done)|(rw[hnonod];simp;omega)
 obtain rfl:Bq=Sy:=by rw[←Am,←Y4]
 obtain rfl:ad=noent:=by first|omega|(rw[hnoent];simp;done)|(rw[hnoent];simp;omega)
 obtain rfl:an=R8:=by rw[←aa,←Y5]
 obtain rfl:nl5=noold:=by first|omega|(rw[hnoold];simp;done)|(rw[hnoold];simp;omega)
 obtain rfl:[]=Rq:=by first|(rw[←Wv];done)|(rw[←Wv];rfl)
 obtain rfl:0=noste:=by first|omega|(rw[hnoste];simp;done)|(rw[hnoste];simp;omega)
 exact hQ _ _ (.o [6,7,15,16] rfl)
end
section
open Go Go.Proofs
def XdZ:List (Nat×TyRow):=[ty3,ty9,Xal,ty48,XgX]
theorem Xcy:B8 Tryz.prog XdZ:=B8.of (by kernel_rfl)
theorem XdD:Setup Tryz.prog XdZ:=⟨Xcy,mixed⟩
variable {Ae Fd:List Bg} {Bv Bq Bn Br Cc Cb Ca B9:List (List D)} {Al Ak Fb Fc:List Ad} {Ag Fa:List ByteArray} {At Ap Gd Gf ob:Int} {noanod noaent noaold noaste:Nat}
theorem XiH{xkin:Int}{xnam:ByteArray}{xto:ByteArray}{xtex:ByteArray}(An:Ae.map Bi=Bv)(Am:Al.map Ac=Bq)(Aq:Ak.map Ac=Bn)(As:Ag.map cS=Br)(aa:Jw (⟨Ae,Al,Ak,Ag,At,Ap⟩:Aa))(hs:Ag.length<1000000000)(hx:okO (⟨xkin,xnam,xto,xtex⟩:TOp))(hr:C1 (⟨Ae,Al,Ak,Ag,At,Ap⟩:Aa) (⟨xkin,xnam,xto,xtex⟩:TOp)=(⟨Fd,Fb,Fc,Fa,Gd,Gf⟩,ob))(By:Fd.map Bi=Cc)(Bx:Fb.map Ac=Cb)(Bz:Fc.map Ac=Ca)(B0:Fa.map cS=B9)(hnoanod:noanod=Fd.length)(hnoaent:noaent=Fb.length)(hnoaold:noaold=Fc.length)(hnoaste:noaste=Fa.length):Fn Tryz.prog 207 [.agg [.d (.row 3 Bv),.d (.row 2 Bq),.d (.row 2 Bn),.d (.row 1 Br),I At,I Ap],.agg [I xkin,S xnam,S xto,S xtex]] [] ⟨.tup [.agg [.ref 0 0 noanod,.ref 1 0 noaent,.ref 2 0 noaold,.ref 3 0 noaste,I Gd,I Gf],I ob],[.row 3 false Cc,.row 2 false Cb,.row 2 false Ca,.row 1 false B9],[]⟩:=by
 refine Fn.goR XdD Tryz.func207 fun P hP Q hQ=>?_
 conv=>cbv
 have df:Ae.length≤1000000000:=aa.1.1
 have dg:Al.length≤1000000000:=aa.1.2.2.1
 have dh:Ak.length≤1000000000:=aa.1.2.2.2.2.1
 have hx3:xnam.size≤400000000∧xto.size≤400000000∧xtex.size≤1000000000:=hx
 refine .eql (fun h1=>?_) fun h1=>?_
 conv=>cbv
 rcases cx:Db (⟨Ae,Al,Ak,Ag,At,Ap⟩:Aa) xnam with⟨⟨ab,ac,ad,ae,cf,cg⟩,c5⟩
 generalize ay:ab.map Bi=bq
 generalize az:ac.map Ac=bt
 generalize a0:ad.map Ac=bu
 generalize a1:ae.map cS=bv
 obtain⟨nr2anod,hnr2anod⟩:∃m,m=ab.length:=⟨_,rfl⟩
 obtain⟨nr2aent,hnr2aent⟩:∃m,m=ac.length:=⟨_,rfl⟩
 obtain⟨nr2aold,hnr2aold⟩:∃m,m=ad.length:=⟨_,rfl⟩
 obtain⟨nr2aste,hnr2aste⟩:∃m,m=ae.length:=⟨_,rfl⟩
 refine .ddN hP (Yq An Am Aq As aa.1.1 aa.1.2.2.1 aa.1.2.2.2.2.1 hs aa.2.2 aa (by omega) cx ay az a0 a1 hnr2anod hnr2aent hnr2aold hnr2aste) rfl ?_
 conv=>cbv
 have e:((⟨ab,ac,ad,ae,cf,cg⟩:Aa),c5)=C1 (⟨Ae,Al,Ak,Ag,At,Ap⟩:Aa) (⟨xkin,xnam,xto,xtex⟩:TOp):=(by unfold C1;dsimp only;rw[if_pos h1];exact cx.symm)
 rw[hr]at e
 simp only[Prod.mk.injEq,Aa.mk.injEq]at e
 obtain⟨⟨rfl,rfl,rfl,rfl,rfl,rfl⟩,rfl⟩:=e
 obtain rfl:bq=Cc:=by rw[←ay,←By]
 obtain rfl:nr2anod=noanod:=by first|omega|(rw[hnoanod];simp;done)|(rw[hnoanod];simp;omega)
 obtain rfl:bt=Cb:=by rw[←az,←Bx]
 obtain rfl:nr2aent=noaent:=by first|omega|(rw[hnoaent];simp;done)|(rw[hnoaent];simp;omega)
 obtain rfl:bu=Ca:=by rw[←a0,←Bz]
 obtain rfl:nr2aold=noaold:=by first|omega|(rw[hnoaold];simp;done)|(rw[hnoaold];simp;omega)
 obtain rfl:bv=B9:=by rw[←a1,←B0]
 obtain rfl:nr2aste=noaste:=by first|omega|(rw[hnoaste];simp;done)|(rw[hnoaste];simp;omega)
 exact hQ _ _ (.o [7,8,9,10] rfl)
 conv=>cbv
 refine .eql (fun h2=>?_) fun h2=>?_
 conv=>cbv
 rcases cy:Bf (⟨Ae,Al,Ak,Ag,At,Ap⟩:Aa) xnam with⟨⟨af,ag,ah,ai,ch,ci⟩,c6⟩
 generalize a2:af.map Bi=bw
 generalize a3:ag.map Ac=bz
 generalize a4:ah.map Ac=b0
 generalize a5:ai.map cS=b2
 obtain⟨nr3anod,hnr3anod⟩:∃m,m=af.length:=⟨_,rfl⟩
 obtain⟨nr3aent,hnr3aent⟩:∃m,m=ag.length:=⟨_,rfl⟩
 obtain⟨nr3aold,hnr3aold⟩:∃m,m=ah.length:=⟨_,rfl⟩
 obtain⟨nr3aste,hnr3aste⟩:∃m,m=ai.length:=⟨_,rfl⟩
 refine .ddN hP (Xar An Am Aq As aa.1.1 aa.1.2.2.1 aa.1.2.2.2.2.1 hs aa.2.2 aa (by omega) cy a2 a3 a4 a5 hnr3anod hnr3aent hnr3aold hnr3aste) rfl ?_
 conv=>cbv
 have e:((⟨af,ag,ah,ai,ch,ci⟩:Aa),c6)=C1 (⟨Ae,Al,Ak,Ag,At,Ap⟩:Aa) (⟨xkin,xnam,xto,xtex⟩:TOp):=(by unfold C1;dsimp only;rw[if_neg h1,if_pos h2];exact cy.symm)
 rw[hr]at e
 simp only[Prod.mk.injEq,Aa.mk.injEq]at e
 obtain⟨⟨rfl,rfl,rfl,rfl,rfl,rfl⟩,rfl⟩:=e
 obtain rfl:bw=Cc:=by rw[←a2,←By]
 obtain rfl:nr3anod=noanod:=by first|omega|(rw[hnoanod];simp;done)|(rw[hnoanod];simp;omega)
 obtain rfl:bz=Cb:=by rw[←a3,←Bx]
 obtain rfl:nr3aent=noaent:=by first|omega|(rw[hnoaent];simp;done)|(rw[hnoaent];simp;omega)
 obtain rfl:b0=Ca:=by rw[←a4,←Bz]
 obtain rfl:nr3aold=noaold:=by first|omega|(rw[hnoaold];simp;done)|(rw[hnoaold];simp;omega)
 obtain rfl:b2=B9:=by rw[←a5,←B0]
 obtain rfl:nr3aste=noaste:=by first|omega|(rw[hnoaste];simp;done)|(rw[hnoaste];simp;omega)
 exact hQ _ _ (.o [7,8,9,10] rfl)
 conv=>cbv
 refine .eql (fun h3=>?_) fun h3=>?_
 conv=>cbv
 rcases cz:B6 (⟨Ae,Al,Ak,Ag,At,Ap⟩:Aa) xnam xtex with⟨⟨aj,ak,al,am,cj,ck⟩,c7⟩
 generalize a6:aj.map Bi=b3
 generalize a7:ak.map Ac=b4
 generalize a8:al.map Ac=b5
 generalize a9:am.map cS=b6
 obtain⟨nr4anod,hnr4anod⟩:∃m,m=aj.length:=⟨_,rfl⟩
 obtain⟨nr4aent,hnr4aent⟩:∃m,m=ak.length:=⟨_,rfl⟩
 obtain⟨nr4aold,hnr4aold⟩:∃m,m=al.length:=⟨_,rfl⟩
 obtain⟨nr4aste,hnr4aste⟩:∃m,m=am.length:=⟨_,rfl⟩
 refine .ddN hP (Z5 An Am Aq As aa.1.1 aa.1.2.2.1 aa.1.2.2.2.2.1 hs aa.2.2 aa (by omega) cz a6 a7 a8 a9 hnr4anod hnr4aent hnr4aold hnr4aste) rfl ?_
 conv=>cbv
 have e:((⟨aj,ak,al,am,cj,ck⟩:Aa),c7)=C1 (⟨Ae,Al,Ak,Ag,At,Ap⟩:Aa) (⟨xkin,xnam,xto,xtex⟩:TOp):=(by unfold C1;dsimp only;rw[if_neg h1,if_neg h2,if_pos h3];exact cz.symm)
 rw[hr]at e
 simp only[Prod.mk.injEq,Aa.mk.injEq]at e
 obtain⟨⟨rfl,rfl,rfl,rfl,rfl,rfl⟩,rfl⟩:=e
 obtain rfl:b3=Cc:=by rw[←a6,←By]
 obtain rfl:nr4anod=noanod:=by first|omega|(rw[hnoanod];simp;done)|(rw[hnoanod];simp;omega)
 obtain rfl:b4=Cb:=by rw[←a7,←Bx]
 obtain rfl:nr4aent=noaent:=by first|omega|(rw[hnoaent];simp;done)|(rw[hnoaent];simp;omega)
 obtain rfl:b5=Ca:=by rw[←a8,←Bz]
 obtain rfl:nr4aold=noaold:=by first|omega|(rw[hnoaold];simp;done)|(rw[hnoaold];simp;omega)
 obtain rfl:b6=B9:=by rw[←a9,←B0]
 obtain rfl:nr4aste=noaste:=by first|omega|(rw[hnoaste];simp;done)|(rw[hnoaste];simp;omega)
 exact hQ _ _ (.o [7,8,9,10] rfl)
 conv=>cbv
 refine .eql (fun h4=>?_) fun h4=>?_
 conv=>cbv
 rcases c0:Dk (⟨Ae,Al,Ak,Ag,At,Ap⟩:Aa) xnam with⟨⟨an,ao,ap,aq,cm,cn⟩,c8⟩
 generalize ba:an.map Bi=b7
 generalize bb:ao.map Ac=b8
 generalize bc:ap.map Ac=b9
 generalize bd:aq.map cS=ca
 obtain⟨nr5anod,hnr5anod⟩:∃m,m=an.length:=⟨_,rfl⟩
 obtain⟨nr5aent,hnr5aent⟩:∃m,m=ao.length:=⟨_,rfl⟩
 obtain⟨nr5aold,hnr5aold⟩:∃m,m=ap.length:=⟨_,rfl⟩
 obtain⟨nr5aste,hnr5aste⟩:∃m,m=aq.length:=⟨_,rfl⟩
 refine .ddN hP (XcB An Am Aq As aa.1.1 aa.1.2.2.1 aa.1.2.2.2.2.1 hs aa.2.2 aa c0 ba bb bc bd hnr5anod hnr5aent hnr5aold hnr5aste) rfl ?_
 conv=>cbv
 have e:((⟨an,ao,ap,aq,cm,cn⟩:Aa),c8)=C1 (⟨Ae,Al,Ak,Ag,At,Ap⟩:Aa) (⟨xkin,xnam,xto,xtex⟩:TOp):=(by unfold C1;dsimp only;rw[if_neg h1,if_neg h2,if_neg h3,if_pos h4];exact c0.symm)
 rw[hr]at e
 simp only[Prod.mk.injEq,Aa.mk.injEq]at e
 obtain⟨⟨rfl,rfl,rfl,rfl,rfl,rfl⟩,rfl⟩:=e
 obtain rfl:b7=Cc:=by rw[←ba,←By]
 obtain rfl:nr5anod=noanod:=by first|omega|(rw[hnoanod];simp;done)|(rw[hnoanod];simp;omega)
 obtain rfl:b8=Cb:=by rw[←bb,←Bx]
 obtain rfl:nr5aent=noaent:=by first|omega|(rw[hnoaent];simp;done)|(rw[hnoaent];simp;omega)
 obtain rfl:b9=Ca:=by rw[←bc,←Bz]
 obtain rfl:nr5aold=noaold:=by first|omega|(rw[hnoaold];simp;done)|(rw[hnoaold];simp;omega)
 obtain rfl:ca=B9:=by rw[←bd,←B0]
 obtain rfl:nr5aste=noaste:=by first|omega|(rw[hnoaste];simp;done)|(rw[hnoaste];simp;omega)
 exact hQ _ _ (.o [7,8,9,10] rfl)
 conv=>cbv
 refine .eql (fun h5=>?_) fun h5=>?_
 conv=>cbv
 rcases c1:Bs (⟨Ae,Al,Ak,Ag,At,Ap⟩:Aa) xnam xto with⟨⟨ar,au,aw,ax,co,cp⟩,c9⟩
 generalize be:ar.map Bi=cb
 generalize bf:au.map Ac=cc
 generalize bg:aw.map Ac=cd
 generalize bh:ax.map cS=ce
 obtain⟨nr6anod,hnr6anod⟩:∃m,m=ar.length:=⟨_,rfl⟩
 obtain⟨nr6aent,hnr6aent⟩:∃m,m=au.length:=⟨_,rfl⟩
 obtain⟨nr6aold,hnr6aold⟩:∃m,m=aw.length:=⟨_,rfl⟩
 obtain⟨nr6aste,hnr6aste⟩:∃m,m=ax.length:=⟨_,rfl⟩
 refine .ddN hP (Z1 An Am Aq As aa.1.1 aa.1.2.2.1 aa.1.2.2.2.2.1 hs aa.2.2 aa (by omega) c1 be bf bg bh hnr6anod hnr6aent hnr6aold hnr6aste) rfl ?_
 conv=>cbv
 have e:((⟨ar,au,aw,ax,co,cp⟩:Aa),c9)=C1 (⟨Ae,Al,Ak,Ag,At,Ap⟩:Aa) (⟨xkin,xnam,xto,xtex⟩:TOp):=(by unfold C1;dsimp only;rw[if_neg h1,if_neg h2,if_neg h3,if_neg h4,if_pos h5];exact c1.symm)
 rw[hr]at e
 simp only[Prod.mk.injEq,Aa.mk.injEq]at e
 obtain⟨⟨rfl,rfl,rfl,rfl,rfl,rfl⟩,rfl⟩:=e
 obtain rfl:cb=Cc:=by rw[←be,←By]
 obtain rfl:nr6anod=noanod:=by first|omega|(rw[hnoanod];simp;done)|(rw[hnoanod];simp;omega)
 obtain rfl:cc=Cb:=by rw[←bf,←Bx]
 obtain rfl:nr6aent=noaent:=by first|omega|(rw[hnoaent];simp;done)|(rw[hnoaent];simp;omega)
 obtain rfl:cd=Ca:=by rw[←bg,←Bz]
 obtain rfl:nr6aold=noaold:=by first|omega|(rw[hnoaold];simp;done)|(rw[hnoaold];simp;omega)
 obtain rfl:ce=B9:=by rw[←bh,←B0]
 obtain rfl:nr6aste=noaste:=by first|omega|(rw[hnoaste];simp;done)|(rw[hnoaste];simp;omega)
 exact hQ _ _ (.o [7,8,9,10] rfl)
 conv=>cbv
 refine .eql (fun h6=>?_) fun h6=>?_
 conv=>cbv
 rcases c2:Ds (⟨Ae,Al,Ak,Ag,At,Ap⟩:Aa)with⟨bi,bj,bk,bl,cv,cw⟩
 generalize bm:bi.map Bi=cq
 generalize bn:bj.map Ac=cr
 generalize bo:bk.map Ac=ct
 generalize bp:bl.map cS=cu
 obtain⟨nr7nod,hnr7nod⟩:∃m,m=bi.length:=⟨_,rfl⟩
 obtain⟨nr7ent,hnr7ent⟩:∃m,m=bj.length:=⟨_,rfl⟩
 obtain⟨nr7old,hnr7old⟩:∃m,m=bk.length:=⟨_,rfl⟩
 obtain⟨nr7ste,hnr7ste⟩:∃m,m=bl.length:=⟨_,rfl⟩
 refine .ddN hP (Xcm An Am Aq As aa.1.1 aa.1.2.2.1 aa.1.2.2.2.2.1 hs aa.2.2 aa c2 bm bn bo bp hnr7nod hnr7ent hnr7old hnr7ste) rfl ?_
 conv=>cbv
 have e:((⟨bi,bj,bk,bl,cv,cw⟩:Aa),0)=C1 (⟨Ae,Al,Ak,Ag,At,Ap⟩:Aa) (⟨xkin,xnam,xto,xtex⟩:TOp):=(by unfold C1;dsimp only;rw[if_neg h1,if_neg h2,if_neg h3,if_neg h4,if_neg h5,if_pos h6];rw[c2])
 rw[hr]at e
 simp only[Prod.mk.injEq,Aa.mk.injEq]at e
 obtain⟨⟨rfl,rfl,rfl,rfl,rfl,rfl⟩,rfl⟩:=e
 obtain rfl:cq=Cc:=by rw[←bm,←By]
 obtain rfl:nr7nod=noanod:=by first|omega|(rw[hnoanod];simp;done)|(rw[hnoanod];simp;omega)
 obtain rfl:cr=Cb:=by rw[←bn,←Bx]
 obtain rfl:nr7ent=noaent:=by first|omega|(rw[hnoaent];simp;done)|(rw[hnoaent];simp;omega)
 obtain rfl:ct=Ca:=by rw[←bo,←Bz]
 obtain rfl:nr7old=noaold:=by first|omega|(rw[hnoaold];simp;done)|(rw[hnoaold];simp;omega)
 obtain rfl:cu=B9:=by rw[←bp,←B0]
 obtain rfl:nr7ste=noaste:=by first|omega|(rw[hnoaste];simp;done)|(rw[hnoaste];simp;omega)
 exact hQ _ _ (.o [7,8,9,10] rfl)
 conv=>cbv
 obtain⟨n8,da⟩:∃m,m=Ae.length:=⟨_,rfl⟩
 obtain⟨db,c3⟩:∃m,m=Al.length:=⟨_,rfl⟩
 obtain⟨dc,c4⟩:∃m,m=Ak.length:=⟨_,rfl⟩
 obtain⟨n9,de⟩:∃m,m=Ag.length:=⟨_,rfl⟩
 refine .ddN hP (Fz An Am Aq As (by omega) (by omega) (by omega) (by omega) rfl An Am Aq As da c3 c4 de) rfl ?_
 conv=>cbv
 have e:((⟨Ae,Al,Ak,Ag,At,Ap⟩:Aa),1)=C1 (⟨Ae,Al,Ak,Ag,At,Ap⟩:Aa) (⟨xkin,xnam,xto,xtex⟩:TOp):=(by unfold C1;dsimp only;rw[if_neg h1,if_neg h2,if_neg h3,if_neg h4,if_neg h5,if_neg h6])
 rw[hr]at e
 simp only[Prod.mk.injEq,Aa.mk.injEq]at e
 obtain⟨⟨rfl,rfl,rfl,rfl,rfl,rfl⟩,rfl⟩:=e
 obtain rfl:Bv=Cc:=by rw[←An,←By]
 obtain rfl:n8=noanod:=by first|omega|(rw[hnoanod];simp;done)|(rw[hnoanod];simp;omega)
 obtain rfl:Bq=Cb:=by rw[←Am,←Bx]
 obtain rfl:db=noaent:=by first|omega|(rw[hnoaent];simp;done)|(rw[hnoaent];simp;omega)
 obtain rfl:Bn=Ca:=by rw[←Aq,←Bz]
 obtain rfl:dc=noaold:=by first|omega|(rw[hnoaold];simp;done)|(rw[hnoaold];simp;omega)
 obtain rfl:Br=B9:=by rw[←As,←B0]
 obtain rfl:n9=noaste:=by first|omega|(rw[hnoaste];simp;done)|(rw[hnoaste];simp;omega)
 exact hQ _ _ (.o [7,8,9,10] rfl)
theorem Xgp{list:List TOp}{xlist:List (List D)}{n:Int}(An:Ae.map Bi=Bv)(Am:Al.map Ac=Bq)(Aq:Ak.map Ac=Bn)(As:Ag.map cS=Br)(hlist:list.map eOp=xlist)(be:Jw (⟨Ae,Al,Ak,Ag,At,Ap⟩:Aa))(hs:Ag.length+list.length≤900000000)(hl:∀x∈list,okO x)(hr:Ep (⟨Ae,Al,Ak,Ag,At,Ap⟩:Aa) list n=(⟨Fd,Fb,Fc,Fa,Gd,Gf⟩,ob))(By:Fd.map Bi=Cc)(Bx:Fb.map Ac=Cb)(Bz:Fc.map Ac=Ca)(B0:Fa.map cS=B9)(hnoanod:noanod=Fd.length)(hnoaent:noaent=Fb.length)(hnoaold:noaold=Fc.length)(hnoaste:noaste=Fa.length):Fn Tryz.prog 126 [.agg [.d (.row 3 Bv),.d (.row 2 Bq),.d (.row 2 Bn),.d (.row 1 Br),I At,I Ap],.d (.row 4 xlist),I n] [] ⟨.tup [.agg [.ref 0 0 noanod,.ref 1 0 noaent,.ref 2 0 noaold,.ref 3 0 noaste,I Gd,I Gf],I ob],[.row 3 false Cc,.row 2 false Cb,.row 2 false Ca,.row 1 false B9],[]⟩:=by
 refine Fn.goR XdD Tryz.func126 fun P hP Q hQ=>?_
 conv=>cbv
 obtain⟨n2,bo⟩:∃m,m=Ae.length:=⟨_,rfl⟩
 obtain⟨bp,bj⟩:∃m,m=Al.length:=⟨_,rfl⟩
 obtain⟨bq,bk⟩:∃m,m=Ak.length:=⟨_,rfl⟩
 obtain⟨n3,bt⟩:∃m,m=Ag.length:=⟨_,rfl⟩
 have b4:Ae.length≤1000000000:=be.1.1
 have bh:Al.length≤1000000000:=be.1.2.2.1
 have b5:Ak.length≤1000000000:=be.1.2.2.2.2.1
 refine .ddN hP (Fz An Am Aq As (by omega) (by omega) (by omega) (by omega) rfl An Am Aq As bo bj bk bt) rfl ?_
 conv=>cbv
 refine .go hlist fun v4 bu=>?_
 conv=>cbv
 generalize bi:Dh n 0 v4=r5
 refine .dd hP (Xbo bi) ?_
 conv=>cbv
 have hbr:0≤r5∧r5≤list.length:=by rw[←bi];unfold Dh;split<;>(try split)<;>(try split)<;>omega
 refine .hi hlist fun x6 hx6=>?_
 conv=>cbv
 refine .go hx6 fun v7 b6=>?_
 conv=>cbv
 refine LoopW.lp (κ:=Int×Int×Int×(List (List D))×Nat×(List (List D))×Nat×(List (List D))×Nat×(List (List D))×Nat) XdD hP [6,7,8,9] [6,8,20,21] (fun(ag,aa,ab,ah,ai,aj,ak,al,am,an,ao)=>[(22,I ag)]) (fun(ag,aa,ab,ah,ai,aj,ak,al,am,an,ao)=>[(14,.box 28 [.ref 15 0 ai,.ref 16 0 ak,.ref 17 0 am,.ref 18 0 ao,I aa,I ab]),(15,.row 3 false ah),(16,.row 2 false aj),(17,.row 2 false al),(18,.row 1 false an)])
  (fun(ag,aa,ab,ah,ai,aj,ak,al,am,an,ao)=>∃(a1:List Bg) (a2:List Ad) (a3:List Ad) (ap:List ByteArray),a1.map Bi=ah∧ai=a1.length∧a2.map Ac=aj∧ak=a2.length∧a3.map Ac=al∧am=a3.length∧ap.map cS=an∧ao=ap.length∧0≤ag∧ag≤(list.take r5.toNat).length∧Jw (⟨a1,a2,a3,ap,aa,ab⟩:Aa)∧ap.length≤Ag.length+ag∧Ep (⟨Ae,Al,Ak,Ag,At,Ap⟩:Aa) list n=Nj (⟨a1,a2,a3,ap,aa,ab⟩:Aa) ((list.take r5.toNat).drop ag.toNat))
  (fun(ag,aa,ab,ah,ai,aj,ak,al,am,an,ao)=>((list.take r5.toNat).length - ag).toNat) (0,At,Ap,Bv,n2,Bq,bp,Bn,bq,Br,n3) ⟨Ae,Al,Ak,Ag,An,(by first|omega|(simp;omega)),Am,(by first|omega|(simp;omega)),Aq,(by first|omega|(simp;omega)),As,(by first|omega|(simp;omega)),by omega,by omega,be,by omega,by unfold Ep;rw[←bu,bi];rfl⟩ ⟨rfl,trivial⟩ rfl ?_
 rintro⟨ag,aa,ab,ah,ai,aj,ak,al,am,an,ao⟩ J ⟨a1,a2,a3,ap,a9,bv,ba,bw,bb,bz,bc,b0,h0,h1,bh,hqs,hio⟩ hJ
 have htl:(list.take r5.toNat).length≤list.length:=by rw[List.length_take];omega
 conv=>cbv
 refine .lss (fun h8=>?_) fun h8=>?_
 conv=>cbv
 refine .go ag.toNat hx6 fun bf ⟨a6,a7,bd,a8⟩ bl=>?_
 conv=>cbv
 have hox:okO (⟨a6,a7,bd,a8⟩:TOp):=by rw[bl];exact hl _ (List.mem_of_mem_take (List.getElem_mem bf))
 rcases bg:C1 (⟨a1,a2,a3,ap,aa,ab⟩:Aa) (⟨a6,a7,bd,a8⟩:TOp)with⟨⟨aq,ar,au,aw,a4,a5⟩,bm⟩
 generalize ac:aq.map Bi=ax
 generalize ad:ar.map Ac=ay
 generalize ae:au.map Ac=az
 generalize af:aw.map cS=a0
 obtain⟨nr10anod,hnr10anod⟩:∃m,m=aq.length:=⟨_,rfl⟩
 obtain⟨nr10aent,hnr10aent⟩:∃m,m=ar.length:=⟨_,rfl⟩
 obtain⟨nr10aold,hnr10aold⟩:∃m,m=au.length:=⟨_,rfl⟩
 obtain⟨nr10aste,hnr10aste⟩:∃m,m=aw.length:=⟨_,rfl⟩
 have hg:=Z7 (d:=(⟨a1,a2,a3,ap,aa,ab⟩:Aa)) bh (by show ap.length<_;omega) hox
 have hstep:=Yb (d:=(⟨a1,a2,a3,ap,aa,ab⟩:Aa)) (x:=(⟨a6,a7,bd,a8⟩:TOp)) bf bl
 rw[bg]at hg hstep
 have b2:=hg.2
 simp only[]at b2
 refine .lntN hP (XiH a9 ba bb bc bh (by omega) hox bg ac ad ae af hnr10anod hnr10aent hnr10aold hnr10aste) (.agg (.ref rfl (Af a9) (.ref rfl (Af ba) (.ref rfl (Af bb) (.ref rfl (Af bc) (.d rfl (.d rfl .nil)))))) (.agg (.d rfl (.d rfl (.d rfl (.d rfl .nil)))) .nil)) rfl rfl rfl (by simp only[List.all_cons,List.all_nil,Bool.and_self,F4 (fun _=>rfl) ac,F4 (fun _=>rfl) ad,F4 (fun _=>rfl) ae,F4 (fun _=>rfl) af]) ?_
 conv=>cbv
 refine .neq (fun h11=>?_) fun h11=>?_
 conv=>cbv
 have e:((⟨aq,ar,au,aw,a4,a5⟩:Aa),bm)=Ep (⟨Ae,Al,Ak,Ag,At,Ap⟩:Aa) list n:=(by rw[hio,hstep];symm;exact if_neg (by omega))
 rw[hr]at e
 simp only[Prod.mk.injEq,Aa.mk.injEq]at e
 obtain⟨⟨rfl,rfl,rfl,rfl,rfl,rfl⟩,rfl⟩:=e
 obtain rfl:ax=Cc:=by rw[←ac,←By]
 obtain rfl:nr10anod=noanod:=by first|omega|(rw[hnoanod];simp;done)|(rw[hnoanod];simp;omega)
 obtain rfl:ay=Cb:=by rw[←ad,←Bx]
 obtain rfl:nr10aent=noaent:=by first|omega|(rw[hnoaent];simp;done)|(rw[hnoaent];simp;omega)
 obtain rfl:az=Ca:=by rw[←ae,←Bz]
 obtain rfl:nr10aold=noaold:=by first|omega|(rw[hnoaold];simp;done)|(rw[hnoaold];simp;omega)
 obtain rfl:a0=B9:=by rw[←af,←B0]
 obtain rfl:nr10aste=noaste:=by first|omega|(rw[hnoaste];simp;done)|(rw[hnoaste];simp;omega)
 exact hQ _ _ (.o [20,21,22,23] rfl)
 conv=>cbv
 refine .add fun bn b3=>?_
 conv=>cbv
 exact .go [20,21,22,23] (bn,a4,a5,ax,nr10anod,ay,nr10aent,az,nr10aold,a0,nr10aste) (hJ _ ⟨_,_,_,_,ac,Lx,ad,Lx,ae,Lx,af,Lx,by omega,by omega,hg.1,by omega,by rw[hio,hstep,show bn.toNat=ag.toNat+1 by omega];exact if_pos (by omega)⟩ mlt)
 conv=>cbv
 have e:((⟨a1,a2,a3,ap,aa,ab⟩:Aa),0)=Ep (⟨Ae,Al,Ak,Ag,At,Ap⟩:Aa) list n:=(by rw[hio,List.drop_of_length_le (by omega)];rfl)
 rw[hr]at e
 simp only[Prod.mk.injEq,Aa.mk.injEq]at e
 obtain⟨⟨rfl,rfl,rfl,rfl,rfl,rfl⟩,rfl⟩:=e
 obtain rfl:ah=Cc:=by rw[←a9,←By]
 obtain rfl:ai=noanod:=by first|omega|(rw[hnoanod];simp;done)|(rw[hnoanod];simp;omega)
 obtain rfl:aj=Cb:=by rw[←ba,←Bx]
 obtain rfl:ak=noaent:=by first|omega|(rw[hnoaent];simp;done)|(rw[hnoaent];simp;omega)
 obtain rfl:al=Ca:=by rw[←bb,←Bz]
 obtain rfl:am=noaold:=by first|omega|(rw[hnoaold];simp;done)|(rw[hnoaold];simp;omega)
 obtain rfl:an=B9:=by rw[←bc,←B0]
 obtain rfl:ao=noaste:=by first|omega|(rw[hnoaste];simp;done)|(rw[hnoaste];simp;omega)
 exact hQ _ _ (.o [15,16,17,18] rfl)
end
section
open Go Go.Proofs
def XeB:List (Nat×TyRow):=[ty3,ty9,Xcu,Xal,Xjy,ty92,ty96,XiQ]
theorem Xcx:B8 Tryz.prog XeB:=B8.of (by kernel_rfl)
theorem P4:Setup Tryz.prog XeB:=⟨Xcx,mixed⟩
variable {o l:List F6} {no nl:Nat} {xl:List (List D)}
theorem XiT{Ae:List Bg}{Bv:List (List D)}{Al:List Ad}{Bq:List (List D)}{Ak:List Ad}{Bn:List (List D)}{Ag:List ByteArray}{Br:List (List D)}{At:Int}{Ap:Int}{xo:List (List D)}(An:Ae.map Bi=Bv)(Am:Al.map Ac=Bq)(Aq:Ak.map Ac=Bn)(As:Ag.map cS=Br)(hd:okD ⟨Ae,Al,Ak,Ag,At,Ap⟩)(hr:Ek (⟨Ae,Al,Ak,Ag,At,Ap⟩:Aa)=o)(ho:o.map Xb7=xo)(hno:no=o.length):Fn Tryz.prog 121 [.agg [.d (.row 3 Bv),.d (.row 2 Bq),.d (.row 2 Bn),.d (.row 1 Br),I At,I Ap]] [] ⟨.ref 0 0 no,[.row 11 false xo],[]⟩:=by
 refine Fn.goR P4 Tryz.func121 fun P hP Q hQ=>?_
 conv=>cbv
 refine LoopW.lp (κ:=Int×Int×(List (List D))×Nat) P4 hP [2] [1] (fun(i4,i5,ad,ac)=>[(3,.ref 3 0 ac),(4,I i4),(5,I i5)]) (fun(i4,i5,ad,ac)=>[(3,.row 11 false ad)])
  (fun(i4,i5,ad,ac)=>∃(w3:List F6),w3.map Xb7=ad∧ac=w3.length∧(w3.length≤16∧0≤i4∧i4≤2000000000)∧Ek (⟨Ae,Al,Ak,Ag,At,Ap⟩:Aa)=w3++H7 (⟨Ae,Al,Ak,Ag,At,Ap⟩:Aa) (16 - w3.length) i4 i5)
  (fun(i4,i5,ad,ac)=>16 - ac) (0,0,[],0) ⟨[],rfl,rfl,by simp,rfl⟩ ⟨rfl,rfl,rfl,trivial⟩ rfl ?_
 rintro⟨i4,i5,ad,ac⟩ J ⟨w3,al,a4,hb,hI⟩ hJ
 conv=>cbv
 refine .go fun v1 a6=>?_
 conv=>cbv
 refine .lss (fun h2=>?_) fun h2=>?_
 conv=>cbv
 generalize aj:D0 (⟨Ae,Al,Ak,Ag,At,Ap⟩:Aa) i4=r3
 refine .dd hP (XiE An Am Aq As hd aj) ?_
 conv=>cbv
 have z3:=Ok hd aj
 rcases am:Bu r3 with⟨au,⟨af,ag,ah,ai⟩,ab,ak,ap,aq⟩
 generalize aa:ab.map cS=ax
 generalize ae:ak.map cI=ay
 refine .dd hP (W2 (by omega) am aa ae) ?_
 conv=>cbv
 have zr:=Lq (b:=r3)
 have zq:=Xew (b:=r3)
 rw[am]at zr zq
 simp only[]at zr zq
 have rq:Dr r3=ab:=by unfold Dr;rw[am]
 generalize an:D5 r3 i4 i5=r5
 refine .dd hP (XiC (by omega) an) ?_
 cases r5
 conv=>cbv
 have e:w3=Ek (⟨Ae,Al,Ak,Ag,At,Ap⟩:Aa):=(by rw[hI,Qs aj (.inl an),List.append_nil])
 rw[hr]at e
 obtain rfl:=e
 obtain rfl:ad=xo:=by rw[←al,←ho]
 obtain rfl:ac=no:=by first|omega|(rw[hno];simp;done)|(rw[hno];simp;omega)
 exact hQ _ _ (.o [3] rfl)
 conv=>cbv
 refine .go aa fun v6 ar=>?_
 conv=>cbv
 refine .eql (fun h7=>?_) fun h7=>?_
 conv=>cbv
 have e:w3=Ek (⟨Ae,Al,Ak,Ag,At,Ap⟩:Aa):=(by rw[hI,Qs aj (.inr (by rw[rq];exact List.eq_nil_of_length_eq_zero (by omega))),List.append_nil])
 rw[hr]at e
 obtain rfl:=e
 obtain rfl:ad=xo:=by rw[←al,←ho]
 obtain rfl:ac=no:=by first|omega|(rw[hno];simp;done)|(rw[hno];simp;omega)
 exact hQ _ _ (.o [3] rfl)
 conv=>cbv
 have hg:=Rm an
 obtain⟨hh,g1,g2,g3,g4,g5⟩:=hg
 have hne:ab≠[]:=by intro e;rw[e]at ar;simp at ar;exact h7 ar
 refine .one (⟨i4,r3,⟨au,⟨af,ag,ah,ai⟩,ab,ak,ap,aq⟩⟩:F6) al (by rw[←aa,←ae];rfl) fun az z8 a5 a0=>?_
 conv=>cbv
 refine .go aa fun v9 a1=>?_
 conv=>cbv
 refine .add fun a2 aw=>?_
 conv=>cbv
 generalize ao:F0 i5 ab=a3
 refine .dd hP (XhC aa (by omega) zq ao) ?_
 conv=>cbv
 exact .go [10] (a2,a3,z8,az) (hJ _ ⟨_,a0,Lx,by rw[List.length_append];simp;omega,by rw[hI,show 16 - w3.length=(15 - w3.length)+1 by omega,Wn aj an (by rw[rq];exact hne),List.append_assoc,am,List.length_append,rq,ao,←a1,←aw];simp only[List.length_singleton];rw[show 16 - (w3.length+1)=15 - w3.length by omega];rfl⟩ mlt)
 conv=>cbv
 have e:w3=Ek (⟨Ae,Al,Ak,Ag,At,Ap⟩:Aa):=(by rw[hI,show 16 - w3.length=0 by omega];simp[H7])
 rw[hr]at e
 obtain rfl:=e
 obtain rfl:ad=xo:=by rw[←al,←ho]
 obtain rfl:ac=no:=by first|omega|(rw[hno];simp;done)|(rw[hno];simp;omega)
 exact hQ _ _ (.o [3] rfl)
def Bt(x:F6):Bool:=!decide (x.scan_.head_.version_=1)
theorem N2{xbas:Int}{xtex:ByteArray}{xscaok:Bool}{xscaheaver:Int}{xscaheastr:Int}{xscaheabas:Int}{xscahealin:Int}{xscarec:List ByteArray}{xxscarec:List (List D)}{xscaoff:List Int}{xxscaoff:List (List D)}{xscaend:Int}{xscamar:Bool}{o:Bool}(hxscarec:xscarec.map cS=xxscarec)(hxscaoff:xscaoff.map cI=xxscaoff)(hr:Bt (⟨xbas,xtex,⟨xscaok,⟨xscaheaver,xscaheastr,xscaheabas,xscahealin⟩,xscarec,xscaoff,xscaend,xscamar⟩⟩:F6)=o):Fn Tryz.prog 122 [.agg [I xbas,S xtex,B xscaok,I xscaheaver,I xscaheastr,I xscaheabas,I xscahealin,.d (.row 1 xxscarec),.d (.row 1 xxscaoff),I xscaend,B xscamar]] [] ⟨B o,[],[]⟩:=by
 refine Fn.go P4 Tryz.func122 fun P hP Q hQ=>?_
 conv=>cbv
 refine .neq (fun h1=>?_) fun h1=>?_
 conv=>cbv
 have e:true=Bt (⟨xbas,xtex,⟨xscaok,⟨xscaheaver,xscaheastr,xscaheabas,xscahealin⟩,xscarec,xscaoff,xscaend,xscamar⟩⟩:F6):=(by unfold Bt;simp[h1])
 rw[hr]at e
 subst e
 exact hQ _ _ (.b rfl rfl)
 conv=>cbv
 have e:false=Bt (⟨xbas,xtex,⟨xscaok,⟨xscaheaver,xscaheastr,xscaheabas,xscahealin⟩,xscarec,xscaoff,xscaend,xscamar⟩⟩:F6):=(by unfold Bt;simp[h1])
 rw[hr]at e
 subst e
 exact hQ _ _ (.b rfl rfl)
def En(l:List F6):Int:=S1 (fun x=>Bt x) l
theorem Li{o:Int}(hl:l.map Xb7=xl)(hnl:nl=l.length)(hn:l.length<2^40)(hr:En l=o):Fn Tryz.prog 201 [.ref 0 0 nl,.clo 122 []] [.row 11 false xl] ⟨I o,[],[]⟩:=by
 refine Fn.goR P4 Tryz.func201 fun P hP Q hQ=>?_
 conv=>cbv
 refine .go fun v1 ax=>?_
 conv=>cbv
 refine LoopW.lp (κ:=Int) P4 hP [] [0,1,7] (fun i8=>[(8,I i8)]) (fun i8=>[])
  (fun i8=>0≤i8∧i8≤l.length∧∀(j:Nat) (hj:j<l.length),j<i8.toNat→Bt l[j]=false)
  (fun i8=>(l.length - i8).toNat) (0) ⟨by omega,by omega,fun j _ h=>by simp at h⟩ ⟨rfl,trivial⟩ rfl ?_
 rintro i8 J ⟨h0,h1,hb⟩ hJ
 conv=>cbv
 refine .lss (fun h2=>?_) fun h2=>?_
 conv=>cbv
 refine .go i8.toNat fun p3 ar au=>?_
 conv=>cbv
 refine .goX hl fun aw ⟨al,am,⟨ai,⟨aa,ab,ac,ad⟩,ae,af,ag,ah⟩⟩ fe4 aq hfe4=>?_
 replace hfe4:[.sc (.int .i64 al),.sc (.string am),.sc (.bool ai),.sc (.int .i64 aa),.sc (.int .i64 ab),.sc (.int .i64 ac),.sc (.int .i64 ad),.row 1 (ae.map cS),.row 1 (af.map cI),.sc (.int .i64 ag),.sc (.bool ah)]=fe4:=hfe4
 generalize aj:ae.map cS=an at hfe4
 generalize ak:af.map cI=ao at hfe4
 subst hfe4
 conv=>cbv
 subst ar
 generalize ap:Bt (⟨al,am,⟨ai,⟨aa,ab,ac,ad⟩,ae,af,ag,ah⟩⟩:F6)=r5
 refine .dd hP (N2 aj ak ap) ?_
 cases r5
 conv=>cbv
 refine .add fun v6 ay=>?_
 conv=>cbv
 exact .go [] (v6) (hJ _ ⟨by omega,by omega,fun j hj h=>if e:j=i8.toNat then by subst e;rw[←aq];exact ap else hb j hj (by omega)⟩ mlt)
 conv=>cbv
 have e:i8=En l:=(by exact Ni (p:=fun x=>Bt x) h0 (by omega) (by rw[←aq];exact ap) hb)
 rw[hr]at e
 subst e
 exact hQ _ _ (.o [] rfl)
 conv=>cbv
 have e:(-1)=En l:=(by exact I4 (p:=fun x=>Bt x) fun j hj=>hb j hj (by omega))
 rw[hr]at e
 subst e
 exact hQ _ _ (.o [] rfl)
def C0(l:List F6):List F6:=l.filter (fun x=>!Bt x)
def zLink:List D:=[.sc (.int .i64 0),.sc (.string ⟨#[]⟩),.sc (.bool false),.sc (.int .i64 0),.sc (.int .i64 0),.sc (.int .i64 0),.sc (.int .i64 0),.sc (.slice none 0 0),.sc (.slice none 0 0),.sc (.int .i64 0),.sc (.bool false)]
theorem Kq{xf:List (List D)}(hl:l.map Xb7=xl)(hnl:nl=l.length)(hn:l.length<2^40)(hr:C0 l=o)(hf:o.map Xb7++List.replicate (l.length - o.length) zLink=xf)(hno:no=o.length):Fn Tryz.prog 120 [.ref 0 0 nl,.clo 122 []] [.row 11 false xl] ⟨.ref 0 0 no,[],[(0,.row 11 false xf)]⟩:=by
 refine Fn.goR P4 Tryz.func120 fun P hP Q hQ=>?_
 conv=>cbv
 generalize ap:En l=r1
 refine .bx [0] [] hP (Li hl (by first|rfl|omega|(simp;omega)) hn ap) rfl rfl rfl rfl ?_
 conv=>cbv
 refine .eql (fun h2=>?_) fun h2=>?_
 conv=>cbv
 have e:l=o:=by rw[←hr];unfold C0;symm;rw[List.filter_eq_self];intro x hx;rw[XgT (p:=fun x=>Bt x) ap (by omega) x hx];rfl
 subst e
 obtain rfl:xl=xf:=by rw[←hl,←hf];simp
 obtain rfl:nl=no:=by omega
 exact hQ _ _ (.o [] rfl)
 conv=>cbv
 have hd:=Xiq (p:=fun x=>Bt x) ap h2
 refine .add fun v3 a2=>?_
 conv=>cbv
 refine LoopW.lp (κ:=Int×Int×(List (List D))) P4 hP [] [0,1] (fun(i5,i6,an)=>[(5,I i5),(6,I i6)]) (fun(i5,i6,an)=>[(0,.row 11 false an)])
  (fun(i5,i6,an)=>∃(w0:List F6),w0.map Xb7=an∧(0≤i5∧i5<i6∧i6≤l.length)∧w0.length=l.length∧w0.take i5.toNat=(l.take i6.toNat).filter (fun x=>!Bt x)∧w0.drop i6.toNat=l.drop i6.toNat)
  (fun(i5,i6,an)=>(l.length - i6).toNat) (r1,v3,xl) ⟨l,hl,by omega,rfl,by rw[hd.2.2,a2],rfl⟩ ⟨rfl,rfl,trivial⟩ rfl ?_
 rintro⟨i5,i6,an⟩ J ⟨w0,ao,hb,hwl,hwt,hwd⟩ hJ
 conv=>cbv
 refine .go fun v4 bb=>?_
 conv=>cbv
 refine .lss (fun h5=>?_) fun h5=>?_
 conv=>cbv
 refine .go i6.toNat fun p6 a3 a7=>?_
 conv=>cbv
 refine .goX ao fun ay ⟨al,am,⟨ai,⟨aa,ab,ac,ad⟩,ae,af,ag,ah⟩⟩ fe7 a4 hfe7=>?_
 replace hfe7:[.sc (.int .i64 al),.sc (.string am),.sc (.bool ai),.sc (.int .i64 aa),.sc (.int .i64 ab),.sc (.int .i64 ac),.sc (.int .i64 ad),.row 1 (ae.map cS),.row 1 (af.map cI),.sc (.int .i64 ag),.sc (.bool ah)]=fe7:=hfe7
 generalize aj:ae.map cS=aq at hfe7
 generalize ak:af.map cI=ar at hfe7
 subst hfe7
 conv=>cbv
 subst a3
 have au:(⟨al,am,⟨ai,⟨aa,ab,ac,ad⟩,ae,af,ag,ah⟩⟩:F6)=l[i6.toNat]:=a4.trans (Xl5 ay (by omega) hwd)
 generalize aw:Bt (⟨al,am,⟨ai,⟨aa,ab,ac,ad⟩,ae,af,ag,ah⟩⟩:F6)=r8
 refine .dd hP (N2 aj ak aw) ?_
 cases r8
 conv=>cbv
 refine .go i5.toNat fun p9 a5 a8=>?_
 conv=>cbv
 refine .all ((⟨al,am,⟨ai,⟨aa,ab,ac,ad⟩,ae,af,ag,ah⟩⟩:F6)) ao (by rw[←aj,←ak];rfl) fun a6 az=>?_
 conv=>cbv
 refine .add fun a0 a9=>?_
 conv=>cbv
 refine .add fun ax ba=>?_
 conv=>cbv
 have hk:=XgG (i:=i5.toNat) (p:=fun x=>Bt x) (show i6.toNat<l.length by omega) (by omega) hwl hwt hwd (by rw[←au];exact aw)
 rw[←au]at hk
 subst a5
 exact .go [] (a0,ax,a6) (hJ _ ⟨_,az,by omega,by rw[List.length_set];exact hwl,by rw[show a0.toNat=i5.toNat+1 by omega,show ax.toNat=i6.toNat+1 by omega];exact hk.1,by rw[show ax.toNat=i6.toNat+1 by omega];exact hk.2⟩ mlt)
 conv=>cbv
 refine .add fun v9 bc=>?_
 conv=>cbv
 have hk:=XhB (p:=fun x=>Bt x) (show i6.toNat<l.length by omega) hwt hwd (by rw[←au];exact aw)
 exact .go [] (i5,v9,an) (hJ _ ⟨_,ao,by omega,hwl,by rw[show v9.toNat=i6.toNat+1 by omega];exact hk.1,by rw[show v9.toNat=i6.toNat+1 by omega];exact hk.2⟩ mlt)
 conv=>cbv
 refine .lo fun on6 n6 hon6 bd=>?_
 conv=>cbv
 refine .goZ [.sc (.int .i64 0),.sc (.string ⟨#[]⟩),.sc (.bool false),.sc (.int .i64 0),.sc (.int .i64 0),.sc (.int .i64 0),.sc (.int .i64 0),.sc (.slice none 0 0),.sc (.slice none 0 0),.sc (.int .i64 0),.sc (.bool false)] (zz:=[(.int .i64 0,0),(.string ⟨#[]⟩,0),(.bool false,0),(.int .i64 0,0),(.int .i64 0,0),(.int .i64 0,0),(.int .i64 0,0),(.slice none 0 0,1),(.slice none 0 0,1),(.int .i64 0,0),(.bool false,0)]) hP ao Tryz.underlying127 (by kernel_rfl) rfl rfl (by decide) fun z7 a1=>?_
 conv=>cbv
 refine .hi fun on8 n8 hon8 be=>?_
 conv=>cbv
 have e:w0.take on6=o:=by rw[hon6,Nat.zero_add,hwt,List.take_of_length_le (by omega),←hr];rfl
 rw[e]at a1
 have el:o.length=on6:=by rw[←e,List.length_take];omega
 obtain rfl:z7=xf:=by rw[←a1,←hf,show n6=l.length - o.length by omega];rfl
 obtain rfl:n8=no:=by omega
 subst hon8
 exact hQ _ _ (.o [] rfl)
end
section
open Go Go.Proofs
def XdO:List (Nat×TyRow):=[ty3,ty9,Xal,ty96,XgX,XiQ]
theorem Xdu:B8 Tryz.prog XdO:=B8.of (by kernel_rfl)
theorem Xg4:Setup Tryz.prog XdO:=⟨Xdu,mixed⟩
def T4(l:List Ad)(n:ByteArray):Option Int:=(l.find? fun e=>decide (e.name_=n)).map (·.id_)
def Xdr(nodes:List Bg)(i:Int):Option ByteArray:=(nodes.find? fun x=>decide (x.id_=i)).map (·.text_)
def Qc(d:Aa)(n:ByteArray):Option ByteArray:=(T4 d.entries_ n).bind (Xdr d.nodes_)
section
variable {α:Type} {p q:α→Bool}
theorem Xe6:∀{l:List α},l.find? p=l[l.findIdx p]?
 |[]=>rfl
 |x::l=>by
  rw[List.find?_cons,List.findIdx_cons]
  cases p x with
  |true=>rfl
  |false=>exact Xe6 (l:=l)
theorem Vh{l:List α}:l.find? p=if S1 p l<0 then none else l[(S1 p l).toNat]? :=by
 rw[Xe6]
 unfold S1
 by_cases h:l.findIdx p<l.length
 ·rw[if_pos h,if_neg (by omega),Int.toNat_natCast]
 ·rw[if_neg h,if_pos (by omega),List.getElem?_eq_none (by omega)]
theorem Py:∀{l:List α} {k:Nat} {x:α} (hk:k<l.length),p l[k]=false→p x=false→(l.set k x).find? p=l.find? p
 |y::l,0,x,_,h,hx=>by
  have h:p y=false:=h
  rw[List.set_cons_zero,List.find?_cons,List.find?_cons,h,hx]
 |y::l,k+1,x,hk,h,hx=>by
  rw[List.set_cons_succ,List.find?_cons,List.find?_cons,Py (l:=l) (k:=k) (Nat.lt_of_succ_lt_succ hk) h hx]
theorem U3:∀{l:List α} {k:Nat} {x:α},k<l.length→p x=true→(∀j (hj:j<l.length),j<k→p l[j]=false)→(l.set k x).find? p=some x
 |y::l,0,x,_,hx,_=>by rw[List.set_cons_zero,List.find?_cons,hx]
 |y::l,k+1,x,hk,hx,hb=>by
  have h0:p y=false:=hb 0 (by simp) (Nat.succ_pos k)
  rw[List.set_cons_succ,List.find?_cons,h0]
  exact U3 (l:=l) (Nat.lt_of_succ_lt_succ hk) hx fun j hj h=>hb (j+1) (by simpa using hj) (Nat.succ_lt_succ h)
theorem Po:∀{l:List α},(∀x,p x=true→q x=true)→(l.filter q).find? p=l.find? p
 |[],_=>rfl
 |x::l,h=>by
  cases hq:q x with
  |true=>rw[List.filter_cons_of_pos hq,List.find?_cons,List.find?_cons,Po (l:=l) h]
  |false=>
   have hp:p x=false:=by
    cases e:p x with
    |false=>rfl
    |true=>rw[h x e]at hq;cases hq
   rw[List.filter_cons_of_neg (by rw[hq];decide),List.find?_cons,hp,Po (l:=l) h]
theorem XfV{l:List α}{j:Nat}(hj:j<l.length)(h:(j:Int)<S1 p l):p l[j]=false:=by
 unfold S1 at h
 split at h
 ·exact Bool.eq_false_iff.2 (by simpa using List.not_of_lt_findIdx (p:=p) (xs:=l) (i:=j) (by omega))
 ·omega
end
theorem XgJ{l:List Ad}{n:ByteArray}:T4 l n=if Ao l n<0 then none else some (Cs l n):=by
 unfold T4
 rw[Vh]
 show Option.map _ (if Ao l n<0 then none else l[(Ao l n).toNat]?)=_
 by_cases h:Ao l n<0
 ·rw[if_pos h,if_pos h];rfl
 ·have hb:=(Gq (rfl:Ao l n=_)).2
  have hk:(Ao l n).toNat<l.length:=by omega
  rw[if_neg h,if_neg h,List.getElem?_eq_getElem hk]
  unfold Cs
  rw[if_neg h,←gD hk]
  rfl
theorem XkB{d:Aa}{i:Int}:Xdr d.nodes_ i=if E5 d i<0 then none else some (d.nodes_.getD (E5 d i).toNat ⟨0,tx [],0⟩).text_:=by
 unfold Xdr
 rw[Vh]
 show Option.map _ (if E5 d i<0 then none else d.nodes_[(E5 d i).toNat]?)=_
 by_cases h:E5 d i<0
 ·rw[if_pos h,if_pos h];rfl
 ·have hb:=(Sc (rfl:E5 d i=_)).2
  have hk:(E5 d i).toNat<d.nodes_.length:=by omega
  rw[if_neg h,if_neg h,List.getElem?_eq_getElem hk,←gD hk]
  rfl
theorem XbP{d:Aa}{b:Int}:D0 d b=(Qc d (A0 b)).getD (tx []):=by
 unfold D0 Gb Ge Cu Qc
 rw[XgJ]
 by_cases h:Ao d.entries_ (A0 b)<0
 ·rw[if_pos h,if_pos h,if_pos (by decide)];rfl
 ·rw[if_neg h,if_neg h]
  show _=Option.getD (Xdr d.nodes_ _) _
  rw[XkB]
  split<;>rfl
theorem Tz{l:List Ad}{n m:ByteArray}{i:Int}:T4 (Qp l n i) m=if m=n then some i else T4 l m:=by
 unfold Qp
 by_cases h:0≤Ao l n
 ·rw[if_pos h]
  have hk:=(Gq (rfl:Ao l n=_)).2
  have hk:(Ao l n).toNat<l.length:=by omega
  obtain⟨_,hq⟩:=Mn (p:=fun e=>B7 e n) (rfl:Ao l n=_) h
  unfold B7 at hq
  rw[decide_eq_true_eq]at hq
  rw[←gD hk,hq]
  unfold T4
  by_cases e:m=n
  ·subst e
   rw[if_pos rfl,U3 hk (by simp)]
   ·rfl
   ·intro j hj h1
    exact XfV (p:=fun e=>B7 e m) hj (by show(j:Int)<Ao l m;omega)
  ·rw[if_neg e,Py hk]
   ·rw[hq];exact decide_eq_false fun k=>e k.symm
   ·exact decide_eq_false fun k=>e k.symm
 ·rw[if_neg h]
  have hno:l.find? (fun e=>decide (e.name_=n))=none:=by
   rw[Vh]
   exact if_pos (by show Ao l n<0;omega)
  unfold H0 T4
  generalize(if Ce l n<0 then((l.length:Nat):Int)else Ce l n).toNat=k
  have ht:∀x∈l,¬x.name_=n:=by simpa using List.find?_eq_none.1 hno
  by_cases e:m=n
  ·subst e
   have h1:(l.take k).find? (fun e=>decide (e.name_=m))=none:=List.find?_eq_none.2 fun x hx=>by simpa using ht x (List.mem_of_mem_take hx)
   rw[if_pos rfl,List.append_assoc,List.find?_append,h1]
   simp
  ·rw[if_neg e]
   conv=>rhs;rw[←List.take_append_drop k l]
   rw[List.append_assoc,List.find?_append,List.find?_append,List.find?_append,List.find?_cons,decide_eq_false (fun k=>e k.symm)]
   rfl
theorem XjJ{l:List Ad}{a m:ByteArray}{j:Int}(h:0≤Ao l a)(hm:m≠a):T4 (Il l (Ao l a) j) m=T4 l m:=by
 obtain⟨hk,hq⟩:=Mn (p:=fun e=>B7 e a) (rfl:Ao l a=_) h
 unfold B7 at hq
 rw[decide_eq_true_eq]at hq
 unfold Il T4
 generalize aa:(Ao l a).toNat=k at*
 rw[List.eraseIdx_eq_take_drop_succ]
 have hl:l=l.take k++l[k]::l.drop (k+1):=by rw[←List.drop_eq_getElem_cons hk,List.take_append_drop]
 conv=>rhs;rw[hl]
 rw[List.find?_append,List.find?_append,List.find?_cons,hq,decide_eq_false fun k=>hm k.symm]
theorem Vp{nodes:List Bg}{q:Int→Bool}{i:Int}(h:q i=true):Xdr (nodes.filter fun x=>q x.id_) i=Xdr nodes i:=by
 unfold Xdr
 rw[Po]
 intro x hx
 rw[of_decide_eq_true hx]
 exact h
theorem XeK{l:List Ad}{n:ByteArray}{i:Int}(h:T4 l n=some i):Tq l i=true:=by
 unfold T4 at h
 obtain⟨e,h1,h2⟩:=Option.map_eq_some_iff.1 h
 unfold Tq
 exact List.any_eq_true.2 ⟨e,List.mem_of_find?_eq_some h1,decide_eq_true h2⟩
theorem Tk{s:ByteArray}{e:List Ad}:∀{l:List ByteArray} {now:List Ad},Tv now l→Kl now l=(e,true)→(Ah e s).2=true→(Kl now (l++[s])).1=(Ah e s).1
 |[],now,_,h,h2=>by
  have e1:now=e:=congrArg Prod.fst h
  subst e1
  rw[List.nil_append,Ft h2]
  rfl
 |x::l,now,h,h1,h2=>by
  rw[Ft h.2.1]at h1
  rw[List.cons_append,Ft h.2.1]
  exact Tk h.2.2 h1 h2
theorem XjB{d:Aa}{s:ByteArray}{e:List Ad}{i:Int}(h:Bk d=true)(hs:Ah d.entries_ s=(e,true))(hi:Tq e i=true):K3 d.old_ (d.steps_++[s]) i=true:=by
 refine(R9 (Sx (It h).1 (It h).2.1 (Lv h) (by rw[hs]))).2 ⟨(d.steps_++[s]).length,Nat.le_refl _,?_⟩
 rw[List.take_length,Tk (It h).1 (It h).2.1 (by rw[hs]),hs]
 exact hi
theorem Xhh{d:Aa}{nodes:List Bg}{s m:ByteArray}{e:List Ad}{r x:Int}(h:Bk d=true)(hs:Ah d.entries_ s=(e,true)):Qc (Kj ⟨nodes,d.entries_,d.old_,d.steps_,r,x⟩ s) m=(T4 e m).bind (Xdr nodes):=by
 unfold Kj Qc
 rw[hs]
 show(T4 e m).bind (Xdr (Ka nodes d.old_ (d.steps_++[s])))=_
 cases hi:T4 e m with
 |none=>rfl
 |some i=>exact Vp (XjB h hs (XeK hi))
theorem Xj5{d:Aa}{m:ByteArray}{i:Int}(h:Bk d=true)(hi:T4 d.entries_ m=some i):∃x∈d.nodes_,x.id_=i∧i<d.next_:=by
 unfold T4 at hi
 obtain⟨e,h1,h2⟩:=Option.map_eq_some_iff.1 hi
 obtain⟨k,hk,rfl⟩:=List.getElem_of_mem (List.mem_of_find?_eq_some h1)
 have h3:=Xdz (It h).2.2 hk
 unfold Fj at h3
 rw[Xca hk rfl,Bool.and_eq_true,Bool.and_eq_true,decide_eq_true_eq,h2]at h3
 obtain⟨hj,hq⟩:=Mn (p:=fun n=>D4 n i) (rfl:E5 d i=_) h3.2
 unfold D4 at hq
 rw[decide_eq_true_eq]at hq
 have h4:=(diskOk_iff.1 h).2.2.1
 unfold Ej at h4
 rw[Bool.and_eq_true]at h4
 have h5:=List.all_eq_true.1 h4.1 _ (List.mem_range.2 hj)
 unfold Ew at h5
 rw[decide_eq_true_eq,Xij hj rfl,hq]at h5
 exact⟨_,List.getElem_mem hj,hq,by omega⟩
def S2(d:Aa)(n:ByteArray):Prop:=∃i,T4 d.entries_ n=some i∧∀m,m≠n→T4 d.entries_ m≠some i
theorem Xie{d:Aa}{n:ByteArray}(h:(Bf d n).2=0):(∀m,m≠n→Qc (Bf d n).1 m=Qc d m)∧S2 (Bf d n).1 n:=by
 unfold Bf at h⊢
 by_cases h1:Bk d=false
 ·rw[if_pos h1]at h;exact absurd h (by dsimp only;decide)
 rw[if_neg h1]at h⊢
 by_cases h2:Bj n=false
 ·rw[if_pos h2]at h;exact absurd h (by dsimp only;decide)
 rw[if_neg h2]at h⊢
 by_cases h3:0≤Ao d.entries_ n
 ·rw[if_pos h3]at h;exact absurd h (by dsimp only;decide)
 rw[if_neg h3]at h⊢
 by_cases h4:16≤d.entries_.length∨64≤d.nodes_.length∨1000000000≤d.next_
 ·rw[if_pos h4]at h;exact absurd h (by dsimp only;decide)
 rw[if_neg h4]
 rw[Bool.not_eq_false]at h1 h2
 have hri:=Hu h1
 have hs:Ah d.entries_ (tx [43]++n++tx [58]++Ci d.next_)=(Qp d.entries_ n d.next_,true):=by rw[app3];exact XbZ h2 (by omega) (by omega)
 dsimp only
 refine⟨fun m hm=>?_,d.next_,?_,fun m hm=>?_⟩
 ·rw[Xhh h1 hs,Tz,if_neg hm]
  unfold Qc
  cases hi:T4 d.entries_ m with
  |none=>rfl
  |some i=>
   obtain⟨x,hx,h5,h6⟩:=Xj5 h1 hi
   show Xdr (d.nodes_++[_]) i=Xdr d.nodes_ i
   unfold Xdr
   rw[List.find?_append]
   cases hf:d.nodes_.find? (fun x=>decide (x.id_=i))with
   |none=>exact absurd (decide_eq_true h5) (by simpa using List.find?_eq_none.1 hf x hx)
   |some y=>rfl
 ·show T4 (Ah d.entries_ _).1 n=_
  rw[hs,Tz,if_pos rfl]
 ·show T4 (Ah d.entries_ _).1 m≠_
  rw[hs,Tz,if_neg hm]
  intro hi
  obtain⟨_,_,_,h6⟩:=Xj5 h1 hi
  omega
theorem Xh0{d:Aa}{n m:ByteArray}{x:Bg}(ha:S2 d n)(h0:0≤Cu d n)(hx:x.id_=(gN d (Cu d n)).id_)(hm:m≠n):Qc (Xkf d (Cu d n) x) m=Qc d m:=by
 obtain⟨i,h1,h2⟩:=ha
 have hp:¬Ao d.entries_ n<0:=by
  intro h
  have:=Rp h
  omega
 rw[XgJ,if_neg hp]at h1
 have h1:=Option.some.inj h1
 have hn:Cu d n=E5 d i:=by rw[←h1];exact(R5 (by omega)).symm
 obtain⟨hk,hq⟩:=Mn (p:=fun n=>D4 n i) (rfl:E5 d i=_) (by omega)
 unfold D4 at hq
 rw[decide_eq_true_eq]at hq
 unfold Xkf Qc
 dsimp only
 cases hj:T4 d.entries_ m with
 |none=>rfl
 |some j=>
  have hne:¬i=j:=fun e=>h2 m hm (by rw[hj,e])
  show Xdr (d.nodes_.set _ x) j=Xdr d.nodes_ j
  unfold Xdr
  rw[hn]at hx⊢
  have hx:x.id_=i:=by
   rw[hx]
   unfold gN
   rw[←gD hk]
   exact hq
  rw[Py hk]
  ·rw[hq];exact decide_eq_false hne
  ·rw[hx];exact decide_eq_false hne
theorem XgS{d:Aa}{n t:ByteArray}(ha:S2 d n):(∀m,m≠n→Qc (B6 d n t).1 m=Qc d m)∧S2 (B6 d n t).1 n:=by
 unfold B6
 by_cases h:Bk d=false∨Cu d n<0
 ·rw[if_pos h];exact⟨fun _ _=>rfl,ha⟩
 ·rw[if_neg h]
  exact⟨fun m hm=>Xh0 ha (Int.not_lt.1 fun k=>h (.inr k)) rfl hm,ha⟩
theorem Xkv{d:Aa}{n:ByteArray}(ha:S2 d n):(∀m,m≠n→Qc (Dk d n).1 m=Qc d m)∧S2 (Dk d n).1 n:=by
 unfold Dk
 by_cases h:Bk d=false∨Cu d n<0
 ·rw[if_pos h];exact⟨fun _ _=>rfl,ha⟩
 ·rw[if_neg h]
  exact⟨fun m hm=>Xh0 (x:=⟨_,_,_⟩) ha (Int.not_lt.1 fun k=>h (.inr k)) rfl hm,ha⟩
theorem XhS{d:Aa}{a b:ByteArray}(h:(Bs d a b).2=0):∀m,m≠a→m≠b→Qc (Bs d a b).1 m=Qc d m:=by
 unfold Bs at h⊢
 by_cases h1:Bk d=false∨Ao d.entries_ a<0
 ·rw[if_pos h1]at h;exact absurd h (by dsimp only;decide)
 rw[if_neg h1]at h⊢
 by_cases h2:Bj b=false∨a=b
 ·rw[if_pos h2]at h;exact absurd h (by dsimp only;decide)
 rw[if_neg h2]
 have hr:Bk d=true:=by
  cases e:Bk d with
  |true=>rfl
  |false=>exact absurd (.inl e) h1
 have hb:Bj b=true:=by
  cases e:Bj b with
  |true=>rfl
  |false=>exact absurd (.inl e) h2
 have hp:0≤Ao d.entries_ a:=Int.not_lt.1 fun k=>h1 (.inr k)
 have hs:=Xcj (l:=d.entries_) (XaB hr hp).1 hb (fun k=>h2 (.inr k)) hp
 rw[←app3]at hs
 intro m ha hm
 dsimp only
 exact(Xhh (nodes:=d.nodes_) (r:=d.room_) (x:=d.next_) hr hs).trans (by rw[Tz,if_neg hm,XjJ hp ha];rfl)
theorem Xjz{d:Aa}(m:ByteArray):Qc (Ds d) m=Qc d m:=by
 unfold Ds
 split
 ·rfl
 ·unfold Qc Ka
  dsimp only
  cases hi:T4 d.entries_ m with
  |none=>rfl
  |some i=>exact Vp (q:=K3 d.entries_ []) (XeK hi)
theorem XjO{d:Aa}{b:Int}{t m:ByteArray}(h:(Nj d (Cx b t)).2=0)(h1:m≠Co b)(h2:m≠A0 b):Qc (Nj d (Cx b t)).1 m=Qc d m:=by
 unfold Cx at h⊢
 have e1:∀d,C1 d ⟨2,Co b,tx [],tx []⟩=Bf d (Co b):=fun d=>by unfold C1;rw[if_neg (by dsimp only;decide),if_pos rfl]
 have e2:∀d,C1 d ⟨3,Co b,tx [],t⟩=B6 d (Co b) t:=fun d=>by unfold C1;rw[if_neg (by dsimp only;decide),if_neg (by dsimp only;decide),if_pos rfl]
 have e3:∀d,C1 d ⟨4,Co b,tx [],tx []⟩=Dk d (Co b):=fun d=>by unfold C1;rw[if_neg (by dsimp only;decide),if_neg (by dsimp only;decide),if_neg (by dsimp only;decide),if_pos rfl]
 have e4:∀d,C1 d ⟨5,Co b,A0 b,tx []⟩=Bs d (Co b) (A0 b):=fun d=>by unfold C1;rw[if_neg (by dsimp only;decide),if_neg (by dsimp only;decide),if_neg (by dsimp only;decide),if_neg (by dsimp only;decide),if_pos rfl]
 have e5:∀d,C1 d ⟨6,tx [],tx [],tx []⟩=(Ds d,0):=fun d=>by unfold C1;rw[if_neg (by dsimp only;decide),if_neg (by dsimp only;decide),if_neg (by dsimp only;decide),if_neg (by dsimp only;decide),if_neg (by dsimp only;decide),if_pos rfl]
 have go:∀{d:Aa} {x:TOp} {l:List TOp},(Nj d (x::l)).2=0→(C1 d x).2=0∧Nj d (x::l)=Nj (C1 d x).1 l:=by
  intro d x l h
  have e:Nj d (x::l)=if(C1 d x).2=0 then Nj (C1 d x).1 l else C1 d x:=rfl
  by_cases k:(C1 d x).2=0
  ·exact⟨k,by rw[e,if_pos k]⟩
  ·rw[e,if_neg k]at h;exact absurd h k
 obtain⟨k1,g1⟩:=go h
 rw[g1]at h⊢
 obtain⟨k2,g2⟩:=go h
 rw[g2]at h⊢
 obtain⟨k3,g3⟩:=go h
 rw[g3]at h⊢
 obtain⟨k4,g4⟩:=go h
 rw[g4]at h⊢
 obtain⟨k5,g5⟩:=go h
 rw[g5]
 show Qc (C1 _ _).1 m=_
 rw[e1]at k1 k4⊢
 rw[e2]at k4⊢
 rw[e3]at k4⊢
 rw[e4]at k4⊢
 rw[e5]
 obtain⟨a1,b1⟩:=Xie k1
 obtain⟨a2,b2⟩:=XgS (t:=t) b1
 obtain⟨a3,b3⟩:=Xkv b2
 show Qc (Ds _) m=_
 rw[Xjz,XhS k4 m h1 h2,a3 m h1,a2 m h1,a1 m h1]
theorem Xhm{a b:Int}(ha:0≤a∧a≤1000000000)(hb:0≤b∧b≤1000000000)(h:a≠b):A0 a≠Co b∧A0 a≠A0 b:=by
 constructor
 ·intro e
  have:=congrArg ByteArray.size e
  unfold Co at this
  rw[if_pos hb,ByteArray.size_append,XiS ha,XiS hb,B3]at this
  simp at this
 ·intro e
  have:=congrArg Wg e
  rw[XdS ha,XdS hb]at this
  exact h (Prod.mk.inj this).2
theorem Xmg{a b z:List (List D)}(h:a=b):a++z=b++z:=by rw[h]
def No:Aa→List F6→Aa×Int
 |d,[]=>(d,0)
 |d,x::l=>if(Ep d (Cx x.base_ (B2 x.text_ 2)) 5).2=0 then No (Ep d (Cx x.base_ (B2 x.text_ 2)) 5).1 l else Ep d (Cx x.base_ (B2 x.text_ 2)) 5
theorem XbW{d:Aa}{l:List F6}{k:Nat}{x:F6}(hk:k<l.length)(hx:x=l[k]):No d (l.drop k)=if(Ep d (Cx x.base_ (B2 x.text_ 2)) 5).2=0 then No (Ep d (Cx x.base_ (B2 x.text_ 2)) 5).1 (l.drop (k+1))else Ep d (Cx x.base_ (B2 x.text_ 2)) 5:=by
 rw[List.drop_eq_getElem_cons hk,←hx]
 rfl
def Dw(d:Aa)(many:Int):Aa×Int:=No d ((C0 (Ek d)).take (Dh many 0 (C0 (Ek d)).length).toNat)
theorem Pq{d:Aa}{b:Int}{t:ByteArray}(h:Jw d)(hl:d.steps_.length+5≤900000000):Jw (Ep d (Cx b (B2 t 2)) 5).1∧(Ep d (Cx b (B2 t 2)) 5).1.steps_.length≤d.steps_.length+5:=
 XeD (l:=(Cx b (B2 t 2)).take 5) h (by show _+5≤_;omega) (by rw[List.take_of_length_le (show(Cx b (B2 t 2)).length≤5 from Nat.le_refl 5)];exact Xdv b (Pt rfl))
theorem Ta{d:Aa}{l:List F6}(e:C0 (Ek d)=l):l.length≤16:=by
 rw[←e]
 exact Nat.le_trans (List.length_filter_le _ _) Oz
theorem Pg{Ae:List Bg}{Bv:List (List D)}{Al:List Ad}{Bq:List (List D)}{Ak:List Ad}{Bn:List (List D)}{Ag:List ByteArray}{Br:List (List D)}{At:Int}{Ap:Int}{many:Int}{Fd:List Bg}{Cc:List (List D)}{Fb:List Ad}{Cb:List (List D)}{Fc:List Ad}{Ca:List (List D)}{Fa:List ByteArray}{B9:List (List D)}{Gd:Int}{Gf:Int}{ob:Int}{noanod:Nat}{noaent:Nat}{noaold:Nat}{noaste:Nat}(An:Ae.map Bi=Bv)(Am:Al.map Ac=Bq)(Aq:Ak.map Ac=Bn)(As:Ag.map cS=Br)(bi:Jw (⟨Ae,Al,Ak,Ag,At,Ap⟩:Aa))(hs:Ag.length≤100000000)(hr:Dw (⟨Ae,Al,Ak,Ag,At,Ap⟩:Aa) many=(⟨Fd,Fb,Fc,Fa,Gd,Gf⟩,ob))(By:Fd.map Bi=Cc)(Bx:Fb.map Ac=Cb)(Bz:Fc.map Ac=Ca)(B0:Fa.map cS=B9)(hnoanod:noanod=Fd.length)(hnoaent:noaent=Fb.length)(hnoaold:noaold=Fc.length)(hnoaste:noaste=Fa.length):Fn Tryz.prog 50 [.agg [.d (.row 3 Bv),.d (.row 2 Bq),.d (.row 2 Bn),.d (.row 1 Br),I At,I Ap],I many] [] ⟨.tup [.agg [.ref 0 0 noanod,.ref 1 0 noaent,.ref 2 0 noaold,.ref 3 0 noaste,I Gd,I Gf],I ob],[.row 3 false Cc,.row 2 false Cb,.row 2 false Ca,.row 1 false B9],[]⟩:=by
 refine Fn.goR Xg4 Tryz.func50 fun P hP Q hQ=>?_
 conv=>cbv
 obtain⟨n2,cg⟩:∃m,m=Ae.length:=⟨_,rfl⟩
 obtain⟨ch,b5⟩:∃m,m=Al.length:=⟨_,rfl⟩
 obtain⟨ci,b6⟩:∃m,m=Ak.length:=⟨_,rfl⟩
 obtain⟨n3,cj⟩:∃m,m=Ag.length:=⟨_,rfl⟩
 have c2:Ae.length≤1000000000:=bi.1.1
 have c3:Al.length≤1000000000:=bi.1.2.2.1
 have c4:Ak.length≤1000000000:=bi.1.2.2.2.2.1
 refine .ddN hP (Fz An Am Aq As (by omega) (by omega) (by omega) (by omega) rfl An Am Aq As cg b5 b6 cj) rfl ?_
 conv=>cbv
 generalize bj:Ek (⟨Ae,Al,Ak,Ag,At,Ap⟩:Aa)=l4
 generalize b7:l4.map Xb7=c5
 obtain⟨nl4,hnl4⟩:∃m,m=l4.length:=⟨_,rfl⟩
 refine .ddN hP (XiT An Am Aq As bi.1 bj b7 hnl4) rfl ?_
 conv=>cbv
 have cv:=XfC bj
 generalize bt:C0 l4=l6
 generalize b8:l6.map Xb7=c6
 obtain⟨nl6,hnl6⟩:∃m,m=l6.length:=⟨_,rfl⟩
 refine .bx [15] [] hP (Fn.shr0 (Kq b7 (by first|rfl|omega|(simp;omega)) (by omega) bt (Xmg b8) hnl6)) rfl rfl rfl rfl ?_
 conv=>cbv
 refine .go fun v7 c7=>?_
 conv=>cbv
 generalize b4:Dh many 0 v7=r8
 refine .dd hP (Xbo b4) ?_
 conv=>cbv
 have hbr:0≤r8∧r8≤l6.length:=by rw[←b4];unfold Dh;split<;>(try split)<;>(try split)<;>omega
 have cw:=Ta (d:=(⟨Ae,Al,Ak,Ag,At,Ap⟩:Aa)) (l:=l6) (by rw[bj];exact bt)
 refine .hi fun on9 n9 hon9 c8=>?_
 conv=>cbv
 subst hon9
 refine .go fun c9 cx=>?_
 conv=>cbv
 refine LoopW.lp (κ:=Int×Int×Int×(List (List D))×Nat×(List (List D))×Nat×(List (List D))×Nat×(List (List D))×Nat) Xg4 hP [6,7,8,9] [4,6,23,24] (fun(ar,al,am,au,aw,ax,ay,az,a0,a1,a2)=>[(25,I ar)]) (fun(ar,al,am,au,aw,ax,ay,az,a0,a1,a2)=>[(14,.box 28 [.ref 16 0 aw,.ref 17 0 ay,.ref 18 0 a0,.ref 19 0 a2,I al,I am]),(16,.row 3 false au),(17,.row 2 false ax),(18,.row 2 false az),(19,.row 1 false a1)])
  (fun(ar,al,am,au,aw,ax,ay,az,a0,a1,a2)=>∃(bc:List Bg) (bd:List Ad) (be:List Ad) (a3:List ByteArray),bc.map Bi=au∧aw=bc.length∧bd.map Ac=ax∧ay=bd.length∧be.map Ac=az∧a0=be.length∧a3.map cS=a1∧a2=a3.length∧0≤ar∧ar≤(l6.take r8.toNat).length∧Jw (⟨bc,bd,be,a3,al,am⟩:Aa)∧a3.length≤Ag.length+5*ar∧Dw (⟨Ae,Al,Ak,Ag,At,Ap⟩:Aa) many=No (⟨bc,bd,be,a3,al,am⟩:Aa) ((l6.take r8.toNat).drop ar.toNat))
  (fun(ar,al,am,au,aw,ax,ay,az,a0,a1,a2)=>((l6.take r8.toNat).length - ar).toNat) (0,At,Ap,Bv,n2,Bq,ch,Bn,ci,Br,n3) ⟨Ae,Al,Ak,Ag,An,(by first|omega|(simp;omega)),Am,(by first|omega|(simp;omega)),Aq,(by first|omega|(simp;omega)),As,(by first|omega|(simp;omega)),by omega,by omega,bi,by omega,by unfold Dw;rw[bj,bt,show((l6.length:Nat):Int)=v7 by omega,b4];rfl⟩ ⟨rfl,trivial⟩ rfl ?_
 rintro⟨ar,al,am,au,aw,ax,ay,az,a0,a1,a2⟩ J ⟨bc,bd,be,a3,bk,ck,bl,cm,bm,cn,bn,co,h0,h1,hq,hqs,hio⟩ hJ
 have htl:(l6.take r8.toNat).length=r8.toNat:=by rw[List.length_take];omega
 conv=>cbv
 refine .lss (fun h11=>?_) fun h11=>?_
 conv=>cbv
 refine .go ar.toNat fun cp cy cq=>?_
 conv=>cbv
 refine .goX b8 fun cr ⟨aj,ak,⟨ai,⟨aa,ab,ac,ad⟩,ae,af,ag,ah⟩⟩ fe13 bv hfe13=>?_
 replace hfe13:[.sc (.int .i64 aj),.sc (.string ak),.sc (.bool ai),.sc (.int .i64 aa),.sc (.int .i64 ab),.sc (.int .i64 ac),.sc (.int .i64 ad),.row 1 (ae.map cS),.row 1 (af.map cI),.sc (.int .i64 ag),.sc (.bool ah)]=fe13:=hfe13
 generalize bw:ae.map cS=bz at hfe13
 generalize b0:af.map cI=b2 at hfe13
 subst hfe13
 conv=>cbv
 have b9:ar.toNat<(l6.take r8.toNat).length:=by rw[List.length_take];omega
 obtain rfl:cp=ar.toNat:=by omega
 have hx13:(⟨aj,ak,⟨ai,⟨aa,ab,ac,ad⟩,ae,af,ag,ah⟩⟩:F6)=(l6.take r8.toNat)[ar.toNat]:=by rw[List.getElem_take];exact bv
 have ca:(⟨aj,ak,⟨ai,⟨aa,ab,ac,ad⟩,ae,af,ag,ah⟩⟩:F6)∈l4:=by
  have h9:(⟨aj,ak,⟨ai,⟨aa,ab,ac,ad⟩,ae,af,ag,ah⟩⟩:F6)∈l6:=by rw[bv];exact List.getElem_mem _
  rw[←bt]at h9
  exact(List.mem_filter.1 h9).1
 obtain⟨cb,da,s9,db⟩:=Xk bj (x:=(⟨aj,ak,⟨ai,⟨aa,ab,ac,ad⟩,ae,af,ag,ah⟩⟩:F6)) ca
 simp only[]at cb
 have cz:=Ok bi.1 cb.symm
 generalize bo:B2 ak 2=ct
 have zr14:=Pt bo
 refine .dd hP (XfP (by omega) bo) ?_
 conv=>cbv
 generalize bh:Cx aj ct=bu
 generalize bp:bu.map eOp=c0
 refine .dd hP (Xf9 bh bp) ?_
 conv=>cbv
 refine .go bp fun cc cd=>?_
 conv=>cbv
 have hll:bu.length=5:=by rw[←bh];rfl
 have hox:∀x∈bu,okO x:=by rw[←bh];exact Xdv _ zr14
 rcases b3:Ep (⟨bc,bd,be,a3,al,am⟩:Aa) bu cc with⟨⟨a4,a5,a6,a7,bf,bg⟩,ce⟩
 generalize an:a4.map Bi=a8
 generalize ao:a5.map Ac=a9
 generalize ap:a6.map Ac=ba
 generalize aq:a7.map cS=bb
 obtain⟨nr17anod,hnr17anod⟩:∃m,m=a4.length:=⟨_,rfl⟩
 obtain⟨nr17aent,hnr17aent⟩:∃m,m=a5.length:=⟨_,rfl⟩
 obtain⟨nr17aold,hnr17aold⟩:∃m,m=a6.length:=⟨_,rfl⟩
 obtain⟨nr17aste,hnr17aste⟩:∃m,m=a7.length:=⟨_,rfl⟩
 have h5:cc=5:=by rw[cd,hll];rfl
 have bq:=b3
 rw[h5,←bh,←bo]at bq
 have hg:=Pq (d:=(⟨bc,bd,be,a3,al,am⟩:Aa)) (b:=aj) (t:=ak) hq (by show a3.length+5≤_;omega)
 have hstep:=XbW (d:=(⟨bc,bd,be,a3,al,am⟩:Aa)) (x:=(⟨aj,ak,⟨ai,⟨aa,ab,ac,ad⟩,ae,af,ag,ah⟩⟩:F6)) b9 hx13
 dsimp only at hstep
 rw[bq]at hg hstep
 have cu:=hg.2
 simp only[]at cu
 refine .lntN hP (Xgp bk bl bm bn bp hq (by omega) hox b3 an ao ap aq hnr17anod hnr17aent hnr17aold hnr17aste) (.agg (.ref rfl (Af bk) (.ref rfl (Af bl) (.ref rfl (Af bm) (.ref rfl (Af bn) (.d rfl (.d rfl .nil)))))) (.d rfl (.d rfl .nil))) rfl rfl rfl (by simp only[List.all_cons,List.all_nil,Bool.and_self,F4 (fun _=>rfl) an,F4 (fun _=>rfl) ao,F4 (fun _=>rfl) ap,F4 (fun _=>rfl) aq]) ?_
 conv=>cbv
 refine .neq (fun h18=>?_) fun h18=>?_
 conv=>cbv
 have e:((⟨a4,a5,a6,a7,bf,bg⟩:Aa),ce)=Dw (⟨Ae,Al,Ak,Ag,At,Ap⟩:Aa) many:=(by rw[hio,hstep];symm;exact if_neg (by omega))
 rw[hr]at e
 simp only[Prod.mk.injEq,Aa.mk.injEq]at e
 obtain⟨⟨rfl,rfl,rfl,rfl,rfl,rfl⟩,rfl⟩:=e
 obtain rfl:a8=Cc:=by rw[←an,←By]
 obtain rfl:nr17anod=noanod:=by first|omega|(rw[hnoanod];simp;done)|(rw[hnoanod];simp;omega)
 obtain rfl:a9=Cb:=by rw[←ao,←Bx]
 obtain rfl:nr17aent=noaent:=by first|omega|(rw[hnoaent];simp;done)|(rw[hnoaent];simp;omega)
 obtain rfl:ba=Ca:=by rw[←ap,←Bz]
 obtain rfl:nr17aold=noaold:=by first|omega|(rw[hnoaold];simp;done)|(rw[hnoaold];simp;omega)
 obtain rfl:bb=B9:=by rw[←aq,←B0]
 obtain rfl:nr17aste=noaste:=by first|omega|(rw[hnoaste];simp;done)|(rw[hnoaste];simp;omega)
 exact hQ _ _ (.o [23,24,25,26] rfl)
 conv=>cbv
 refine .add fun cf c1=>?_
 conv=>cbv
 exact .go [23,24,25,26] (cf,bf,bg,a8,nr17anod,a9,nr17aent,ba,nr17aold,bb,nr17aste) (hJ _ ⟨_,_,_,_,an,Lx,ao,Lx,ap,Lx,aq,Lx,by omega,by omega,hg.1,by omega,by rw[hio,hstep,show cf.toNat=ar.toNat+1 by omega];exact if_pos (by omega)⟩ mlt)
 conv=>cbv
 have e:((⟨bc,bd,be,a3,al,am⟩:Aa),0)=Dw (⟨Ae,Al,Ak,Ag,At,Ap⟩:Aa) many:=(by rw[hio,List.drop_of_length_le (by omega)];rfl)
 rw[hr]at e
 simp only[Prod.mk.injEq,Aa.mk.injEq]at e
 obtain⟨⟨rfl,rfl,rfl,rfl,rfl,rfl⟩,rfl⟩:=e
 obtain rfl:au=Cc:=by rw[←bk,←By]
 obtain rfl:aw=noanod:=by first|omega|(rw[hnoanod];simp;done)|(rw[hnoanod];simp;omega)
 obtain rfl:ax=Cb:=by rw[←bl,←Bx]
 obtain rfl:ay=noaent:=by first|omega|(rw[hnoaent];simp;done)|(rw[hnoaent];simp;omega)
 obtain rfl:az=Ca:=by rw[←bm,←Bz]
 obtain rfl:a0=noaold:=by first|omega|(rw[hnoaold];simp;done)|(rw[hnoaold];simp;omega)
 obtain rfl:a1=B9:=by rw[←bn,←B0]
 obtain rfl:a2=noaste:=by first|omega|(rw[hnoaste];simp;done)|(rw[hnoaste];simp;omega)
 exact hQ _ _ (.o [16,17,18,19] rfl)
end
section
open Go Go.Proofs
def XdY:List (Nat×TyRow):=[ty3,ty9,Xal,XiA,Xjy,XgX]
theorem Xdy:B8 Tryz.prog XdY:=B8.of (by kernel_rfl)
theorem XgZ:Setup Tryz.prog XdY:=⟨Xdy,mixed⟩
theorem links_inc{d:Aa}:∀{k:Nat} {b s:Int},(H7 d k b s).Pairwise (fun x y=>x.base_<y.base_)∧∀x∈H7 d k b s,b≤x.base_
 |0,_,_=>⟨.nil,fun _ h=>by cases h⟩
 |k+1,b,s=>by
  rw[H7]
  split
  ·rename_i h
   have hp:0<(Dr (D0 d b)).length:=List.length_pos_iff.2 h.2
   obtain⟨h1,h2⟩:=links_inc (d:=d) (k:=k) (b:=b+(Dr (D0 d b)).length) (s:=F0 s (Dr (D0 d b)))
   refine⟨List.pairwise_cons.2 ⟨fun y hy=>?_,h1⟩,fun x hx=>?_⟩
   ·have:=h2 y hy
    show b<y.base_
    omega
   ·rcases List.mem_cons.1 hx with rfl|hx
    ·exact Int.le_refl _
    ·have:=h2 x hx
     omega
  ·exact⟨.nil,fun _ h=>by cases h⟩
theorem Sr{d:Aa}{x:F6}(hx:x∈Ek d):x.text_=D0 d x.base_∧(0≤x.base_∧x.base_≤1000000000)∧x.scan_.head_.version_=(Ch x.text_).1.version_:=by
 obtain⟨h1,h2,s,h3⟩:=Xk rfl hx
 obtain⟨hh,g1,g2,g3,g4,g5⟩:=Rm h3
 refine⟨h1,⟨g4,g5⟩,?_⟩
 rw[h2,(Xb4 g1).1,h1,g1]
theorem Xiw{d:Aa}{l:List Int}{k:Nat}(h:Lu d=l)(hk:k<l.length):∃hk':k<(Ek d).length,l[k]=(Ek d)[k].base_:=by
 subst h
 exact⟨by simpa[Lu]using hk,by simp[Lu]⟩
theorem Xb6{d:Aa}{l:List Int}(h:Lu d=l):l.length=(Ek d).length:=by
 subst h
 simp[Lu]
def Tr(d:Aa)(l:List F6)(m:Int):Aa×Int:=No d ((l.filter fun x=>!Bt x).take m.toNat)
theorem Xcf{α:Type}{l:List α}{m:Int}:l.take (Dh m 0 l.length).toNat=l.take m.toNat:=by
 rw[List.take_eq_take_iff]
 unfold Dh
 split<;>(try split)<;>(try split)<;>omega
theorem Xga{d:Aa}{m:Int}:Dw d m=Tr d ((Ek d).drop 0) m:=by
 unfold Dw Tr
 rw[Xcf]
 rfl
theorem Xfo{d:Aa}{x:F6}{l:List F6}{m:Int}(h:Bt x=true):Tr d (x::l) m=Tr d l m:=by
 unfold Tr
 rw[List.filter_cons_of_neg (by rw[h];decide)]
theorem Xi6{d:Aa}{x:F6}{l:List F6}{m:Int}(h:Bt x=false)(hm:0<m):Tr d (x::l) m=if(Ep d (Cx x.base_ (B2 x.text_ 2)) 5).2=0 then Tr (Ep d (Cx x.base_ (B2 x.text_ 2)) 5).1 l (m - 1)else Ep d (Cx x.base_ (B2 x.text_ 2)) 5:=by
 unfold Tr
 rw[List.filter_cons_of_pos (by rw[h];rfl),show m.toNat=(m - 1).toNat+1 by omega,List.take_succ_cons]
 rfl
theorem Xf0{d:Aa}{l:List F6}{m:Int}(h:m≤0):Tr d l m=(d,0):=by
 unfold Tr
 rw[show m.toNat=0 by omega,List.take_zero]
 rfl
theorem run5{d:Aa}{b:Int}{t:ByteArray}:Ep d (Cx b t) 5=Nj d (Cx b t):=rfl
theorem XiO{d c e:Aa}{x:F6}{i:Nat}(hi:i<(Ek d).length)(hx:x=(Ek d)[i])(hr:Ep c (Cx x.base_ (B2 x.text_ 2)) 5=(e,0))(h:∀(j:Nat) (hj:j<(Ek d).length),i≤j→Qc c (A0 (Ek d)[j].base_)=Qc d (A0 (Ek d)[j].base_)):∀(j:Nat) (hj:j<(Ek d).length),i+1≤j→Qc e (A0 (Ek d)[j].base_)=Qc d (A0 (Ek d)[j].base_):=by
 intro j hj hij
 rw[run5]at hr
 have hlt:(Ek d)[i].base_<(Ek d)[j].base_:=List.pairwise_iff_getElem.1 links_inc.1 i j hi hj (by omega)
 have h1:=(Sr (List.getElem_mem hj)).2.1
 have h2:=(Sr (List.getElem_mem hi)).2.1
 rw[←hx]at hlt h2
 have hs:=Xhm h1 h2 (by omega)
 have hf:=XjO (d:=c) (b:=x.base_) (t:=B2 x.text_ 2) (m:=A0 (Ek d)[j].base_) (by rw[hr]) hs.1 hs.2
 rw[hr]at hf
 rw[show Qc e _=_ from hf]
 exact h j hj (by omega)
theorem Y3{Ae:List Bg}{Bv:List (List D)}{Al:List Ad}{Bq:List (List D)}{Ak:List Ad}{Bn:List (List D)}{Ag:List ByteArray}{Br:List (List D)}{At:Int}{Ap:Int}{many:Int}{Fd:List Bg}{Cc:List (List D)}{Fb:List Ad}{Cb:List (List D)}{Fc:List Ad}{Ca:List (List D)}{Fa:List ByteArray}{B9:List (List D)}{Gd:Int}{Gf:Int}{ob:Int}(An:Ae.map Bi=Bv)(Am:Al.map Ac=Bq)(Aq:Ak.map Ac=Bn)(As:Ag.map cS=Br)(a6:Jw (⟨Ae,Al,Ak,Ag,At,Ap⟩:Aa))(hs:Ag.length≤100000000)(hm:many≤9223372036854775807)(hr:Dw (⟨Ae,Al,Ak,Ag,At,Ap⟩:Aa) many=(⟨Fd,Fb,Fc,Fa,Gd,Gf⟩,ob))(By:Fd.map Bi=Cc)(Bx:Fb.map Ac=Cb)(Bz:Fc.map Ac=Ca)(B0:Fa.map cS=B9):Fn Tryz.prog 48 [.agg [.d (.row 3 Bv),.d (.row 2 Bq),.d (.row 2 Bn),.d (.row 1 Br),I At,I Ap],I many] [] ⟨.tup [.agg [.d (.row 3 Cc),.d (.row 2 Cb),.d (.row 2 Ca),.d (.row 1 B9),I Gd,I Gf],I ob],[],[]⟩:=by
 refine Fn.go XgZ Tryz.func48 fun P hP Q hQ=>?_
 conv=>cbv
 have b5:Ae.length≤1000000000:=a6.1.1
 have b6:Al.length≤1000000000:=a6.1.2.2.1
 have b7:Ak.length≤1000000000:=a6.1.2.2.2.2.1
 refine .dd hP (Xj An Am Aq As (by omega) (by omega) (by omega) (by omega)) ?_
 conv=>cbv
 generalize a9:Lu (⟨Ae,Al,Ak,Ag,At,Ap⟩:Aa)=l2
 generalize ba:l2.map cI=b8
 refine .dd hP (Xk8 An Am Aq As a6.1 a9 ba) ?_
 conv=>cbv
 refine LoopW.lp (κ:=Int×Int×(List (List D))×(List (List D))×(List (List D))×(List (List D))×Int×Int) XgZ hP [] [2,4,6] (fun(i1,i7,ah,ai,aj,ak,aa,ab)=>[(1,I i1),(7,I i7)]) (fun(i1,i7,ah,ai,aj,ak,aa,ab)=>[(0,.box 28 [.d (.row 3 ah),.d (.row 2 ai),.d (.row 2 aj),.d (.row 1 ak),I aa,I ab])])
  (fun(i1,i7,ah,ai,aj,ak,aa,ab)=>∃(al:List Bg) (am:List Ad) (an:List Ad) (ac:List ByteArray),al.map Bi=ah∧am.map Ac=ai∧an.map Ac=aj∧ac.map cS=ak∧0≤i7∧i7≤l2.length∧i1≤many∧Jw (⟨al,am,an,ac,aa,ab⟩:Aa)∧ac.length≤Ag.length+5*i7∧(∀(j:Nat) (hj:j<(Ek (⟨Ae,Al,Ak,Ag,At,Ap⟩:Aa)).length),i7.toNat≤j→Qc (⟨al,am,an,ac,aa,ab⟩:Aa) (A0 (Ek (⟨Ae,Al,Ak,Ag,At,Ap⟩:Aa))[j].base_)=Qc (⟨Ae,Al,Ak,Ag,At,Ap⟩:Aa) (A0 (Ek (⟨Ae,Al,Ak,Ag,At,Ap⟩:Aa))[j].base_))∧Dw (⟨Ae,Al,Ak,Ag,At,Ap⟩:Aa) many=Tr (⟨al,am,an,ac,aa,ab⟩:Aa) ((Ek (⟨Ae,Al,Ak,Ag,At,Ap⟩:Aa)).drop i7.toNat) i1)
  (fun(i1,i7,ah,ai,aj,ak,aa,ab)=>(l2.length - i7).toNat) (many,0,Bv,Bq,Bn,Br,At,Ap) ⟨Ae,Al,Ak,Ag,An,Am,Aq,As,by omega,by omega,Int.le_refl _,a6,by omega,fun _ _ _=>rfl,Xga⟩ ⟨rfl,rfl,trivial⟩ rfl ?_
 rintro⟨i1,i7,ah,ai,aj,ak,aa,ab⟩ J ⟨al,am,an,ac,ao,ap,aq,ar,h0,h1,hmm,hq,hqs,htx,hio⟩ hJ
 have hlen:=Xb6 a9
 have b2:=XfD a9
 conv=>cbv
 refine .go ba fun v3 b9=>?_
 conv=>cbv
 refine .lss (fun h4=>?_) fun h4=>?_
 conv=>cbv
 refine .gtr (fun h5=>?_) fun h5=>?_
 conv=>cbv
 refine .go i7.toNat ba fun bi e6 bj=>?_
 conv=>cbv
 obtain⟨hX,hXb⟩:=Xiw a9 bi
 rw[←bj]at hXb
 obtain⟨X,hXd⟩:∃X,X=(Ek (⟨Ae,Al,Ak,Ag,At,Ap⟩:Aa))[i7.toNat]:=⟨_,rfl⟩
 rw[←hXd]at hXb
 obtain⟨f1,f2,f4⟩:=Sr (d:=(⟨Ae,Al,Ak,Ag,At,Ap⟩:Aa)) (x:=X) (by rw[hXd];exact List.getElem_mem _)
 have hdrop:=List.drop_eq_getElem_cons hX
 rw[←hXd]at hdrop
 generalize bh:D0 (⟨al,am,an,ac,aa,ab⟩:Aa) e6=r7
 refine .dd hP (Xel ao ap aq ar hq.1 bh) ?_
 conv=>cbv
 have z7:=Ok hq.1 bh
 have h7X:r7=X.text_:=by rw[←bh,hXb,f1,XbP,XbP,hXd,htx _ hX (Nat.le_refl _)]
 rcases bk:Ch r7 with⟨⟨bb,bt,bu,bv⟩,ca⟩
 refine .dd hP (Sd (by omega) bk) ?_
 conv=>cbv
 have h8X:bb=X.scan_.head_.version_:=by rw[f4,←h7X,bk]
 refine .neq (fun h9=>?_) fun h9=>?_
 conv=>cbv
 refine .add fun bc be=>?_
 conv=>cbv
 exact .go [] (i1,bc,ah,ai,aj,ak,aa,ab) (hJ _ ⟨_,_,_,_,ao,ap,aq,ar,by omega,by omega,by omega,hq,by omega,fun j hj hij=>htx j hj (by omega),by rw[hio,hdrop,Xfo (by unfold Bt;rw[←h8X];simp[h9]),show bc.toNat=i7.toNat+1 by omega]⟩ mlt)
 conv=>cbv
 refine .sub fun bc be=>?_
 conv=>cbv
 refine .go i7.toNat ba fun bw bl bm=>?_
 conv=>cbv
 generalize a7:B2 r7 2=bz
 have zr12:=Pt a7
 refine .dd hP (XfR (by omega) a7) ?_
 conv=>cbv
 generalize a1:Cx bl bz=bd
 generalize a8:bd.map eOp=b3
 refine .dd hP (Xfk a1 a8) ?_
 conv=>cbv
 refine .go a8 fun bn bo=>?_
 conv=>cbv
 have bp:bl=X.base_:=by rw[bm,←bj];exact hXb
 have hll:bd.length=5:=by rw[←a1];rfl
 have hox:∀x∈bd,okO x:=by rw[←a1];exact Xdv _ zr12
 rcases bf:Ep (⟨al,am,an,ac,aa,ab⟩:Aa) bd bn with⟨⟨au,aw,ax,ay,az,a0⟩,bg⟩
 have h5:bn=5:=by rw[bo,hll];rfl
 have hrx:=bf
 rw[h5,←a1,←a7,bp,h7X]at hrx
 have hg:=Pq (d:=(⟨al,am,an,ac,aa,ab⟩:Aa)) (b:=X.base_) (t:=X.text_) hq (by show ac.length+5≤_;omega)
 have hstep:=Xi6 (d:=(⟨al,am,an,ac,aa,ab⟩:Aa)) (x:=X) (l:=(Ek (⟨Ae,Al,Ak,Ag,At,Ap⟩:Aa)).drop (i7.toNat+1)) (m:=i1) (by unfold Bt;rw[←h8X];simp[h9]) (by omega)
 rw[←hdrop,hrx]at hstep
 rw[hrx]at hg
 have b0:=hg.2
 simp only[]at b0 hstep
 generalize ad:au.map Bi=a2
 generalize ae:aw.map Ac=a3
 generalize af:ax.map Ac=a4
 generalize ag:ay.map cS=a5
 refine .dd hP (XiX ao ap aq ar a8 hq (by omega) hox bf ad ae af ag) ?_
 conv=>cbv
 refine .neq (fun h16=>?_) fun h16=>?_
 conv=>cbv
 have e:((⟨au,aw,ax,ay,az,a0⟩:Aa),bg)=Dw (⟨Ae,Al,Ak,Ag,At,Ap⟩:Aa) many:=(by rw[hio,hstep];symm;exact if_neg (by omega))
 rw[hr]at e
 simp only[Prod.mk.injEq,Aa.mk.injEq]at e
 obtain⟨⟨rfl,rfl,rfl,rfl,rfl,rfl⟩,rfl⟩:=e
 refine hQ _ _ ?_
 exact .m rfl (.agg (.d rfl (Dx ad By) (.d rfl (Dx ae Bx) (.d rfl (Dx af Bz) (.d rfl (Dx ag B0) .d2)))) .d1)
 conv=>cbv
 refine .add fun bq b4=>?_
 conv=>cbv
 exact .go [] (bc,bq,a2,a3,a4,a5,az,a0) (hJ _ ⟨_,_,_,_,ad,ae,af,ag,by omega,by omega,by omega,hg.1,by omega,fun j hj hij=>XiO hX hXd (hrx.trans (by rw[show bg=0 by omega])) htx j hj (by omega),by rw[hio,hstep,if_pos (by omega),show bq.toNat=i7.toNat+1 by omega,be]⟩ mlt)
 conv=>cbv
 have e:((⟨al,am,an,ac,aa,ab⟩:Aa),0)=Dw (⟨Ae,Al,Ak,Ag,At,Ap⟩:Aa) many:=(by rw[hio];exact(Xf0 (by omega)).symm)
 rw[hr]at e
 simp only[Prod.mk.injEq,Aa.mk.injEq]at e
 obtain⟨⟨rfl,rfl,rfl,rfl,rfl,rfl⟩,rfl⟩:=e
 refine hQ _ _ ?_
 exact .m rfl (.agg (.d rfl (Dx ao By) (.d rfl (Dx ap Bx) (.d rfl (Dx aq Bz) (.d rfl (Dx ar B0) .d2)))) .d1)
 conv=>cbv
 have e:((⟨al,am,an,ac,aa,ab⟩:Aa),0)=Dw (⟨Ae,Al,Ak,Ag,At,Ap⟩:Aa) many:=(by rw[hio,List.drop_of_length_le (by omega)];unfold Tr;rw[List.filter_nil,List.take_nil];rfl)
 rw[hr]at e
 simp only[Prod.mk.injEq,Aa.mk.injEq]at e
 obtain⟨⟨rfl,rfl,rfl,rfl,rfl,rfl⟩,rfl⟩:=e
 refine hQ _ _ ?_
 exact .m rfl (.agg (.d rfl (Dx ao By) (.d rfl (Dx ap Bx) (.d rfl (Dx aq Bz) (.d rfl (Dx ar B0) .d2)))) .d1)
end
end Go.Proofs.YtjbmpmmffjgedaaGreatDoor.Ab
