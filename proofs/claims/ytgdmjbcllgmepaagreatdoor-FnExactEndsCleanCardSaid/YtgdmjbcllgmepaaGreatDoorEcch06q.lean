/- What functions of the program come to, for all arguments in the given bounds. -/
import Derived.Test.YtgdmjbcllgmepaaGreatDoorEcch06e
import Derived.Test.YtgdmjbcllgmepaaGreatDoorEcZ9
set_option linter.unusedVariables false
set_option linter.unusedSimpArgs false
namespace Go.Proofs.YtgdmjbcllgmepaaGreatDoor.Ab
section
open Go Go.Proofs
set_option maxRecDepth 20000
set_option maxHeartbeats 4000000
def Xb1:List (Nat×TyRow):=[ty3,ty9,X1,Xg9,XaK,W8,XaB]
theorem Xcf:Cb Tryz.prog Xb1:=Cb.of (by kernel_rfl)
theorem Zu:Setup Tryz.prog Xb1:=⟨Xcf,mixed⟩
theorem Xef{α:Type}{f:α→Int}(h:∀x,0≤f x):∀{l:List α} {a:Int},a≤(l.map f).foldl (·+·) a
 |[],a=>by simp
 |x::l,a=>by
  rw[List.map_cons,List.foldl_cons]
  have:=Xef h (l:=l) (a:=a+f x)
  have:=h x
  omega
theorem Xgw(d:Aa):0≤F3 d:=Xef (f:=fun n:Be=>(n.text_.size:Int)) (fun x=>by omega)
theorem I4{d:Aa}(h:Bw d=true):0≤d.room_∧d.room_≤1000000000∧1≤d.next_∧d.next_≤1000000000∧0≤F3 d∧F3 d≤d.room_:=by
 have h1:=diskOk_iff.1 h
 exact⟨h1.1.1,h1.1.2,h1.2.1.1,h1.2.1.2,Xgw d,h1.2.2.2.1⟩
def gN(d:Aa)(i:Int):Be:=d.nodes_.getD i.toNat ⟨0,tx [],0⟩
def Xl0(d:Aa)(i:Int)(x:Be):Aa:=⟨d.nodes_.set i.toNat x,d.entries_,d.old_,d.steps_,d.room_,d.next_⟩
def Ce(d:Aa)(name text:ByteArray):Aa×Int:=if Bw d=false∨De d name<0 then(d,3)else
 (Xl0 d (De d name) ⟨(gN d (De d name)).id_,(gN d (De d name)).text_++text.extract 0 (min (text.size:Int) (d.room_ - F3 d)).toNat,(gN d (De d name)).sure_⟩,if d.room_ - F3 d<text.size then 5 else 0)
def Ay(d:Aa)(name:ByteArray):Aa×Int:=if Bw d=false then(d,3)else if Bl name=false then(d,1)else if 0≤Au d.entries_ name then(d,2)else if 16≤d.entries_.length∨64≤d.nodes_.length∨1000000000≤d.next_ then(d,4)else
 (Mr ⟨d.nodes_++[⟨d.next_,tx [],0⟩],d.entries_,d.old_,d.steps_,d.room_,d.next_+1⟩ (tx [43]++name++tx [58]++Co d.next_),0)
def D2(d:Aa):Aa:=if Bw d=false then d else⟨Nr d.nodes_ d.entries_ [],d.entries_,d.entries_,[],d.room_,d.next_⟩
variable {Ae Gz:List Be} {A3 A2 A1 A4 Eb Ed Ec Ee:List (List D)} {Ag Ah Gv Gx:List Ad} {Af Gy:List ByteArray} {Aj Ai Gt Gu ob:Int} {name:ByteArray}
theorem Xbp{text:ByteArray}(Ak:Ae.map A8=A3)(Al:Ag.map Ac=A2)(Ao:Ah.map Ac=A1)(An:Af.map cS=A4)(hn:Ae.length≤1000000000)(he:Ag.length≤1000000000)(ho:Ah.length≤1000000000)(hs:Af.length<1000000000)(hss:okS Af)(ah:La (⟨Ae,Ag,Ah,Af,Aj,Ai⟩:Aa))(ht:text.size≤1000000000)(hr:Ce (⟨Ae,Ag,Ah,Af,Aj,Ai⟩:Aa) name text=(⟨Gz,Gv,Gx,Gy,Gt,Gu⟩,ob))(B4:Gz.map A8=Eb)(B8:Gv.map Ac=Ed)(B5:Gx.map Ac=Ec)(B6:Gy.map cS=Ee):Fn Tryz.prog 233 [.agg [.d (.row 3 A3),.d (.row 2 A2),.d (.row 2 A1),.d (.row 1 A4),I Aj,I Ai],S name,S text] [] ⟨.tup [.agg [.d (.row 3 Eb),.d (.row 2 Ed),.d (.row 2 Ec),.d (.row 1 Ee),I Gt,I Gu],I ob],[],[]⟩:=by
 refine Fn.go Zu Tryz.func233 fun P hP Q hQ=>?_
 conv=>cbv
 obtain⟨n2,au⟩:∃m,m=Ae.length:=⟨_,rfl⟩
 obtain⟨n3,aw⟩:∃m,m=Af.length:=⟨_,rfl⟩
 refine .ddN hP (Iz Ak Al Ao An (by omega) (by omega) (by omega) (by omega) au aw) rfl ?_
 conv=>cbv
 generalize ac:De (⟨Ae,Ag,Ah,Af,Aj,Ai⟩:Aa) name=r4
 refine .dd hP (Mv Ak Al Ao An ah.1 ac) ?_
 conv=>cbv
 have hb:=Ic ac
 simp only[]at hb
 generalize ae:Bw (⟨Ae,Ag,Ah,Af,Aj,Ai⟩:Aa)=r5
 refine .dd hP (O7 Ak Al Ao An ah ae) ?_
 cases r5
 conv=>cbv
 have e:((⟨Ae,Ag,Ah,Af,Aj,Ai⟩:Aa),3)=Ce (⟨Ae,Ag,Ah,Af,Aj,Ai⟩:Aa) name text:=(by unfold Ce;rw[if_pos (.inl ae)])
 rw[hr]at e
 simp only[Prod.mk.injEq,Aa.mk.injEq]at e
 obtain⟨⟨rfl,rfl,rfl,rfl,rfl,rfl⟩,rfl⟩:=e
 refine hQ _ _ ?_
 exact .many (.inl rfl) rfl rfl (.agg (.ref rfl (Am Ak) (Bn Ak B4) (.d rfl (Bf Al B8) (.d rfl (Bf Ao B5) (.ref rfl (Am An) (Bn An B6) (.d rfl rfl (.d rfl rfl (.nil))))))) (.d rfl rfl (.nil)))
 conv=>cbv
 refine .lss (fun h6=>?_) fun h6=>?_
 conv=>cbv
 have e:((⟨Ae,Ag,Ah,Af,Aj,Ai⟩:Aa),3)=Ce (⟨Ae,Ag,Ah,Af,Aj,Ai⟩:Aa) name text:=(by unfold Ce;rw[if_pos (.inr (by rw[ac];exact h6))])
 rw[hr]at e
 simp only[Prod.mk.injEq,Aa.mk.injEq]at e
 obtain⟨⟨rfl,rfl,rfl,rfl,rfl,rfl⟩,rfl⟩:=e
 refine hQ _ _ ?_
 exact .many (.inl rfl) rfl rfl (.agg (.ref rfl (Am Ak) (Bn Ak B4) (.d rfl (Bf Al B8) (.d rfl (Bf Ao B5) (.ref rfl (Am An) (Bn An B6) (.d rfl rfl (.d rfl rfl (.nil))))))) (.d rfl rfl (.nil)))
 conv=>cbv
 refine .go fun v7 ap=>?_
 conv=>cbv
 generalize ai:F3 (⟨Ae,Ag,Ah,Af,Aj,Ai⟩:Aa)=r8
 refine .dd hP (Xfr Ak Al Ao An ah.1 ai) ?_
 conv=>cbv
 have hri:=I4 ae
 simp only[ai]at hri
 refine .sub fun v9 aq=>?_
 conv=>cbv
 refine .go fun bb ak=>?_
 conv=>cbv
 refine .go r4.toNat fun aj a2 ax=>?_
 conv=>cbv
 refine .go Ak fun an ⟨ay,ab,ar⟩ af=>?_
 conv=>cbv
 refine .hi fun az ag=>?_
 conv=>cbv
 have a6:ab.size≤1000000000:=by have h9:=ah.1.2.1 _ (List.getElem_mem an);rw[←af]at h9;exact h9
 have a7:az.size≤text.size:=by rw[ag,ByteArray.size_extract];omega
 refine .go fun ao al a8=>?_
 conv=>cbv
 refine .go r4.toNat fun aa am a1=>?_
 conv=>cbv
 refine .go (⟨(Ae.getD aa ⟨0,tx [],0⟩).id_,ao,(Ae.getD aa ⟨0,tx [],0⟩).sure_⟩:Be) Ak (by omega) (by rw[←gD (show aa<Ae.length by omega)];rfl) (show 1+1≤3 by decide) fun bc ad=>?_
 conv=>cbv
 refine .go fun bd ba=>?_
 conv=>cbv
 refine .lss (fun h18=>?_) fun h18=>?_
 conv=>cbv
 have e:((⟨Ae.set aa (⟨(Ae.getD aa ⟨0,tx [],0⟩).id_,ao,(Ae.getD aa ⟨0,tx [],0⟩).sure_⟩:Be),Ag,Ah,Af,Aj,Ai⟩:Aa),5)=Ce (⟨Ae,Ag,Ah,Af,Aj,Ai⟩:Aa) name text:=(by unfold Ce;rw[if_neg (by rintro(h|h);rw[ae]at h;cases h;rw[ac]at h;omega),ac,ai];dsimp only;rw[if_pos (by omega)];unfold Xl0 gN;dsimp only;have e9:ab=(Ae.getD aa ⟨0,tx [],0⟩).text_:=(by have h9:aj=aa:=(by omega);subst h9;rw[←gD (show aj<Ae.length by omega),←af]);rw[←am,al,e9,ag,ak,ap,aq])
 rw[hr]at e
 simp only[Prod.mk.injEq,Aa.mk.injEq]at e
 obtain⟨⟨rfl,rfl,rfl,rfl,rfl,rfl⟩,rfl⟩:=e
 refine hQ _ _ ?_
 exact .many (.inl rfl) rfl rfl (.agg (.ref rfl (Am ad) (Bn ad B4) (.d rfl (Bf Al B8) (.d rfl (Bf Ao B5) (.ref rfl (Am An) (Bn An B6) (.d rfl rfl (.d rfl rfl (.nil))))))) (.d rfl rfl (.nil)))
 conv=>cbv
 have e:((⟨Ae.set aa (⟨(Ae.getD aa ⟨0,tx [],0⟩).id_,ao,(Ae.getD aa ⟨0,tx [],0⟩).sure_⟩:Be),Ag,Ah,Af,Aj,Ai⟩:Aa),0)=Ce (⟨Ae,Ag,Ah,Af,Aj,Ai⟩:Aa) name text:=(by unfold Ce;rw[if_neg (by rintro(h|h);rw[ae]at h;cases h;rw[ac]at h;omega),ac,ai];dsimp only;rw[if_neg (by omega)];unfold Xl0 gN;dsimp only;have e9:ab=(Ae.getD aa ⟨0,tx [],0⟩).text_:=(by have h9:aj=aa:=(by omega);subst h9;rw[←gD (show aj<Ae.length by omega),←af]);rw[←am,al,e9,ag,ak,ap,aq])
 rw[hr]at e
 simp only[Prod.mk.injEq,Aa.mk.injEq]at e
 obtain⟨⟨rfl,rfl,rfl,rfl,rfl,rfl⟩,rfl⟩:=e
 refine hQ _ _ ?_
 exact .many (.inl rfl) rfl rfl (.agg (.ref rfl (Am ad) (Bn ad B4) (.d rfl (Bf Al B8) (.d rfl (Bf Ao B5) (.ref rfl (Am An) (Bn An B6) (.d rfl rfl (.d rfl rfl (.nil))))))) (.d rfl rfl (.nil)))
theorem Xbo(Ak:Ae.map A8=A3)(Al:Ag.map Ac=A2)(Ao:Ah.map Ac=A1)(An:Af.map cS=A4)(hn:Ae.length≤1000000000)(he:Ag.length≤1000000000)(ho:Ah.length≤1000000000)(hs:Af.length<1000000000)(hss:okS Af)(aw:La (⟨Ae,Ag,Ah,Af,Aj,Ai⟩:Aa))(hm:name.size≤1000000000)(hr:Ay (⟨Ae,Ag,Ah,Af,Aj,Ai⟩:Aa) name=(⟨Gz,Gv,Gx,Gy,Gt,Gu⟩,ob))(B4:Gz.map A8=Eb)(B8:Gv.map Ac=Ed)(B5:Gx.map Ac=Ec)(B6:Gy.map cS=Ee):Fn Tryz.prog 237 [.agg [.d (.row 3 A3),.d (.row 2 A2),.d (.row 2 A1),.d (.row 1 A4),I Aj,I Ai],S name] [] ⟨.tup [.agg [.d (.row 3 Eb),.d (.row 2 Ed),.d (.row 2 Ec),.d (.row 1 Ee),I Gt,I Gu],I ob],[],[]⟩:=by
 refine Fn.go Zu Tryz.func237 fun P hP Q hQ=>?_
 conv=>cbv
 obtain⟨n2,ax⟩:∃m,m=Ae.length:=⟨_,rfl⟩
 obtain⟨n3,ay⟩:∃m,m=Af.length:=⟨_,rfl⟩
 refine .ddN hP (Iz Ak Al Ao An (by omega) (by omega) (by omega) (by omega) ax ay) rfl ?_
 conv=>cbv
 generalize aa:Bw (⟨Ae,Ag,Ah,Af,Aj,Ai⟩:Aa)=r4
 refine .dd hP (O7 Ak Al Ao An aw aa) ?_
 cases r4
 conv=>cbv
 have e:((⟨Ae,Ag,Ah,Af,Aj,Ai⟩:Aa),3)=Ay (⟨Ae,Ag,Ah,Af,Aj,Ai⟩:Aa) name:=(by unfold Ay;rw[if_pos aa])
 rw[hr]at e
 simp only[Prod.mk.injEq,Aa.mk.injEq]at e
 obtain⟨⟨rfl,rfl,rfl,rfl,rfl,rfl⟩,rfl⟩:=e
 refine hQ _ _ ?_
 exact .many (.inl rfl) rfl rfl (.agg (.ref rfl (Am Ak) (Bn Ak B4) (.d rfl (Bf Al B8) (.d rfl (Bf Ao B5) (.ref rfl (Am An) (Bn An B6) (.d rfl rfl (.d rfl rfl (.nil))))))) (.d rfl rfl (.nil)))
 conv=>cbv
 generalize ab:Bl name=r5
 refine .dd hP (Nd (by omega) ab) ?_
 cases r5
 conv=>cbv
 have e:((⟨Ae,Ag,Ah,Af,Aj,Ai⟩:Aa),1)=Ay (⟨Ae,Ag,Ah,Af,Aj,Ai⟩:Aa) name:=(by unfold Ay;rw[if_neg (by rw[aa];decide),if_pos ab])
 rw[hr]at e
 simp only[Prod.mk.injEq,Aa.mk.injEq]at e
 obtain⟨⟨rfl,rfl,rfl,rfl,rfl,rfl⟩,rfl⟩:=e
 refine hQ _ _ ?_
 exact .many (.inl rfl) rfl rfl (.agg (.ref rfl (Am Ak) (Bn Ak B4) (.d rfl (Bf Al B8) (.d rfl (Bf Ao B5) (.ref rfl (Am An) (Bn An B6) (.d rfl rfl (.d rfl rfl (.nil))))))) (.d rfl rfl (.nil)))
 conv=>cbv
 generalize ad:Au Ag name=r6
 refine .dd hP (K5 Al (by omega) ad) ?_
 conv=>cbv
 refine .geq (fun h7=>?_) fun h7=>?_
 conv=>cbv
 have e:((⟨Ae,Ag,Ah,Af,Aj,Ai⟩:Aa),2)=Ay (⟨Ae,Ag,Ah,Af,Aj,Ai⟩:Aa) name:=(by unfold Ay;rw[if_neg (by rw[aa];decide),if_neg (by rw[ab];decide),if_pos (by rw[ad];omega)])
 rw[hr]at e
 simp only[Prod.mk.injEq,Aa.mk.injEq]at e
 obtain⟨⟨rfl,rfl,rfl,rfl,rfl,rfl⟩,rfl⟩:=e
 refine hQ _ _ ?_
 exact .many (.inl rfl) rfl rfl (.agg (.ref rfl (Am Ak) (Bn Ak B4) (.d rfl (Bf Al B8) (.d rfl (Bf Ao B5) (.ref rfl (Am An) (Bn An B6) (.d rfl rfl (.d rfl rfl (.nil))))))) (.d rfl rfl (.nil)))
 conv=>cbv
 refine .go Al fun v8 bf=>?_
 conv=>cbv
 refine .geq (fun h9=>?_) fun h9=>?_
 conv=>cbv
 have e:((⟨Ae,Ag,Ah,Af,Aj,Ai⟩:Aa),4)=Ay (⟨Ae,Ag,Ah,Af,Aj,Ai⟩:Aa) name:=(by unfold Ay;rw[if_neg (by rw[aa];decide),if_neg (by rw[ab];decide),if_neg (by rw[ad];omega),if_pos (by dsimp only;omega)])
 rw[hr]at e
 simp only[Prod.mk.injEq,Aa.mk.injEq]at e
 obtain⟨⟨rfl,rfl,rfl,rfl,rfl,rfl⟩,rfl⟩:=e
 refine hQ _ _ ?_
 exact .many (.inl rfl) rfl rfl (.agg (.ref rfl (Am Ak) (Bn Ak B4) (.d rfl (Bf Al B8) (.d rfl (Bf Ao B5) (.ref rfl (Am An) (Bn An B6) (.d rfl rfl (.d rfl rfl (.nil))))))) (.d rfl rfl (.nil)))
 conv=>cbv
 refine .go Ak fun bg a2=>?_
 conv=>cbv
 refine .geq (fun h11=>?_) fun h11=>?_
 conv=>cbv
 have e:((⟨Ae,Ag,Ah,Af,Aj,Ai⟩:Aa),4)=Ay (⟨Ae,Ag,Ah,Af,Aj,Ai⟩:Aa) name:=(by unfold Ay;rw[if_neg (by rw[aa];decide),if_neg (by rw[ab];decide),if_neg (by rw[ad];omega),if_pos (by dsimp only;omega)])
 rw[hr]at e
 simp only[Prod.mk.injEq,Aa.mk.injEq]at e
 obtain⟨⟨rfl,rfl,rfl,rfl,rfl,rfl⟩,rfl⟩:=e
 refine hQ _ _ ?_
 exact .many (.inl rfl) rfl rfl (.agg (.ref rfl (Am Ak) (Bn Ak B4) (.d rfl (Bf Al B8) (.d rfl (Bf Ao B5) (.ref rfl (Am An) (Bn An B6) (.d rfl rfl (.d rfl rfl (.nil))))))) (.d rfl rfl (.nil)))
 conv=>cbv
 refine .geq (fun h12=>?_) fun h12=>?_
 conv=>cbv
 have e:((⟨Ae,Ag,Ah,Af,Aj,Ai⟩:Aa),4)=Ay (⟨Ae,Ag,Ah,Af,Aj,Ai⟩:Aa) name:=(by unfold Ay;rw[if_neg (by rw[aa];decide),if_neg (by rw[ab];decide),if_neg (by rw[ad];omega),if_pos (by dsimp only;omega)])
 rw[hr]at e
 simp only[Prod.mk.injEq,Aa.mk.injEq]at e
 obtain⟨⟨rfl,rfl,rfl,rfl,rfl,rfl⟩,rfl⟩:=e
 refine hQ _ _ ?_
 exact .many (.inl rfl) rfl rfl (.agg (.ref rfl (Am Ak) (Bn Ak B4) (.d rfl (Bf Al B8) (.d rfl (Bf Ao B5) (.ref rfl (Am An) (Bn An B6) (.d rfl rfl (.d rfl rfl (.nil))))))) (.d rfl rfl (.nil)))
 conv=>cbv
 refine .one (⟨Ai,tx [],0⟩:Be) Ak rfl fun a6 bh az ao=>?_
 conv=>cbv
 have hri:=I4 aa
 simp only[]at hri
 have hnz:=Va ab
 refine .add fun a1 ap=>?_
 conv=>cbv
 refine .litL 1 fun bi aq a7=>?_
 conv=>cbv
 refine .litR 1 fun bj ar a8=>?_
 conv=>cbv
 generalize af:Co Ai=bk
 refine .dd hP (XcZ (by unfold Zf;omega) af) ?_
 conv=>cbv
 have zr17:=Sz af (by unfold Zf;omega)
 refine .go fun ae au ba=>?_
 conv=>cbv
 generalize ag:(At Ag ae).1=al
 generalize ah:al.map Ac=bb
 generalize am:Nr (Ae++[(⟨Ai,tx [],0⟩:Be)]) Ah (Af++[ae])=ak
 obtain⟨bc,ai⟩:∃m,m=ak.length:=⟨_,rfl⟩
 generalize ac:(ak++List.replicate ((Ae++[(⟨Ai,tx [],0⟩:Be)]).length - ak.length) (⟨0,tx [],0⟩:Be)).map A8=bd
 generalize aj:(Af++[ae]).map cS=bl
 obtain⟨be,an⟩:∃m,m=(Af++[ae]).length:=⟨_,rfl⟩
 refine .bx [12,14,7] [14,7] hP (Qn ao Al Ao An (by first|assumption|omega|(simp;omega)) (by first|assumption|omega|(simp;omega)) (by rw[List.length_append,List.length_singleton];omega) (by omega) (by omega) (by omega) (by omega) hss ((congrArg (List.map Ac) ag).trans ah) am ai ac aj an) rfl rfl rfl rfl ?_
 conv=>cbv
 have e:((⟨ak,al,Ah,Af++[ae],Aj,a1⟩:Aa),0)=Ay (⟨Ae,Ag,Ah,Af,Aj,Ai⟩:Aa) name:=(by unfold Ay;rw[if_neg (by rw[aa];decide),if_neg (by rw[ab];decide),if_neg (by rw[ad];omega),if_neg (by dsimp only;omega)];unfold Mr;dsimp only;rw[show tx [43]++name++tx [58]++Co Ai=ae from(by rw[au,ar,aq,af];rfl),am,ag,ap])
 rw[hr]at e
 simp only[Prod.mk.injEq,Aa.mk.injEq]at e
 obtain⟨⟨rfl,rfl,rfl,rfl,rfl,rfl⟩,rfl⟩:=e
 refine hQ _ _ ?_
 exact .many (.inl rfl) rfl rfl (.agg (.sub rfl (by rw[←ac,List.length_map,List.length_append];omega) (by rw[←ac,←B4,ai,List.drop_zero,List.map_append,List.take_left' (by rw[List.length_map])]) (.d rfl (Bf ah B8) (.d rfl (Bf Ao B5) (.ref rfl (Am aj) (Bn aj B6) (.d rfl rfl (.d rfl rfl (.nil))))))) (.d rfl rfl (.nil)))
theorem Xeq{onod:List Be}{Xez:List (List D)}{oent:List Ad}{Xd8:List (List D)}{oold:List Ad}{XdO:List (List D)}{oste:List ByteArray}{XdM:List (List D)}{oroo:Int}{onex:Int}(Ak:Ae.map A8=A3)(Al:Ag.map Ac=A2)(Ao:Ah.map Ac=A1)(An:Af.map cS=A4)(hn:Ae.length≤1000000000)(he:Ag.length≤1000000000)(ho:Ah.length≤1000000000)(hs:Af.length<1000000000)(hss:okS Af)(ag:La (⟨Ae,Ag,Ah,Af,Aj,Ai⟩:Aa))(hr:D2 (⟨Ae,Ag,Ah,Af,Aj,Ai⟩:Aa)=⟨onod,oent,oold,oste,oroo,onex⟩)(Xd7:onod.map A8=Xez)(Xd1:oent.map Ac=Xd8)(XdY:oold.map Ac=XdO)(Xdr:oste.map cS=XdM):Fn Tryz.prog 239 [.agg [.d (.row 3 A3),.d (.row 2 A2),.d (.row 2 A1),.d (.row 1 A4),I Aj,I Ai]] [] ⟨.agg [.d (.row 3 Xez),.d (.row 2 Xd8),.d (.row 2 XdO),.d (.row 1 XdM),I oroo,I onex],[],[]⟩:=by
 refine Fn.go Zu Tryz.func239 fun P hP Q hQ=>?_
 conv=>cbv
 obtain⟨n2,ah⟩:∃m,m=Ae.length:=⟨_,rfl⟩
 obtain⟨n3,ai⟩:∃m,m=Af.length:=⟨_,rfl⟩
 refine .ddN hP (Iz Ak Al Ao An (by omega) (by omega) (by omega) (by omega) ah ai) rfl ?_
 conv=>cbv
 generalize ac:Bw (⟨Ae,Ag,Ah,Af,Aj,Ai⟩:Aa)=r4
 refine .dd hP (O7 Ak Al Ao An ag ac) ?_
 cases r4
 conv=>cbv
 have e:(⟨Ae,Ag,Ah,Af,Aj,Ai⟩:Aa)=D2 (⟨Ae,Ag,Ah,Af,Aj,Ai⟩:Aa):=(by unfold D2;rw[if_pos ac])
 rw[hr]at e
 simp only[Aa.mk.injEq]at e
 obtain⟨rfl,rfl,rfl,rfl,rfl,rfl⟩:=e
 exact hQ _ _ (.one (.inl rfl) rfl (.agg (.ref rfl (Am Ak) (Bn Ak Xd7) (.d rfl (Bf Al Xd1) (.d rfl (Bf Ao XdY) (.ref rfl (Am An) (Bn An Xdr) (.d rfl rfl (.d rfl rfl (.nil))))))) .nil))
 conv=>cbv
 generalize ae:Eg Ag=l5
 generalize ad:l5.map Ac=aj
 refine .dd hP (C8 Al (by omega) ae ad) ?_
 conv=>cbv
 have e5:l5=Ag:=ae.symm
 have ak:l5.length≤1000000000:=by rw[e5];exact he
 generalize af:Nr Ae l5 []=o7
 obtain⟨al,ab⟩:∃m,m=o7.length:=⟨_,rfl⟩
 generalize aa:(o7++List.replicate (Ae.length - o7.length) (⟨0,tx [],0⟩:Be)).map A8=am
 refine .bx [12,6,13] [6,13] hP (T4 Ak Al ad rfl (by first|assumption|omega) (by first|assumption|omega|rfl|(simp at*;omega)) (by omega) (by omega) (by simp) (fun _ h=>by cases h) af ab aa) rfl rfl rfl rfl ?_
 conv=>cbv
 have e:(⟨o7,Ag,l5,[],Aj,Ai⟩:Aa)=D2 (⟨Ae,Ag,Ah,Af,Aj,Ai⟩:Aa):=(by unfold D2;rw[if_neg (by rw[ac];decide)];dsimp only;rw[←af,e5])
 rw[hr]at e
 simp only[Aa.mk.injEq]at e
 obtain⟨rfl,rfl,rfl,rfl,rfl,rfl⟩:=e
 exact hQ _ _ (.one (.inl rfl) rfl (.agg (.sub rfl (by rw[←aa,List.length_map,List.length_append];omega) (by rw[←aa,←Xd7,ab,List.drop_zero,List.map_append,List.take_left' (by rw[List.length_map])]) (.d rfl (Bf Al Xd1) (.d rfl (Bf ad XdY) (.ref rfl rfl (by rw[←Xdr];rfl) (.d rfl rfl (.d rfl rfl (.nil))))))) .nil))
end
section
open Go Go.Proofs
set_option maxRecDepth 20000
set_option maxHeartbeats 4000000
def Vs:List Ad→List ByteArray→Prop
 |_,[]=>True
 |now,s::ss=>srt now∧(At now s).2=true∧Vs (At now s).1 ss
theorem Js{now:List Ad}{s:ByteArray}{ss:List ByteArray}(h:(At now s).2=true):M5 now (s::ss)=M5 (At now s).1 ss:=if_neg (by rw[h];decide)
theorem Xfw{d:Aa}:∀{l:List ByteArray} {now:List Ad},Fu d now l=true→Vs now l∧M5 now l=(d.entries_,true)∧Bi d d.entries_=true
 |[],now,h=>by
  unfold Fu at h
  rw[Bool.and_eq_true]at h
  have e:now=d.entries_:=by
   have:=h.2
   unfold Gf at this
   exact of_decide_eq_true this
  refine⟨trivial,by rw[←e];rfl,by rw[←e];exact h.1⟩
 |s::ss,now,h=>by
  unfold Fu at h
  rw[Bool.and_eq_true,Bool.and_eq_true]at h
  obtain⟨a,b,c⟩:=Xfw (now:=(At now s).1) h.2
  exact⟨⟨Xix h.1.1,h.1.2,a⟩,by rw[Js h.1.2,b],c⟩
theorem Tm:∀{l:List ByteArray} {now:List Ad} (k:Nat),Vs now l→Vs now (l.take k)
 |[],_,k,_=>by rw[List.take_nil];trivial
 |_::_,_,0,_=>trivial
 |_::_,_,k+1,h=>⟨h.1,h.2.1,Tm k h.2.2⟩
theorem Y4{s:ByteArray}{e:List Ad}:∀{l:List ByteArray} {now:List Ad},Vs now l→M5 now l=(e,true)→srt e→(At e s).2=true→Vs now (l++[s])
 |[],now,_,h,hs,h2=>by
  have e1:now=e:=congrArg Prod.fst h
  rw[e1]
  exact⟨hs,h2,trivial⟩
 |x::l,now,h,h1,hs,h2=>by
  rw[Js h.2.1]at h1
  exact⟨h.1,h.2.1,Y4 h.2.2 h1 hs h2⟩
theorem Zk:∀{l:List ByteArray} {now:List Ad},Vs now l→C4 now l=M5 now l∧(M5 now l).2=true
 |[],now,_=>⟨rfl,rfl⟩
 |s::ss,now,h=>by
  obtain⟨a,b⟩:=Zk (now:=(At now s).1) h.2.2
  have e2:C4 now (s::ss)=C4 (Eu now s).1 ss:=if_neg (by rw[V3 h.1,h.2.1];decide)
  rw[Js h.2.1,e2,V3 h.1,a]
  exact⟨rfl,b⟩
def Xaq(l:List Ad)(id:Int):Bool:=l.any fun e=>decide (e.id_=id)
def Xd2(old:List Ad)(steps:List ByteArray)(id:Int):Bool:=(List.range (steps.length+1)).any fun k=>Xaq (C4 old (steps.take k)).1 id
theorem Yh{id:Int}:∀{l:List ByteArray} {now:List Ad},Vs now l→(Rr now l id=true↔∃k,k≤l.length∧Xaq (M5 now (l.take k)).1 id=true)
 |[],now,_=>by
  constructor
  ·intro h;exact⟨0,Nat.le_refl _,h⟩
  ·rintro⟨k,_,h⟩
   rw[List.take_nil]at h
   exact h
 |s::ss,now,h=>by
  have ih:=Yh (id:=id) (now:=(At now s).1) h.2.2
  show(Xaq now id||Rr (At now s).1 ss id)=true↔_
  rw[Bool.or_eq_true,ih]
  constructor
  ·rintro(h1|⟨k,hk,h1⟩)
   ·exact⟨0,Nat.zero_le _,h1⟩
   ·refine⟨k+1,by rw[List.length_cons];omega,?_⟩
    rw[List.take_succ_cons,Js h.2.1]
    exact h1
  ·rintro⟨k,hk,h1⟩
   cases k with
   |zero=>exact .inl h1
   |succ k=>
    rw[List.take_succ_cons,Js h.2.1]at h1
    exact .inr ⟨k,by rw[List.length_cons]at hk;omega,h1⟩
theorem Xjg{old:List Ad}{steps:List ByteArray}(h:Vs old steps)(id:Int):Xd2 old steps id=Rr old steps id:=by
 rw[Bool.eq_iff_iff,Yh h]
 unfold Xd2
 rw[List.any_eq_true]
 constructor
 ·rintro⟨k,hk,h1⟩
  rw[(Zk (Tm k h)).1]at h1
  exact⟨k,by have:=List.mem_range.1 hk;omega,h1⟩
 ·rintro⟨k,hk,h1⟩
  refine⟨k,List.mem_range.2 (by omega),?_⟩
  rw[(Zk (Tm k h)).1]
  exact h1
def Fw(d:Aa):Aa:=⟨d.nodes_.filter (fun x=>Xd2 d.old_ d.steps_ x.id_),d.entries_,d.old_,d.steps_,d.room_,d.next_⟩
theorem X3{d:Aa}(h:Vs d.old_ d.steps_):Fw d=⟨Nr d.nodes_ d.old_ d.steps_,d.entries_,d.old_,d.steps_,d.room_,d.next_⟩:=by
 unfold Fw Nr
 rw[List.filter_congr fun x _=>Xjg h x.id_]
theorem XkC{n:ByteArray}(h:Bl n=true):∀(j:Nat) x,n.data.toList[j]? =some x→x≠58:=by
 intro j x hx e
 unfold Bl at h
 rw[Bool.and_eq_true]at h
 have:=List.all_eq_true.1 h.1 x (List.mem_of_getElem? hx)
 rw[e]at this
 exact absurd this (by decide)
theorem Xe3{a b:ByteArray}(h:Bl a=true):Ld (a++tx [58]++b)=(a,b,true):=by
 have hl:(a++tx [58]++b).data.toList=a.data.toList++58::b.data.toList:=by
  rw[ByteArray.data_append,ByteArray.data_append,Array.toList_append,Array.toList_append,N4,List.append_assoc]
  rfl
 have ha:a.data.toList.length=a.size:=Array.length_toList
 have e:Jw (a++tx [58]++b)=(a.size:Int):=by
  unfold Jw
  rw[hl,Ov _ a.size]
  ·rw[List.getElem?_append_right (by omega),ha,Nat.sub_self]
   rfl
  ·intro j hj x hx
   rw[List.getElem?_append_left (by omega)]at hx
   exact XkC h j x hx
 unfold Ld
 rw[e,if_pos (by omega),Int.toNat_natCast]
 have hz:(a++tx [58]++b).size=a.size+1+b.size:=by rw[ByteArray.size_append,ByteArray.size_append,Bh];rfl
 have hb:b.data.toList.length=b.size:=Array.length_toList
 have e1:(a++tx [58]++b).extract 0 a.size=a:=by
  apply Mx
  rw[Du,hl,List.drop_zero,List.take_left' ha]
 have e2:(a++tx [58]++b).extract (a.size+1) (a++tx [58]++b).size=b:=by
  apply Mx
  rw[Du,List.take_of_length_le (by rw[Array.length_toList];exact Nat.le_refl _),hl,List.drop_append,List.drop_of_length_le (by omega),ha,Nat.add_sub_cancel_left]
  rfl
 rw[e1,e2]
theorem Qx{c:UInt8}{s:ByteArray}:(tx [c]++s).extract 1 (tx [c]++s).size=s:=by
 apply Mx
 rw[Du,List.take_of_length_le (by rw[Array.length_toList];exact Nat.le_refl _),ByteArray.data_append,Array.toList_append,N4]
 rfl
theorem Xap{c:UInt8}{s:ByteArray}:(tx [c]++s).data.toList.head?=some c:=by
 rw[ByteArray.data_append,Array.toList_append,N4]
 rfl
theorem XhB{c:UInt8}{s:ByteArray}:tx [c]++s≠tx []:=by
 intro e
 have:=congrArg ByteArray.size e
 rw[ByteArray.size_append,Bh,Bh]at this
 simp at this
theorem XhZ{l:List Ad}{n:ByteArray}{i:Int}(hn:Bl n=true)(h0:0≤i)(h1:i≤1000000000):At l (tx [43]++(n++tx [58]++Co i))=(Ug l n i,true):=by
 have hc:Ld ((tx [43]++(n++tx [58]++Co i)).extract 1 (tx [43]++(n++tx [58]++Co i)).size)=(n,Co i,true):=by rw[Qx];exact Xe3 hn
 rw[Ms XhB Xap hc,Xkj h0 h1,if_neg (by rw[hn];simp)]
theorem Xgh{l:List Ad}{n:ByteArray}(hn:Bl n=true)(h:0≤Au l n):At l (tx [45]++n)=(Kp l (Au l n) (Au l n+1),true):=by
 rw[Th XhB Xap,Qx]
 unfold Hi
 rw[if_neg (by rw[hn];rintro(k|k);omega;cases k)]
theorem Xih{l:List Ad}{a b:ByteArray}(hn:Bl a=true)(hb:Bl b=true)(hne:a≠b)(h:0≤Au l a):At l (tx [62]++(a++tx [58]++b))=(Ug (Kp l (Au l a) (Au l a+1)) b (C2 l a),true):=by
 have hd:Hi l a=(Kp l (Au l a) (Au l a+1),true):=by
  unfold Hi
  rw[if_neg (by rw[hn];rintro(k|k);omega;cases k)]
 have hc:Ld ((tx [62]++(a++tx [58]++b)).extract 1 (tx [62]++(a++tx [58]++b)).size)=(a,b,true):=by rw[Qx];exact Xe3 hn
 rw[Kt XhB Xap hc,hd,if_neg (by rw[hb];simp;exact hne)]
theorem app3(a b c d:ByteArray):a++b++c++d=a++(b++c++d):=by
 rw[ByteArray.append_assoc,ByteArray.append_assoc,ByteArray.append_assoc]
theorem Sf{d:Aa}(h:Bw d=true):Vs d.old_ d.steps_∧M5 d.old_ d.steps_=(d.entries_,true)∧Bi d d.entries_=true:=Xfw (diskOk_iff.1 h).2.2.2.2
theorem Oc{d:Aa}(h:Bw d=true):srt d.entries_:=Xix (Sf h).2.2
theorem XeX{d:Aa}{n:ByteArray}(h:Bw d=true)(hp:0≤Au d.entries_ n):Bl n=true∧0≤De d n:=by
 obtain⟨hi,hq⟩:=Ue (p:=fun e=>Cp e n) (rfl:Au d.entries_ n=_) hp
 have h1:=XhN (Sf h).2.2 hi
 unfold Cp at hq
 rw[decide_eq_true_eq]at hq
 unfold Fr at h1
 rw[Xet hi rfl,Bool.and_eq_true,Bool.and_eq_true,decide_eq_true_eq]at h1
 refine⟨by rw[←hq];exact h1.1.2,?_⟩
 unfold De
 rw[if_neg (by omega)]
 unfold C2
 rw[if_neg (by omega),←gD hi]
 exact h1.2
theorem Yf{d:Aa}{n:ByteArray}(h:Au d.entries_ n<0):De d n<0:=by
 unfold De
 rw[if_pos h]
 decide
theorem Sq{d:Aa}{s:ByteArray}{e:List Ad}{nodes:List Be}{r x:Int}(h:Bw d=true)(hs:At d.entries_ s=(e,true)):Fw ⟨nodes,e,d.old_,d.steps_++[s],r,x⟩=Mr ⟨nodes,d.entries_,d.old_,d.steps_,r,x⟩ s:=by
 rw[X3 (Y4 (Sf h).1 (Sf h).2.1 (Oc h) (by rw[hs]))]
 unfold Mr
 rw[hs]
theorem XdJ{d:Aa}{name:ByteArray}{nodes:List Be}{r x:Int}(h:Bw d=true)(hn:Bl name=true):Fw ⟨nodes,Ek d.entries_ ⟨name,d.next_⟩,d.old_,d.steps_++[tx [43]++name++tx [58]++Co d.next_],r,x⟩=Mr ⟨nodes,d.entries_,d.old_,d.steps_,r,x⟩ (tx [43]++name++tx [58]++Co d.next_):=by
 have hr:=I4 h
 rw[Xcc (Oc h),app3]
 exact Sq h (XhZ hn (by omega) (by omega))
theorem Xds{d:Aa}{name:ByteArray}(h:Bw d=true)(hp:0≤Au d.entries_ name):Fw ⟨d.nodes_,D0 d.entries_ name,d.old_,d.steps_++[tx [45]++name],d.room_,d.next_⟩=Mr d (tx [45]++name):=by
 rw[Vj (Oc h) hp]
 exact Sq h (Xgh (XeX h hp).1 hp)
theorem Xdv{d:Aa}{a b:ByteArray}(h:Bw d=true)(hp:0≤Au d.entries_ a)(hb:Bl b=true)(hne:a≠b):Fw ⟨d.nodes_,Ek (D0 d.entries_ a) ⟨b,C2 d.entries_ a⟩,d.old_,d.steps_++[tx [62]++a++tx [58]++b],d.room_,d.next_⟩=Mr d (tx [62]++a++tx [58]++b):=by
 rw[Xcc (XfJ (Oc h)),Vj (Oc h) hp,app3]
 exact Sq h (Xih (XeX h hp).1 hb hne hp)
theorem Xh{d:Aa}{n:ByteArray}(h:0≤Au d.entries_ n):Jc d (C2 d.entries_ n)=De d n:=by
 unfold De
 rw[if_neg (by omega)]
theorem XaH{l:List Ad}{n:ByteArray}(h:Eh l n=true):0≤Au l n:=by
 unfold Eh at h
 exact of_decide_eq_true h
theorem Xbj{l:List Ad}{n:ByteArray}(h:Eh l n=false):Au l n<0:=by
 unfold Eh at h
 have:=of_decide_eq_false h
 omega
theorem Xb{p:Nat→Bool}{k:Nat}:(List.range (k+1)).any p=((List.range k).any p||p k):=by
 rw[List.range_succ,List.any_append]
 simp
theorem X9{old:List Ad}{steps:List ByteArray}{id:Int}{k:Nat}(hk:k≤steps.length+1)(h:true=(List.range k).any fun k=>Xaq (C4 old (steps.take k)).1 id):Xd2 old steps id=true:=by
 obtain⟨j,hj,h1⟩:=List.any_eq_true.1 h.symm
 exact List.any_eq_true.2 ⟨j,List.mem_range.2 (by have:=List.mem_range.1 hj;omega),h1⟩
theorem Te{l:List Ad}{k:Nat}{id:Int}(hk:k<l.length):Xaq (l.take (k+1)) id=(Xaq (l.take k) id||decide (l[k].id_=id)):=XfB hk
theorem Xgv(l:List Ad)(s:ByteArray):(Eu l s).1.length≤l.length+1:=by
 unfold Eu
 split
 ·simp
 ·split
  ·exact Gj rfl
  ·have h1:=I7 (rfl:D0 l (Cc s).1=_)
   split
   ·have h2:=Gj (rfl:Ek (D0 l (Cc s).1) ⟨(Cc s).2.1,C2 l (Cc s).1⟩=_)
    show(Ek _ _).length≤_
    omega
   ·show(D0 _ _).length≤_
    omega
theorem Xia:∀(l:List ByteArray) (now:List Ad),(C4 now l).1.length≤now.length+l.length
 |[],_=>Nat.le_refl _
 |s::l,now=>by
  have h1:=Xgv now s
  have h2:=Xia l (Eu now s).1
  unfold C4
  split
  ·exact Nat.zero_le _
  ·rw[List.length_cons]
   omega
theorem Zc{t:ByteArray}{n:Nat}(h:t.size≤n):t.extract 0 n=t:=by
 apply Mx
 rw[Du,List.drop_zero,List.take_of_length_le (by rw[Array.length_toList];exact h)]
end
section
open Go Go.Proofs
set_option maxRecDepth 20000
set_option maxHeartbeats 4000000
def Xba:List (Nat×TyRow):=[ty3,ty9,X1,Xg9,XaK,W8,XaB,Xc]
theorem XcI:Cb Tryz.prog Xba:=Cb.of (by kernel_rfl)
theorem Hy:Setup Tryz.prog Xba:=⟨XcI,mixed⟩
variable {Ae onod Gz:List Be} {A3 A2 A1 A4 Xez Xd8 XdO XdM Eb Ed Ec Ee:List (List D)} {Ag Ah oent oold Gv Gx:List Ad} {Af oste Gy:List ByteArray} {Aj Ai oroo onex Gt Gu ob:Int} {name:ByteArray}
theorem Kz{nn ne no ns:Nat}(Ak:Ae.map A8=A3)(Al:Ag.map Ac=A2)(Ao:Ah.map Ac=A1)(An:Af.map cS=A4)(hn:Ae.length≤4000000000)(he:Ag.length≤4000000000)(ho:Ah.length≤4000000000)(hs:Af.length≤4000000000)(hnn:nn=Ae.length)(hne:ne=Ag.length)(hno:no=Ah.length)(hns:ns=Af.length):Fn Tryz.prog 97 [.agg [.d (.row 3 A3),.d (.row 2 A2),.d (.row 2 A1),.d (.row 1 A4),I Aj,I Ai]] [] ⟨.agg [.ref 0 0 nn,.ref 1 0 ne,.ref 2 0 no,.ref 3 0 ns,I Aj,I Ai],[.row 3 false A3,.row 2 false A2,.row 2 false A1,.row 1 false A4],[]⟩:=by
 refine Fn.goR Hy Tryz.func97 fun P hP Q hQ=>?_
 conv=>cbv
 refine .row0 Ak fun aa z1 ai ab=>?_
 conv=>cbv
 refine .row0 Al fun ac z2 aj ad=>?_
 conv=>cbv
 refine .row0 Ao fun ae z3 ak af=>?_
 conv=>cbv
 refine .row0 An fun ag z4 al ah=>?_
 conv=>cbv
 obtain rfl:z1=A3:=by rw[←ab,Ak]
 obtain rfl:z2=A2:=by rw[←ad,Al]
 obtain rfl:z3=A1:=by rw[←af,Ao]
 obtain rfl:z4=A4:=by rw[←ah,An]
 obtain rfl:aa=nn:=by omega
 obtain rfl:ac=ne:=by omega
 obtain rfl:ae=no:=by omega
 obtain rfl:ag=ns:=by omega
 exact hQ _ _ (.of [7,9,11,13] (.inl rfl) rfl rfl rfl rfl)
theorem Xgj(Ak:Ae.map A8=A3)(Al:Ag.map Ac=A2)(Ao:Ah.map Ac=A1)(An:Af.map cS=A4)(hn:Ae.length≤4000000000)(he:Ag.length≤4000000000)(ho:Ah.length≤4000000000)(hs:Af.length≤4000000000):Fn Tryz.prog 97 [.agg [.d (.row 3 A3),.d (.row 2 A2),.d (.row 2 A1),.d (.row 1 A4),I Aj,I Ai]] [] ⟨.agg [.d (.row 3 A3),.d (.row 2 A2),.d (.row 2 A1),.d (.row 1 A4),I Aj,I Ai],[],[]⟩:=by
 refine Fn.go Hy Tryz.func97 fun P hP Q hQ=>?_
 conv=>cbv
 refine .row0 Ak fun ai z1 ae aa=>?_
 conv=>cbv
 refine .row0 Al fun aj z2 af ab=>?_
 conv=>cbv
 refine .row0 Ao fun ak z3 ag ac=>?_
 conv=>cbv
 refine .row0 An fun al z4 ah ad=>?_
 conv=>cbv
 obtain rfl:z1=A3:=by rw[←aa,Ak]
 obtain rfl:z2=A2:=by rw[←ab,Al]
 obtain rfl:z3=A1:=by rw[←ac,Ao]
 obtain rfl:z4=A4:=by rw[←ad,An]
 exact hQ _ _ (.one (.inl rfl) rfl (.agg (.ref rfl (Am Ak) rfl (.ref rfl (Am Al) rfl (.ref rfl (Am Ao) rfl (.ref rfl (Am An) rfl (.d rfl rfl (.d rfl rfl .nil)))))) .nil))
theorem Ph(Ak:Ae.map A8=A3)(Al:Ag.map Ac=A2)(Ao:Ah.map Ac=A1)(An:Af.map cS=A4)(hn:Ae.length≤2000000000)(hol:Ah.length≤1000000000)(hsl:Af.length≤1000000000)(hss:okS Af)(hr:Fw (⟨Ae,Ag,Ah,Af,Aj,Ai⟩:Aa)=⟨onod,oent,oold,oste,oroo,onex⟩)(Xd7:onod.map A8=Xez)(Xd1:oent.map Ac=Xd8)(XdY:oold.map Ac=XdO)(Xdr:oste.map cS=XdM):Fn Tryz.prog 165 [.agg [.d (.row 3 A3),.d (.row 2 A2),.d (.row 2 A1),.d (.row 1 A4),I Aj,I Ai]] [] ⟨.agg [.d (.row 3 Xez),.d (.row 2 Xd8),.d (.row 2 XdO),.d (.row 1 XdM),I oroo,I onex],[],[]⟩:=by
 refine Fn.go Hy Tryz.func165 fun P hP Q hQ=>?_
 conv=>cbv
 refine LoopW.lp (κ:=Int×(List (List D))×Nat) Hy hP [6] [1,2] (fun(i4,ad,ae)=>[(3,.ref 7 0 ae),(4,I i4)]) (fun(i4,ad,ae)=>[(7,.row 3 false ad)])
  (fun(i4,ad,ae)=>∃(w7:List Be),w7.map A8=ad∧ae=w7.length∧0≤i4∧i4≤Ae.length∧w7=(Ae.take i4.toNat).filter (fun x=>Xd2 Ah Af x.id_)∧w7.length≤i4)
  (fun(i4,ad,ae)=>(Ae.length - i4).toNat) (0,[],0) ⟨[],rfl,rfl,by omega,by omega,by simp,by simp⟩ ⟨rfl,rfl,trivial⟩ rfl ?_
 rintro⟨i4,ad,ae⟩ J ⟨w7,ah,bb,h0,h1,hx,hxl⟩ hJ
 conv=>cbv
 refine .go Ak fun v1 be=>?_
 conv=>cbv
 refine .lss (fun h2=>?_) fun h2=>?_
 conv=>cbv
 refine LoopW.lp (κ:=Bool×Int) Hy hP [] [1,2,3,4] (fun(b5,i6)=>[(5,B b5),(6,I i6)]) (fun(b5,i6)=>[])
  (fun(b5,i6)=>0≤i6∧i6≤Af.length+1∧b5=(List.range i6.toNat).any (fun k=>Xaq (C4 Ah (Af.take k)).1 (Ae.getD i4.toNat ⟨0,tx [],0⟩).id_))
  (fun(b5,i6)=>(Af.length+1 - i6).toNat) (false,0) ⟨by omega,by omega,rfl⟩ ⟨rfl,rfl,trivial⟩ rfl ?_
 rintro⟨b5,i6⟩ J1 ⟨k0,k1,hu⟩ ay
 conv=>cbv
 refine .go An fun v3 bf=>?_
 conv=>cbv
 refine .leq (fun h4=>?_) fun h4=>?_
 conv=>cbv
 cases b5
 conv=>cbv
 rcases ap:E3 Ah Af i6 with⟨aa,az⟩
 generalize ai:aa.map Ac=bc
 have hS:C4 Ah (Af.take i6.toNat)=(aa,az):=by rw[←Xco (by omega) (by omega)];exact ap
 have bg:aa.length≤2000000000:=by
  have:=Xia (Af.take i6.toNat) Ah
  rw[hS,List.length_take]at this
  simp only[]at this
  omega
 refine .dd hP (W0 Ao An hol hsl hss ap ai) ?_
 conv=>cbv
 refine LoopW.lp (κ:=Bool×Int) Hy hP [] [1,2,3,4,6,7,24,25] (fun(b5,i9)=>[(5,B b5),(9,I i9)]) (fun(b5,i9)=>[])
  (fun(b5,i9)=>0≤i9∧i9≤aa.length∧b5=Xaq (aa.take i9.toNat) (Ae.getD i4.toNat ⟨0,tx [],0⟩).id_)
  (fun(b5,i9)=>(aa.length - i9).toNat) (false,0) ⟨by omega,by omega,rfl⟩ ⟨rfl,rfl,trivial⟩ rfl ?_
 rintro⟨b5,i9⟩ J2 ⟨m0,m1,hb⟩ am
 conv=>cbv
 refine .go ai fun v6 bh=>?_
 conv=>cbv
 refine .lss (fun h7=>?_) fun h7=>?_
 conv=>cbv
 cases b5
 conv=>cbv
 refine .go i9.toNat ai fun al ⟨a1,bd⟩ aq=>?_
 conv=>cbv
 refine .go i4.toNat Ak fun ar ⟨au,a2,a6⟩ a7=>?_
 conv=>cbv
 have hide:(Ae.getD i4.toNat ⟨0,tx [],0⟩).id_=au:=by rw[←gD ar,←a7]
 refine .eql (fun h10=>?_) fun h10=>?_
 conv=>cbv
 refine .add fun aj aw=>?_
 conv=>cbv
 exact .go [] (true,aj) (am _ ⟨by omega,by omega,by rw[show aj.toNat=i9.toNat+1 by omega,Te al,←aq,hide];simp only[];rw[decide_eq_true h10,Bool.or_true]⟩ mlt)
 conv=>cbv
 refine .add fun aj aw=>?_
 conv=>cbv
 exact .go [] (false,aj) (am _ ⟨by omega,by omega,by rw[show aj.toNat=i9.toNat+1 by omega,Te al,←aq,←hb,hide];simp only[];rw[decide_eq_false h10];rfl⟩ mlt)
 conv=>cbv
 refine .add fun v8 a8=>?_
 conv=>cbv
 exact .go [] (true,v8) (am _ ⟨by omega,by omega,by rw[show v8.toNat=i9.toNat+1 by omega,Te (show i9.toNat<aa.length by omega),←hb];rfl⟩ mlt)
 conv=>cbv
 refine .add fun v8 a8=>?_
 conv=>cbv
 exact .go [] (b5,v8) (ay _ ⟨by omega,by omega,by rw[show v8.toNat=i6.toNat+1 by omega,Xb,←hu,Bool.false_or,hS];show _=Xaq aa _;rw[hb,List.take_of_length_le (by omega)]⟩ mlt)
 conv=>cbv
 refine .go i4.toNat Ak fun ab ⟨ac,af,ag⟩ ak=>?_
 conv=>cbv
 refine .one (⟨ac,af,ag⟩:Be) ah rfl fun an z6 ax ao=>?_
 conv=>cbv
 refine .add fun v7 ba=>?_
 conv=>cbv
 have hid:(Ae.getD i4.toNat ⟨0,tx [],0⟩).id_=ac:=by rw[←gD ab,←ak]
 have hus:=X9 (show i6.toNat≤Af.length+1 by omega) hu
 rw[hid]at hus
 exact .go [9] (v7,z6,an) (hJ _ ⟨_,ao,Gw,by omega,by omega,by rw[show v7.toNat=i4.toNat+1 by omega,Do ab,←hx,←ak];simp only[];rw[hus];rfl,by rw[List.length_append,List.length_singleton];omega⟩ mlt)
 conv=>cbv
 cases b5
 conv=>cbv
 refine .add fun v5 bi=>?_
 conv=>cbv
 have hj:i4.toNat<Ae.length:=by omega
 have hus:Xd2 Ah Af Ae[i4.toNat].id_=false:=by rw[gD hj (d:=⟨0,tx [],0⟩)];unfold Xd2;rw[show Af.length+1=i6.toNat by omega];exact hu.symm
 exact .go [7] (v5,ad,ae) (hJ _ ⟨_,ah,Gw,by omega,by omega,by rw[show v5.toNat=i4.toNat+1 by omega,Do hj,←hx,hus];simp,by omega⟩ mlt)
 conv=>cbv
 refine .go i4.toNat Ak fun ab ⟨ac,af,ag⟩ ak=>?_
 conv=>cbv
 refine .one (⟨ac,af,ag⟩:Be) ah rfl fun an z6 ax ao=>?_
 conv=>cbv
 refine .add fun v7 ba=>?_
 conv=>cbv
 have hid:(Ae.getD i4.toNat ⟨0,tx [],0⟩).id_=ac:=by rw[←gD ab,←ak]
 have hus:=X9 (show i6.toNat≤Af.length+1 by omega) hu
 rw[hid]at hus
 exact .go [9] (v7,z6,an) (hJ _ ⟨_,ao,Gw,by omega,by omega,by rw[show v7.toNat=i4.toNat+1 by omega,Do ab,←hx,←ak];simp only[];rw[hus];rfl,by rw[List.length_append,List.length_singleton];omega⟩ mlt)
 conv=>cbv
 have e:(⟨w7,Ag,Ah,Af,Aj,Ai⟩:Aa)=Fw (⟨Ae,Ag,Ah,Af,Aj,Ai⟩:Aa):=(by unfold Fw;dsimp only;rw[hx,List.take_of_length_le (by omega)])
 rw[hr]at e
 simp only[Aa.mk.injEq]at e
 obtain⟨rfl,rfl,rfl,rfl,rfl,rfl⟩:=e
 exact hQ _ _ (.one (.inl rfl) rfl (.agg (.ref rfl (Am ah) (Bn ah Xd7) (.d rfl (Bf Al Xd1) (.d rfl (Bf Ao XdY) (.d rfl (Bf An Xdr) (.d rfl rfl (.d rfl rfl (.nil))))))) .nil))
theorem Xb9(Ak:Ae.map A8=A3)(Al:Ag.map Ac=A2)(Ao:Ah.map Ac=A1)(An:Af.map cS=A4)(hn:Ae.length≤1000000000)(he:Ag.length≤1000000000)(ho:Ah.length≤1000000000)(hs:Af.length<1000000000)(hss:okS Af)(bb:La (⟨Ae,Ag,Ah,Af,Aj,Ai⟩:Aa))(hm:name.size≤1000000000)(hr:Ay (⟨Ae,Ag,Ah,Af,Aj,Ai⟩:Aa) name=(⟨Gz,Gv,Gx,Gy,Gt,Gu⟩,ob))(B4:Gz.map A8=Eb)(B8:Gv.map Ac=Ed)(B5:Gx.map Ac=Ec)(B6:Gy.map cS=Ee):Fn Tryz.prog 226 [.agg [.d (.row 3 A3),.d (.row 2 A2),.d (.row 2 A1),.d (.row 1 A4),I Aj,I Ai],S name] [] ⟨.tup [.agg [.d (.row 3 Eb),.d (.row 2 Ed),.d (.row 2 Ec),.d (.row 1 Ee),I Gt,I Gu],I ob],[],[]⟩:=by
 refine Fn.go Hy Tryz.func226 fun P hP Q hQ=>?_
 conv=>cbv
 obtain⟨n2,bc⟩:∃m,m=Ae.length:=⟨_,rfl⟩
 obtain⟨n3,bd⟩:∃m,m=Ag.length:=⟨_,rfl⟩
 obtain⟨n4,be⟩:∃m,m=Ah.length:=⟨_,rfl⟩
 obtain⟨n5,bf⟩:∃m,m=Af.length:=⟨_,rfl⟩
 refine .ddN hP (Kz Ak Al Ao An (by omega) (by omega) (by omega) (by omega) bc bd be bf) rfl ?_
 conv=>cbv
 generalize aa:Bw (⟨Ae,Ag,Ah,Af,Aj,Ai⟩:Aa)=r6
 refine .lnt hP (Pq Ak Al Ao An bb aa) (.agg (.ref rfl (Am Ak) (.ref rfl (Am Al) (.ref rfl (Am Ao) (.ref rfl (Am An) (.d rfl (.d rfl .nil)))))) .nil) ?_
 cases r6
 conv=>cbv
 have e:((⟨Ae,Ag,Ah,Af,Aj,Ai⟩:Aa),3)=Ay (⟨Ae,Ag,Ah,Af,Aj,Ai⟩:Aa) name:=(by unfold Ay;rw[if_pos aa])
 rw[hr]at e
 simp only[Prod.mk.injEq,Aa.mk.injEq]at e
 obtain⟨⟨rfl,rfl,rfl,rfl,rfl,rfl⟩,rfl⟩:=e
 refine hQ _ _ ?_
 exact .many (.inl rfl) rfl rfl (.agg (.ref rfl (Am Ak) (Bn Ak B4) (.ref rfl (Am Al) (Bn Al B8) (.ref rfl (Am Ao) (Bn Ao B5) (.ref rfl (Am An) (Bn An B6) (.d rfl rfl (.d rfl rfl (.nil))))))) (.d rfl rfl (.nil)))
 conv=>cbv
 generalize ab:Bl name=r7
 refine .dd hP (Na (by omega) ab) ?_
 cases r7
 conv=>cbv
 have e:((⟨Ae,Ag,Ah,Af,Aj,Ai⟩:Aa),1)=Ay (⟨Ae,Ag,Ah,Af,Aj,Ai⟩:Aa) name:=(by unfold Ay;rw[if_neg (by rw[aa];decide),if_pos ab])
 rw[hr]at e
 simp only[Prod.mk.injEq,Aa.mk.injEq]at e
 obtain⟨⟨rfl,rfl,rfl,rfl,rfl,rfl⟩,rfl⟩:=e
 refine hQ _ _ ?_
 exact .many (.inl rfl) rfl rfl (.agg (.ref rfl (Am Ak) (Bn Ak B4) (.ref rfl (Am Al) (Bn Al B8) (.ref rfl (Am Ao) (Bn Ao B5) (.ref rfl (Am An) (Bn An B6) (.d rfl rfl (.d rfl rfl (.nil))))))) (.d rfl rfl (.nil)))
 conv=>cbv
 generalize ak:Eh Ag name=r8
 refine .lnt hP (M3 Al (by omega) ak) (.ref rfl (Am Al) (.d rfl .nil)) ?_
 cases r8
 conv=>cbv
 refine .go fun v9 bq=>?_
 conv=>cbv
 refine .geq (fun h10=>?_) fun h10=>?_
 conv=>cbv
 have e:((⟨Ae,Ag,Ah,Af,Aj,Ai⟩:Aa),4)=Ay (⟨Ae,Ag,Ah,Af,Aj,Ai⟩:Aa) name:=(by unfold Ay;rw[if_neg (by rw[aa];decide),if_neg (by rw[ab];decide),if_neg (by have:=Xbj ak;dsimp only;omega),if_pos (by dsimp only;omega)])
 rw[hr]at e
 simp only[Prod.mk.injEq,Aa.mk.injEq]at e
 obtain⟨⟨rfl,rfl,rfl,rfl,rfl,rfl⟩,rfl⟩:=e
 refine hQ _ _ ?_
 exact .many (.inl rfl) rfl rfl (.agg (.ref rfl (Am Ak) (Bn Ak B4) (.ref rfl (Am Al) (Bn Al B8) (.ref rfl (Am Ao) (Bn Ao B5) (.ref rfl (Am An) (Bn An B6) (.d rfl rfl (.d rfl rfl (.nil))))))) (.d rfl rfl (.nil)))
 conv=>cbv
 refine .go fun bt bj=>?_
 conv=>cbv
 refine .geq (fun h12=>?_) fun h12=>?_
 conv=>cbv
 have e:((⟨Ae,Ag,Ah,Af,Aj,Ai⟩:Aa),4)=Ay (⟨Ae,Ag,Ah,Af,Aj,Ai⟩:Aa) name:=(by unfold Ay;rw[if_neg (by rw[aa];decide),if_neg (by rw[ab];decide),if_neg (by have:=Xbj ak;dsimp only;omega),if_pos (by dsimp only;omega)])
 rw[hr]at e
 simp only[Prod.mk.injEq,Aa.mk.injEq]at e
 obtain⟨⟨rfl,rfl,rfl,rfl,rfl,rfl⟩,rfl⟩:=e
 refine hQ _ _ ?_
 exact .many (.inl rfl) rfl rfl (.agg (.ref rfl (Am Ak) (Bn Ak B4) (.ref rfl (Am Al) (Bn Al B8) (.ref rfl (Am Ao) (Bn Ao B5) (.ref rfl (Am An) (Bn An B6) (.d rfl rfl (.d rfl rfl (.nil))))))) (.d rfl rfl (.nil)))
 conv=>cbv
 refine .geq (fun h13=>?_) fun h13=>?_
 conv=>cbv
 have e:((⟨Ae,Ag,Ah,Af,Aj,Ai⟩:Aa),4)=Ay (⟨Ae,Ag,Ah,Af,Aj,Ai⟩:Aa) name:=(by unfold Ay;rw[if_neg (by rw[aa];decide),if_neg (by rw[ab];decide),if_neg (by have:=Xbj ak;dsimp only;omega),if_pos (by dsimp only;omega)])
 rw[hr]at e
 simp only[Prod.mk.injEq,Aa.mk.injEq]at e
 obtain⟨⟨rfl,rfl,rfl,rfl,rfl,rfl⟩,rfl⟩:=e
 refine hQ _ _ ?_
 exact .many (.inl rfl) rfl rfl (.agg (.ref rfl (Am Ak) (Bn Ak B4) (.ref rfl (Am Al) (Bn Al B8) (.ref rfl (Am Ao) (Bn Ao B5) (.ref rfl (Am An) (Bn An B6) (.d rfl rfl (.d rfl rfl (.nil))))))) (.d rfl rfl (.nil)))
 conv=>cbv
 have hri:=I4 aa
 simp only[]at hri
 refine .one (⟨Ai,tx [],0⟩:Be) Ak rfl fun bk bu bg ao=>?_
 conv=>cbv
 generalize ap:Ek Ag (⟨name,Ai⟩:Ad)=ax
 generalize aq:ax.map Ac=bl
 refine .lntD hP (Jg Al (by omega) ap aq) (.ref rfl (Am Al) (.agg (.d rfl (.d rfl .nil)) .nil)) ?_
 conv=>cbv
 have hnz:=Va ab
 refine .litL 1 fun bv ay bm=>?_
 conv=>cbv
 refine .litR 1 fun bw az bn=>?_
 conv=>cbv
 generalize al:Co Ai=bz
 refine .dd hP (XcB (by unfold Zf;omega) al) ?_
 conv=>cbv
 have zr18:=Sz al (by unfold Zf;omega)
 refine .go fun aw a1 bo=>?_
 conv=>cbv
 refine .one aw An rfl fun bp b0 bh ar=>?_
 conv=>cbv
 refine .add fun bi a2=>?_
 conv=>cbv
 rcases au:Fw (⟨Ae++[(⟨Ai,tx [],0⟩:Be)],ax,Ah,Af++[aw],Aj,bi⟩:Aa)with⟨ag,ah,ai,aj,am,an⟩
 generalize ac:ag.map A8=a6
 generalize ad:ah.map Ac=a7
 generalize ae:ai.map Ac=a8
 generalize af:aj.map cS=ba
 refine .lntD hP (Ph ao aq Ao ar (by rw[List.length_append,List.length_singleton];omega) (by omega) (by rw[List.length_append,List.length_singleton];omega) (Rk hss (by omega)) au ac ad ae af) (.agg (.ref rfl (Am ao) (.d rfl (.ref rfl (Am Ao) (.ref rfl (Am ar) (.d rfl (.d rfl .nil)))))) .nil) ?_
 conv=>cbv
 have e:((⟨ag,ah,ai,aj,am,an⟩:Aa),0)=Ay (⟨Ae,Ag,Ah,Af,Aj,Ai⟩:Aa) name:=(by unfold Ay;rw[if_neg (by rw[aa];decide),if_neg (by rw[ab];decide),if_neg (by have:=Xbj ak;dsimp only;omega),if_neg (by dsimp only;omega)];exact congrArg (fun x:Aa=>(x,(0:Int))) (au.symm.trans (by rw[←ap,a2,show aw=tx [43]++name++tx [58]++Co Ai from(by rw[a1,az,ay,al];rfl)];exact XdJ aa ab)))
 rw[hr]at e
 simp only[Prod.mk.injEq,Aa.mk.injEq]at e
 obtain⟨⟨rfl,rfl,rfl,rfl,rfl,rfl⟩,rfl⟩:=e
 refine hQ _ _ ?_
 exact .many (.inl rfl) rfl rfl (.agg (.d rfl (Bf ac B4) (.d rfl (Bf ad B8) (.d rfl (Bf ae B5) (.d rfl (Bf af B6) (.d rfl rfl (.d rfl rfl (.nil))))))) (.d rfl rfl (.nil)))
 conv=>cbv
 have e:((⟨Ae,Ag,Ah,Af,Aj,Ai⟩:Aa),2)=Ay (⟨Ae,Ag,Ah,Af,Aj,Ai⟩:Aa) name:=(by unfold Ay;rw[if_neg (by rw[aa];decide),if_neg (by rw[ab];decide),if_pos (XaH ak)])
 rw[hr]at e
 simp only[Prod.mk.injEq,Aa.mk.injEq]at e
 obtain⟨⟨rfl,rfl,rfl,rfl,rfl,rfl⟩,rfl⟩:=e
 refine hQ _ _ ?_
 exact .many (.inl rfl) rfl rfl (.agg (.ref rfl (Am Ak) (Bn Ak B4) (.ref rfl (Am Al) (Bn Al B8) (.ref rfl (Am Ao) (Bn Ao B5) (.ref rfl (Am An) (Bn An B6) (.d rfl rfl (.d rfl rfl (.nil))))))) (.d rfl rfl (.nil)))
theorem Xa6{text:ByteArray}(Ak:Ae.map A8=A3)(Al:Ag.map Ac=A2)(Ao:Ah.map Ac=A1)(An:Af.map cS=A4)(hn:Ae.length≤1000000000)(he:Ag.length≤1000000000)(ho:Ah.length≤1000000000)(hs:Af.length<1000000000)(hss:okS Af)(aj:La (⟨Ae,Ag,Ah,Af,Aj,Ai⟩:Aa))(ht:text.size≤1000000000)(hr:Ce (⟨Ae,Ag,Ah,Af,Aj,Ai⟩:Aa) name text=(⟨Gz,Gv,Gx,Gy,Gt,Gu⟩,ob))(B4:Gz.map A8=Eb)(B8:Gv.map Ac=Ed)(B5:Gx.map Ac=Ec)(B6:Gy.map cS=Ee):Fn Tryz.prog 156 [.agg [.d (.row 3 A3),.d (.row 2 A2),.d (.row 2 A1),.d (.row 1 A4),I Aj,I Ai],S name,S text] [] ⟨.tup [.agg [.d (.row 3 Eb),.d (.row 2 Ed),.d (.row 2 Ec),.d (.row 1 Ee),I Gt,I Gu],I ob],[],[]⟩:=by
 refine Fn.go Hy Tryz.func156 fun P hP Q hQ=>?_
 conv=>cbv
 obtain⟨n2,a8⟩:∃m,m=Ae.length:=⟨_,rfl⟩
 obtain⟨n3,ba⟩:∃m,m=Ag.length:=⟨_,rfl⟩
 obtain⟨n4,bb⟩:∃m,m=Ah.length:=⟨_,rfl⟩
 obtain⟨n5,bc⟩:∃m,m=Af.length:=⟨_,rfl⟩
 refine .ddN hP (Kz Ak Al Ao An (by omega) (by omega) (by omega) (by omega) a8 ba bb bc) rfl ?_
 conv=>cbv
 generalize ah:Bw (⟨Ae,Ag,Ah,Af,Aj,Ai⟩:Aa)=r6
 refine .lnt hP (Pq Ak Al Ao An aj ah) (.agg (.ref rfl (Am Ak) (.ref rfl (Am Al) (.ref rfl (Am Ao) (.ref rfl (Am An) (.d rfl (.d rfl .nil)))))) .nil) ?_
 cases r6
 conv=>cbv
 have e:((⟨Ae,Ag,Ah,Af,Aj,Ai⟩:Aa),3)=Ce (⟨Ae,Ag,Ah,Af,Aj,Ai⟩:Aa) name text:=(by unfold Ce;rw[if_pos (.inl ah)])
 rw[hr]at e
 simp only[Prod.mk.injEq,Aa.mk.injEq]at e
 obtain⟨⟨rfl,rfl,rfl,rfl,rfl,rfl⟩,rfl⟩:=e
 refine hQ _ _ ?_
 exact .many (.inl rfl) rfl rfl (.agg (.ref rfl (Am Ak) (Bn Ak B4) (.ref rfl (Am Al) (Bn Al B8) (.ref rfl (Am Ao) (Bn Ao B5) (.ref rfl (Am An) (Bn An B6) (.d rfl rfl (.d rfl rfl (.nil))))))) (.d rfl rfl (.nil)))
 conv=>cbv
 generalize ao:Eh Ag name=r7
 refine .lnt hP (M3 Al (by omega) ao) (.ref rfl (Am Al) (.d rfl .nil)) ?_
 cases r7
 conv=>cbv
 have e:((⟨Ae,Ag,Ah,Af,Aj,Ai⟩:Aa),3)=Ce (⟨Ae,Ag,Ah,Af,Aj,Ai⟩:Aa) name text:=(by unfold Ce;rw[if_pos (.inr (Yf (Xbj ao)))])
 rw[hr]at e
 simp only[Prod.mk.injEq,Aa.mk.injEq]at e
 obtain⟨⟨rfl,rfl,rfl,rfl,rfl,rfl⟩,rfl⟩:=e
 refine hQ _ _ ?_
 exact .many (.inl rfl) rfl rfl (.agg (.ref rfl (Am Ak) (Bn Ak B4) (.ref rfl (Am Al) (Bn Al B8) (.ref rfl (Am Ao) (Bn Ao B5) (.ref rfl (Am An) (Bn An B6) (.d rfl rfl (.d rfl rfl (.nil))))))) (.d rfl rfl (.nil)))
 conv=>cbv
 generalize ar:C2 Ag name=r8
 refine .lnt hP (Mp Al (by omega) ar) (.ref rfl (Am Al) (.d rfl .nil)) ?_
 conv=>cbv
 generalize au:Hw (⟨Ae,Ag,Ah,Af,Aj,Ai⟩:Aa) r8=r9
 refine .lnt hP (R7 Ak Al Ao An (by omega) au) (.agg (.ref rfl (Am Ak) (.ref rfl (Am Al) (.ref rfl (Am Ao) (.ref rfl (Am An) (.d rfl (.d rfl .nil)))))) (.d rfl .nil)) ?_
 conv=>cbv
 have hpl:=XaH ao
 have hk:De (⟨Ae,Ag,Ah,Af,Aj,Ai⟩:Aa) name=r9:=by rw[←Xh (d:=(⟨Ae,Ag,Ah,Af,Aj,Ai⟩:Aa)) hpl];show Hw _ (C2 Ag name)=r9;rw[ar,au]
 have hb:=Ic hk
 have bd:=(XeX ah hpl).2
 rw[hk]at bd
 simp only[]at hb
 generalize af:F3 (⟨Ae,Ag,Ah,Af,Aj,Ai⟩:Aa)=aw
 refine .lnt hP (XeF Ak Al Ao An aj.1 af) (.agg (.ref rfl (Am Ak) (.ref rfl (Am Al) (.ref rfl (Am Ao) (.ref rfl (Am An) (.d rfl (.d rfl .nil)))))) .nil) ?_
 conv=>cbv
 have hri:=I4 ah
 simp only[af]at hri
 refine .sub fun bk ax=>?_
 conv=>cbv
 refine .go fun bl bg=>?_
 conv=>cbv
 refine .gtr (fun h13=>?_) fun h13=>?_
 conv=>cbv
 refine .go r9.toNat fun ai ay ap=>?_
 conv=>cbv
 refine .go Ak fun ae ⟨aq,aa,ak⟩ ab=>?_
 conv=>cbv
 have az:aa.size≤1000000000:=by have h9:=aj.1.2.1 _ (List.getElem_mem ae);rw[←ab]at h9;exact h9
 refine .hi fun al ag=>?_
 conv=>cbv
 have bh:al.size≤text.size:=by rw[ag,ByteArray.size_extract];omega
 refine .go fun a1 a2 bi=>?_
 conv=>cbv
 refine .go r9.toNat fun ac a6 be=>?_
 conv=>cbv
 refine .go (⟨(Ae.getD ac ⟨0,tx [],0⟩).id_,a1,(Ae.getD ac ⟨0,tx [],0⟩).sure_⟩:Be) Ak (by omega) (by rw[←gD (show ac<Ae.length by omega)];rfl) (show 1+1≤3 by decide) fun bm am=>?_
 conv=>cbv
 have e:((⟨Ae.set ac (⟨(Ae.getD ac ⟨0,tx [],0⟩).id_,a1,(Ae.getD ac ⟨0,tx [],0⟩).sure_⟩:Be),Ag,Ah,Af,Aj,Ai⟩:Aa),5)=Ce (⟨Ae,Ag,Ah,Af,Aj,Ai⟩:Aa) name text:=(by unfold Ce;rw[if_neg (by rintro(h|h);rw[ah]at h;cases h;rw[hk]at h;omega),hk,af];dsimp only;rw[if_pos (by omega)];unfold Xl0 gN;dsimp only;have e9:aa=(Ae.getD ac ⟨0,tx [],0⟩).text_:=(by have h9:ai=ac:=(by omega);subst h9;rw[←gD (show ai<Ae.length by omega),←ab]);rw[←a6,a2,e9,ag,ax,show min (text.size:Int) (Aj - aw)=Aj - aw by omega])
 rw[hr]at e
 simp only[Prod.mk.injEq,Aa.mk.injEq]at e
 obtain⟨⟨rfl,rfl,rfl,rfl,rfl,rfl⟩,rfl⟩:=e
 refine hQ _ _ ?_
 exact .many (.inl rfl) rfl rfl (.agg (.ref rfl (Am am) (Bn am B4) (.ref rfl (Am Al) (Bn Al B8) (.ref rfl (Am Ao) (Bn Ao B5) (.ref rfl (Am An) (Bn An B6) (.d rfl rfl (.d rfl rfl (.nil))))))) (.d rfl rfl (.nil)))
 conv=>cbv
 refine .go r9.toNat fun ai ay ap=>?_
 conv=>cbv
 refine .go Ak fun ae ⟨aq,aa,ak⟩ ab=>?_
 conv=>cbv
 have az:aa.size≤1000000000:=by have h9:=aj.1.2.1 _ (List.getElem_mem ae);rw[←ab]at h9;exact h9
 refine .go fun al ag bj=>?_
 conv=>cbv
 refine .go r9.toNat fun ad a7 bf=>?_
 conv=>cbv
 refine .go (⟨(Ae.getD ad ⟨0,tx [],0⟩).id_,al,(Ae.getD ad ⟨0,tx [],0⟩).sure_⟩:Be) Ak (by omega) (by rw[←gD (show ad<Ae.length by omega)];rfl) (show 1+1≤3 by decide) fun bn an=>?_
 conv=>cbv
 have e:((⟨Ae.set ad (⟨(Ae.getD ad ⟨0,tx [],0⟩).id_,al,(Ae.getD ad ⟨0,tx [],0⟩).sure_⟩:Be),Ag,Ah,Af,Aj,Ai⟩:Aa),0)=Ce (⟨Ae,Ag,Ah,Af,Aj,Ai⟩:Aa) name text:=(by unfold Ce;rw[if_neg (by rintro(h|h);rw[ah]at h;cases h;rw[hk]at h;omega),hk,af];dsimp only;rw[if_neg (by omega)];unfold Xl0 gN;dsimp only;have e9:aa=(Ae.getD ad ⟨0,tx [],0⟩).text_:=(by have h9:ai=ad:=(by omega);subst h9;rw[←gD (show ai<Ae.length by omega),←ab]);rw[←a7,ag,e9,Zc (t:=text) (by omega)])
 rw[hr]at e
 simp only[Prod.mk.injEq,Aa.mk.injEq]at e
 obtain⟨⟨rfl,rfl,rfl,rfl,rfl,rfl⟩,rfl⟩:=e
 refine hQ _ _ ?_
 exact .many (.inl rfl) rfl rfl (.agg (.ref rfl (Am an) (Bn an B4) (.ref rfl (Am Al) (Bn Al B8) (.ref rfl (Am Ao) (Bn Ao B5) (.ref rfl (Am An) (Bn An B6) (.d rfl rfl (.d rfl rfl (.nil))))))) (.d rfl rfl (.nil)))
theorem Xgr(Ak:Ae.map A8=A3)(Al:Ag.map Ac=A2)(Ao:Ah.map Ac=A1)(An:Af.map cS=A4)(hn:Ae.length≤1000000000)(he:Ag.length≤1000000000)(ho:Ah.length≤1000000000)(hs:Af.length<1000000000)(hss:okS Af)(an:La (⟨Ae,Ag,Ah,Af,Aj,Ai⟩:Aa))(hr:Ds (⟨Ae,Ag,Ah,Af,Aj,Ai⟩:Aa) name=(⟨Gz,Gv,Gx,Gy,Gt,Gu⟩,ob))(B4:Gz.map A8=Eb)(B8:Gv.map Ac=Ed)(B5:Gx.map Ac=Ec)(B6:Gy.map cS=Ee):Fn Tryz.prog 225 [.agg [.d (.row 3 A3),.d (.row 2 A2),.d (.row 2 A1),.d (.row 1 A4),I Aj,I Ai],S name] [] ⟨.tup [.agg [.d (.row 3 Eb),.d (.row 2 Ed),.d (.row 2 Ec),.d (.row 1 Ee),I Gt,I Gu],I ob],[],[]⟩:=by
 refine Fn.go Hy Tryz.func225 fun P hP Q hQ=>?_
 conv=>cbv
 obtain⟨n2,ao⟩:∃m,m=Ae.length:=⟨_,rfl⟩
 obtain⟨n3,ap⟩:∃m,m=Ag.length:=⟨_,rfl⟩
 obtain⟨n4,aq⟩:∃m,m=Ah.length:=⟨_,rfl⟩
 obtain⟨n5,ar⟩:∃m,m=Af.length:=⟨_,rfl⟩
 refine .ddN hP (Kz Ak Al Ao An (by omega) (by omega) (by omega) (by omega) ao ap aq ar) rfl ?_
 conv=>cbv
 generalize ab:Bw (⟨Ae,Ag,Ah,Af,Aj,Ai⟩:Aa)=r6
 refine .lnt hP (Pq Ak Al Ao An an ab) (.agg (.ref rfl (Am Ak) (.ref rfl (Am Al) (.ref rfl (Am Ao) (.ref rfl (Am An) (.d rfl (.d rfl .nil)))))) .nil) ?_
 cases r6
 conv=>cbv
 have e:((⟨Ae,Ag,Ah,Af,Aj,Ai⟩:Aa),3)=Ds (⟨Ae,Ag,Ah,Af,Aj,Ai⟩:Aa) name:=(by unfold Ds;rw[if_pos (.inl ab)])
 rw[hr]at e
 simp only[Prod.mk.injEq,Aa.mk.injEq]at e
 obtain⟨⟨rfl,rfl,rfl,rfl,rfl,rfl⟩,rfl⟩:=e
 refine hQ _ _ ?_
 exact .many (.inl rfl) rfl rfl (.agg (.ref rfl (Am Ak) (Bn Ak B4) (.ref rfl (Am Al) (Bn Al B8) (.ref rfl (Am Ao) (Bn Ao B5) (.ref rfl (Am An) (Bn An B6) (.d rfl rfl (.d rfl rfl (.nil))))))) (.d rfl rfl (.nil)))
 conv=>cbv
 generalize ae:Eh Ag name=r7
 refine .lnt hP (M3 Al (by omega) ae) (.ref rfl (Am Al) (.d rfl .nil)) ?_
 cases r7
 conv=>cbv
 have e:((⟨Ae,Ag,Ah,Af,Aj,Ai⟩:Aa),3)=Ds (⟨Ae,Ag,Ah,Af,Aj,Ai⟩:Aa) name:=(by unfold Ds;rw[if_pos (.inr (Yf (Xbj ae)))])
 rw[hr]at e
 simp only[Prod.mk.injEq,Aa.mk.injEq]at e
 obtain⟨⟨rfl,rfl,rfl,rfl,rfl,rfl⟩,rfl⟩:=e
 refine hQ _ _ ?_
 exact .many (.inl rfl) rfl rfl (.agg (.ref rfl (Am Ak) (Bn Ak B4) (.ref rfl (Am Al) (Bn Al B8) (.ref rfl (Am Ao) (Bn Ao B5) (.ref rfl (Am An) (Bn An B6) (.d rfl rfl (.d rfl rfl (.nil))))))) (.d rfl rfl (.nil)))
 conv=>cbv
 generalize af:C2 Ag name=r8
 refine .lnt hP (Mp Al (by omega) af) (.ref rfl (Am Al) (.d rfl .nil)) ?_
 conv=>cbv
 generalize ag:Hw (⟨Ae,Ag,Ah,Af,Aj,Ai⟩:Aa) r8=r9
 refine .lnt hP (R7 Ak Al Ao An (by omega) ag) (.agg (.ref rfl (Am Ak) (.ref rfl (Am Al) (.ref rfl (Am Ao) (.ref rfl (Am An) (.d rfl (.d rfl .nil)))))) (.d rfl .nil)) ?_
 conv=>cbv
 have hpl:=XaH ae
 have hk:De (⟨Ae,Ag,Ah,Af,Aj,Ai⟩:Aa) name=r9:=by rw[←Xh (d:=(⟨Ae,Ag,Ah,Af,Aj,Ai⟩:Aa)) hpl];show Hw _ (C2 Ag name)=r9;rw[af,ag]
 have hb:=Ic hk
 have au:=(XeX ab hpl).2
 rw[hk]at au
 simp only[]at hb
 refine .go r9.toNat fun ah a1 aw=>?_
 conv=>cbv
 refine .go Ak fun ax ⟨ay,ac,am⟩ ai=>?_
 conv=>cbv
 refine .go fun aj ak=>?_
 conv=>cbv
 refine .go r9.toNat fun aa al az=>?_
 conv=>cbv
 refine .go (⟨(Ae.getD aa ⟨0,tx [],0⟩).id_,(Ae.getD aa ⟨0,tx [],0⟩).text_,aj⟩:Be) Ak (by omega) (by rw[←gD (show aa<Ae.length by omega)];rfl) (show 2+1≤3 by decide) fun a2 ad=>?_
 conv=>cbv
 have e:((⟨Ae.set aa (⟨(Ae.getD aa ⟨0,tx [],0⟩).id_,(Ae.getD aa ⟨0,tx [],0⟩).text_,aj⟩:Be),Ag,Ah,Af,Aj,Ai⟩:Aa),0)=Ds (⟨Ae,Ag,Ah,Af,Aj,Ai⟩:Aa) name:=(by unfold Ds;rw[if_neg (by rintro(h|h);rw[ab]at h;cases h;rw[hk]at h;omega),hk];dsimp only;have e9:ac=(Ae.getD aa ⟨0,tx [],0⟩).text_:=(by have h9:ah=aa:=(by omega);subst h9;rw[←gD (show ah<Ae.length by omega),←ai]);rw[ak,e9,←al])
 rw[hr]at e
 simp only[Prod.mk.injEq,Aa.mk.injEq]at e
 obtain⟨⟨rfl,rfl,rfl,rfl,rfl,rfl⟩,rfl⟩:=e
 refine hQ _ _ ?_
 exact .many (.inl rfl) rfl rfl (.agg (.ref rfl (Am ad) (Bn ad B4) (.ref rfl (Am Al) (Bn Al B8) (.ref rfl (Am Ao) (Bn Ao B5) (.ref rfl (Am An) (Bn An B6) (.d rfl rfl (.d rfl rfl (.nil))))))) (.d rfl rfl (.nil)))
theorem Xcs{from_:ByteArray}{to_:ByteArray}(Ak:Ae.map A8=A3)(Al:Ag.map Ac=A2)(Ao:Ah.map Ac=A1)(An:Af.map cS=A4)(hn:Ae.length≤1000000000)(he:Ag.length≤1000000000)(ho:Ah.length≤1000000000)(hs:Af.length<1000000000)(hss:okS Af)(bc:La (⟨Ae,Ag,Ah,Af,Aj,Ai⟩:Aa))(hm:from_.size+to_.size<999999999)(hr:Cd (⟨Ae,Ag,Ah,Af,Aj,Ai⟩:Aa) from_ to_=(⟨Gz,Gv,Gx,Gy,Gt,Gu⟩,ob))(B4:Gz.map A8=Eb)(B8:Gv.map Ac=Ed)(B5:Gx.map Ac=Ec)(B6:Gy.map cS=Ee):Fn Tryz.prog 260 [.agg [.d (.row 3 A3),.d (.row 2 A2),.d (.row 2 A1),.d (.row 1 A4),I Aj,I Ai],S from_,S to_] [] ⟨.tup [.agg [.d (.row 3 Eb),.d (.row 2 Ed),.d (.row 2 Ec),.d (.row 1 Ee),I Gt,I Gu],I ob],[],[]⟩:=by
 refine Fn.go Hy Tryz.func260 fun P hP Q hQ=>?_
 conv=>cbv
 obtain⟨n2,bd⟩:∃m,m=Ae.length:=⟨_,rfl⟩
 obtain⟨n3,be⟩:∃m,m=Ag.length:=⟨_,rfl⟩
 obtain⟨n4,bf⟩:∃m,m=Ah.length:=⟨_,rfl⟩
 obtain⟨n5,bg⟩:∃m,m=Af.length:=⟨_,rfl⟩
 refine .ddN hP (Kz Ak Al Ao An (by omega) (by omega) (by omega) (by omega) bd be bf bg) rfl ?_
 conv=>cbv
 generalize ai:Bw (⟨Ae,Ag,Ah,Af,Aj,Ai⟩:Aa)=r6
 refine .lnt hP (Pq Ak Al Ao An bc ai) (.agg (.ref rfl (Am Ak) (.ref rfl (Am Al) (.ref rfl (Am Ao) (.ref rfl (Am An) (.d rfl (.d rfl .nil)))))) .nil) ?_
 cases r6
 conv=>cbv
 have e:((⟨Ae,Ag,Ah,Af,Aj,Ai⟩:Aa),3)=Cd (⟨Ae,Ag,Ah,Af,Aj,Ai⟩:Aa) from_ to_:=(by unfold Cd;rw[if_pos (.inl ai)])
 rw[hr]at e
 simp only[Prod.mk.injEq,Aa.mk.injEq]at e
 obtain⟨⟨rfl,rfl,rfl,rfl,rfl,rfl⟩,rfl⟩:=e
 refine hQ _ _ ?_
 exact .many (.inl rfl) rfl rfl (.agg (.ref rfl (Am Ak) (Bn Ak B4) (.ref rfl (Am Al) (Bn Al B8) (.ref rfl (Am Ao) (Bn Ao B5) (.ref rfl (Am An) (Bn An B6) (.d rfl rfl (.d rfl rfl (.nil))))))) (.d rfl rfl (.nil)))
 conv=>cbv
 generalize aj:Eh Ag from_=r7
 refine .lnt hP (M3 Al (by omega) aj) (.ref rfl (Am Al) (.d rfl .nil)) ?_
 cases r7
 conv=>cbv
 have e:((⟨Ae,Ag,Ah,Af,Aj,Ai⟩:Aa),3)=Cd (⟨Ae,Ag,Ah,Af,Aj,Ai⟩:Aa) from_ to_:=(by unfold Cd;rw[if_pos (.inr (Xbj aj))])
 rw[hr]at e
 simp only[Prod.mk.injEq,Aa.mk.injEq]at e
 obtain⟨⟨rfl,rfl,rfl,rfl,rfl,rfl⟩,rfl⟩:=e
 refine hQ _ _ ?_
 exact .many (.inl rfl) rfl rfl (.agg (.ref rfl (Am Ak) (Bn Ak B4) (.ref rfl (Am Al) (Bn Al B8) (.ref rfl (Am Ao) (Bn Ao B5) (.ref rfl (Am An) (Bn An B6) (.d rfl rfl (.d rfl rfl (.nil))))))) (.d rfl rfl (.nil)))
 conv=>cbv
 generalize al:Bl to_=r8
 refine .dd hP (Na (by omega) al) ?_
 cases r8
 conv=>cbv
 have e:((⟨Ae,Ag,Ah,Af,Aj,Ai⟩:Aa),1)=Cd (⟨Ae,Ag,Ah,Af,Aj,Ai⟩:Aa) from_ to_:=(by unfold Cd;rw[if_neg (by rintro(h|h);rw[ai]at h;cases h;have:=XaH aj;dsimp only at h;omega),if_pos (.inl al)])
 rw[hr]at e
 simp only[Prod.mk.injEq,Aa.mk.injEq]at e
 obtain⟨⟨rfl,rfl,rfl,rfl,rfl,rfl⟩,rfl⟩:=e
 refine hQ _ _ ?_
 exact .many (.inl rfl) rfl rfl (.agg (.ref rfl (Am Ak) (Bn Ak B4) (.ref rfl (Am Al) (Bn Al B8) (.ref rfl (Am Ao) (Bn Ao B5) (.ref rfl (Am An) (Bn An B6) (.d rfl rfl (.d rfl rfl (.nil))))))) (.d rfl rfl (.nil)))
 conv=>cbv
 refine .eql (fun h9=>?_) fun h9=>?_
 conv=>cbv
 have e:((⟨Ae,Ag,Ah,Af,Aj,Ai⟩:Aa),1)=Cd (⟨Ae,Ag,Ah,Af,Aj,Ai⟩:Aa) from_ to_:=(by unfold Cd;rw[if_neg (by rintro(h|h);rw[ai]at h;cases h;have:=XaH aj;dsimp only at h;omega),if_pos (.inr h9)])
 rw[hr]at e
 simp only[Prod.mk.injEq,Aa.mk.injEq]at e
 obtain⟨⟨rfl,rfl,rfl,rfl,rfl,rfl⟩,rfl⟩:=e
 refine hQ _ _ ?_
 exact .many (.inl rfl) rfl rfl (.agg (.ref rfl (Am Ak) (Bn Ak B4) (.ref rfl (Am Al) (Bn Al B8) (.ref rfl (Am Ao) (Bn Ao B5) (.ref rfl (Am An) (Bn An B6) (.d rfl rfl (.d rfl rfl (.nil))))))) (.d rfl rfl (.nil)))
 conv=>cbv
 generalize ao:C2 Ag from_=bh
 refine .lnt hP (Mp Al (by omega) ao) (.ref rfl (Am Al) (.d rfl .nil)) ?_
 conv=>cbv
 generalize ak:D0 Ag from_=ay
 have bi:=I7 ak
 generalize ap:ay.map Ac=bk
 refine .lntD hP (Mf Al (by omega) ak ap) (.ref rfl (Am Al) (.d rfl .nil)) ?_
 conv=>cbv
 generalize aq:Ek ay (⟨to_,bh⟩:Ad)=az
 generalize ar:az.map Ac=bl
 refine .dd hP (Jg ap (by omega) aq ar) ?_
 conv=>cbv
 refine .litL 1 fun bq a1 bm=>?_
 conv=>cbv
 refine .litR 1 fun bt a2 bn=>?_
 conv=>cbv
 refine .go fun ax a6 bo=>?_
 conv=>cbv
 refine .one ax An rfl fun bp bu bj au=>?_
 conv=>cbv
 rcases aw:Fw (⟨Ae,az,Ah,Af++[ax],Aj,Ai⟩:Aa)with⟨ae,af,ag,ah,am,an⟩
 generalize aa:ae.map A8=a7
 generalize ab:af.map Ac=a8
 generalize ac:ag.map Ac=ba
 generalize ad:ah.map cS=bb
 refine .lntD hP (Ph Ak ar Ao au (by omega) (by omega) (by rw[List.length_append,List.length_singleton];omega) (Rk hss (by omega)) aw aa ab ac ad) (.agg (.ref rfl (Am Ak) (.d rfl (.ref rfl (Am Ao) (.ref rfl (Am au) (.d rfl (.d rfl .nil)))))) .nil) ?_
 conv=>cbv
 have e:((⟨ae,af,ag,ah,am,an⟩:Aa),0)=Cd (⟨Ae,Ag,Ah,Af,Aj,Ai⟩:Aa) from_ to_:=(by unfold Cd;rw[if_neg (by rintro(h|h);rw[ai]at h;cases h;have:=XaH aj;dsimp only at h;omega),if_neg (by rintro(h|h);rw[al]at h;cases h;exact h9 h)];exact congrArg (fun x:Aa=>(x,(0:Int))) (aw.symm.trans (by rw[←aq,←ak,←ao,show ax=tx [62]++from_++tx [58]++to_ from(by rw[a6,a2,a1];rfl)];exact Xdv ai (XaH aj) al h9)))
 rw[hr]at e
 simp only[Prod.mk.injEq,Aa.mk.injEq]at e
 obtain⟨⟨rfl,rfl,rfl,rfl,rfl,rfl⟩,rfl⟩:=e
 refine hQ _ _ ?_
 exact .many (.inl rfl) rfl rfl (.agg (.d rfl (Bf aa B4) (.d rfl (Bf ab B8) (.d rfl (Bf ac B5) (.d rfl (Bf ad B6) (.d rfl rfl (.d rfl rfl (.nil))))))) (.d rfl rfl (.nil)))
theorem XcC(Ak:Ae.map A8=A3)(Al:Ag.map Ac=A2)(Ao:Ah.map Ac=A1)(An:Af.map cS=A4)(hn:Ae.length≤1000000000)(he:Ag.length≤1000000000)(ho:Ah.length≤1000000000)(hs:Af.length<1000000000)(hss:okS Af)(ax:La (⟨Ae,Ag,Ah,Af,Aj,Ai⟩:Aa))(hm:name.size<1000000000)(hr:Da (⟨Ae,Ag,Ah,Af,Aj,Ai⟩:Aa) name=(⟨Gz,Gv,Gx,Gy,Gt,Gu⟩,ob))(B4:Gz.map A8=Eb)(B8:Gv.map Ac=Ed)(B5:Gx.map Ac=Ec)(B6:Gy.map cS=Ee):Fn Tryz.prog 259 [.agg [.d (.row 3 A3),.d (.row 2 A2),.d (.row 2 A1),.d (.row 1 A4),I Aj,I Ai],S name] [] ⟨.tup [.agg [.d (.row 3 Eb),.d (.row 2 Ed),.d (.row 2 Ec),.d (.row 1 Ee),I Gt,I Gu],I ob],[],[]⟩:=by
 refine Fn.go Hy Tryz.func259 fun P hP Q hQ=>?_
 conv=>cbv
 obtain⟨n2,ay⟩:∃m,m=Ae.length:=⟨_,rfl⟩
 obtain⟨n3,az⟩:∃m,m=Ag.length:=⟨_,rfl⟩
 obtain⟨n4,a1⟩:∃m,m=Ah.length:=⟨_,rfl⟩
 obtain⟨n5,a2⟩:∃m,m=Af.length:=⟨_,rfl⟩
 refine .ddN hP (Kz Ak Al Ao An (by omega) (by omega) (by omega) (by omega) ay az a1 a2) rfl ?_
 conv=>cbv
 generalize ai:Bw (⟨Ae,Ag,Ah,Af,Aj,Ai⟩:Aa)=r6
 refine .lnt hP (Pq Ak Al Ao An ax ai) (.agg (.ref rfl (Am Ak) (.ref rfl (Am Al) (.ref rfl (Am Ao) (.ref rfl (Am An) (.d rfl (.d rfl .nil)))))) .nil) ?_
 cases r6
 conv=>cbv
 have e:((⟨Ae,Ag,Ah,Af,Aj,Ai⟩:Aa),3)=Da (⟨Ae,Ag,Ah,Af,Aj,Ai⟩:Aa) name:=(by unfold Da;rw[if_pos (.inl ai)])
 rw[hr]at e
 simp only[Prod.mk.injEq,Aa.mk.injEq]at e
 obtain⟨⟨rfl,rfl,rfl,rfl,rfl,rfl⟩,rfl⟩:=e
 refine hQ _ _ ?_
 exact .many (.inl rfl) rfl rfl (.agg (.ref rfl (Am Ak) (Bn Ak B4) (.ref rfl (Am Al) (Bn Al B8) (.ref rfl (Am Ao) (Bn Ao B5) (.ref rfl (Am An) (Bn An B6) (.d rfl rfl (.d rfl rfl (.nil))))))) (.d rfl rfl (.nil)))
 conv=>cbv
 generalize aj:Eh Ag name=r7
 refine .lnt hP (M3 Al (by omega) aj) (.ref rfl (Am Al) (.d rfl .nil)) ?_
 cases r7
 conv=>cbv
 have e:((⟨Ae,Ag,Ah,Af,Aj,Ai⟩:Aa),3)=Da (⟨Ae,Ag,Ah,Af,Aj,Ai⟩:Aa) name:=(by unfold Da;rw[if_pos (.inr (Xbj aj))])
 rw[hr]at e
 simp only[Prod.mk.injEq,Aa.mk.injEq]at e
 obtain⟨⟨rfl,rfl,rfl,rfl,rfl,rfl⟩,rfl⟩:=e
 refine hQ _ _ ?_
 exact .many (.inl rfl) rfl rfl (.agg (.ref rfl (Am Ak) (Bn Ak B4) (.ref rfl (Am Al) (Bn Al B8) (.ref rfl (Am Ao) (Bn Ao B5) (.ref rfl (Am An) (Bn An B6) (.d rfl rfl (.d rfl rfl (.nil))))))) (.d rfl rfl (.nil)))
 conv=>cbv
 generalize ao:D0 Ag name=l8
 generalize ap:l8.map Ac=ba
 refine .lntD hP (Mf Al (by omega) ao ap) (.ref rfl (Am Al) (.d rfl .nil)) ?_
 conv=>cbv
 refine .litL 1 fun s9 a6 bb=>?_
 conv=>cbv
 refine .one s9 An rfl fun a8 bc a7 am=>?_
 conv=>cbv
 rcases an:Fw (⟨Ae,l8,Ah,Af++[s9],Aj,Ai⟩:Aa)with⟨ae,af,ag,ah,ak,al⟩
 generalize aa:ae.map A8=aq
 generalize ab:af.map Ac=ar
 generalize ac:ag.map Ac=au
 generalize ad:ah.map cS=aw
 refine .lntD hP (Ph Ak ap Ao am (by omega) (by omega) (by rw[List.length_append,List.length_singleton];omega) (Rk hss (by omega)) an aa ab ac ad) (.agg (.ref rfl (Am Ak) (.d rfl (.ref rfl (Am Ao) (.ref rfl (Am am) (.d rfl (.d rfl .nil)))))) .nil) ?_
 conv=>cbv
 have e:((⟨ae,af,ag,ah,ak,al⟩:Aa),0)=Da (⟨Ae,Ag,Ah,Af,Aj,Ai⟩:Aa) name:=(by unfold Da;rw[if_neg (by rintro(h|h);rw[ai]at h;cases h;have:=XaH aj;dsimp only at h;omega)];exact congrArg (fun x:Aa=>(x,(0:Int))) (an.symm.trans (by rw[←ao,a6];exact Xds ai (XaH aj))))
 rw[hr]at e
 simp only[Prod.mk.injEq,Aa.mk.injEq]at e
 obtain⟨⟨rfl,rfl,rfl,rfl,rfl,rfl⟩,rfl⟩:=e
 refine hQ _ _ ?_
 exact .many (.inl rfl) rfl rfl (.agg (.d rfl (Bf aa B4) (.d rfl (Bf ab B8) (.d rfl (Bf ac B5) (.d rfl (Bf ad B6) (.d rfl rfl (.d rfl rfl (.nil))))))) (.d rfl rfl (.nil)))
theorem Xed(Ak:Ae.map A8=A3)(Al:Ag.map Ac=A2)(Ao:Ah.map Ac=A1)(An:Af.map cS=A4)(hn:Ae.length≤1000000000)(he:Ag.length≤1000000000)(ho:Ah.length≤1000000000)(hs:Af.length<1000000000)(hss:okS Af)(ar:La (⟨Ae,Ag,Ah,Af,Aj,Ai⟩:Aa))(hr:D2 (⟨Ae,Ag,Ah,Af,Aj,Ai⟩:Aa)=⟨onod,oent,oold,oste,oroo,onex⟩)(Xd7:onod.map A8=Xez)(Xd1:oent.map Ac=Xd8)(XdY:oold.map Ac=XdO)(Xdr:oste.map cS=XdM):Fn Tryz.prog 227 [.agg [.d (.row 3 A3),.d (.row 2 A2),.d (.row 2 A1),.d (.row 1 A4),I Aj,I Ai]] [] ⟨.agg [.d (.row 3 Xez),.d (.row 2 Xd8),.d (.row 2 XdO),.d (.row 1 XdM),I oroo,I onex],[],[]⟩:=by
 refine Fn.go Hy Tryz.func227 fun P hP Q hQ=>?_
 conv=>cbv
 obtain⟨n2,au⟩:∃m,m=Ae.length:=⟨_,rfl⟩
 obtain⟨n3,aw⟩:∃m,m=Ag.length:=⟨_,rfl⟩
 obtain⟨n4,ax⟩:∃m,m=Ah.length:=⟨_,rfl⟩
 obtain⟨n5,ay⟩:∃m,m=Af.length:=⟨_,rfl⟩
 refine .ddN hP (Kz Ak Al Ao An (by omega) (by omega) (by omega) (by omega) au aw ax ay) rfl ?_
 conv=>cbv
 generalize ai:Bw (⟨Ae,Ag,Ah,Af,Aj,Ai⟩:Aa)=r6
 refine .lnt hP (Pq Ak Al Ao An ar ai) (.agg (.ref rfl (Am Ak) (.ref rfl (Am Al) (.ref rfl (Am Ao) (.ref rfl (Am An) (.d rfl (.d rfl .nil)))))) .nil) ?_
 cases r6
 conv=>cbv
 have e:(⟨Ae,Ag,Ah,Af,Aj,Ai⟩:Aa)=D2 (⟨Ae,Ag,Ah,Af,Aj,Ai⟩:Aa):=(by unfold D2;rw[if_pos ai])
 rw[hr]at e
 simp only[Aa.mk.injEq]at e
 obtain⟨rfl,rfl,rfl,rfl,rfl,rfl⟩:=e
 exact hQ _ _ (.one (.inl rfl) rfl (.agg (.ref rfl (Am Ak) (Bn Ak Xd7) (.ref rfl (Am Al) (Bn Al Xd1) (.ref rfl (Am Ao) (Bn Ao XdY) (.ref rfl (Am An) (Bn An Xdr) (.d rfl rfl (.d rfl rfl (.nil))))))) .nil))
 conv=>cbv
 refine .sub0 Al fun a1 z7 az al=>?_
 conv=>cbv
 rcases am:Fw (⟨Ae,Ag,Ag,[],Aj,Ai⟩:Aa)with⟨ae,af,ag,ah,aj,ak⟩
 generalize aa:ae.map A8=an
 generalize ab:af.map Ac=ao
 generalize ac:ag.map Ac=ap
 generalize ad:ah.map cS=aq
 refine .lntD hP (Ph Ak Al al rfl (by omega) (by omega) (by simp) (fun _ h=>by cases h) am aa ab ac ad) (.agg (.ref rfl (Am Ak) (.ref rfl (Am Al) (.ref rfl (Am al) (.ref rfl rfl (.d rfl (.d rfl .nil)))))) .nil) ?_
 conv=>cbv
 have e:(⟨ae,af,ag,ah,aj,ak⟩:Aa)=D2 (⟨Ae,Ag,Ah,Af,Aj,Ai⟩:Aa):=(by unfold D2;rw[if_neg (by rw[ai];decide)];dsimp only;rw[←am];exact X3 (d:=⟨Ae,Ag,Ag,[],Aj,Ai⟩) trivial)
 rw[hr]at e
 simp only[Aa.mk.injEq]at e
 obtain⟨rfl,rfl,rfl,rfl,rfl,rfl⟩:=e
 exact hQ _ _ (.one (.inl rfl) rfl (.agg (.d rfl (Bf aa Xd7) (.d rfl (Bf ab Xd1) (.d rfl (Bf ac XdY) (.d rfl (Bf ad Xdr) (.d rfl rfl (.d rfl rfl (.nil))))))) .nil))
end
section
open Go Go.Proofs
set_option maxRecDepth 20000
set_option maxHeartbeats 4000000
def Xck:List (Nat×TyRow):=[ty3,ty9,W8,Xjp,Xl6]
theorem Xb8:Cb Tryz.prog Xck:=Cb.of (by kernel_rfl)
theorem Pm:Setup Tryz.prog Xck:=⟨Xb8,mixed⟩
theorem XeJ{α:Type}{f:α→Int}(h0:∀x,0≤f x):∀{l:List α} {x:α},x∈l→∀a,a+f x≤(l.map f).foldl (·+·) a
 |[],_,h,_=>by cases h
 |y::l,x,h,a=>by
  rw[List.map_cons,List.foldl_cons]
  rcases List.mem_cons.1 h with rfl|h
  ·exact Xef h0
  ·have h1:=XeJ h0 h (a+f y)
   have:=h0 y
   omega
theorem Xkc{d:Aa}{n:Be}(h:n∈d.nodes_):(n.text_.size:Int)≤F3 d:=by
 have:=XeJ (f:=fun n:Be=>(n.text_.size:Int)) (fun x=>by omega) h 0
 unfold F3 XlI
 omega
theorem XiV{d:Aa}{i:Int}{x:Be}(h:La d)(hx:x.text_.size≤1000000000):La (Xl0 d i x):=by
 obtain⟨⟨h1,h2,h3⟩,h4⟩:=h
 refine⟨⟨by show(d.nodes_.set _ _).length≤_;rw[List.length_set];exact h1,?_,h3⟩,h4⟩
 intro n hn
 rcases List.mem_or_eq_of_mem_set hn with hn|rfl
 ·exact h2 n hn
 ·exact hx
theorem XkK{d:Aa}{i:Int}(h0:0≤i)(h1:i<d.nodes_.length):gN d i∈d.nodes_:=by
 unfold gN
 have hk:i.toNat<d.nodes_.length:=by omega
 rw[←gD hk]
 exact List.getElem_mem hk
theorem Xay{d:Aa}{s:ByteArray}(h:La d)(he:d.entries_.length≤1000000)(hs:s.size≤1000000000)(hl:d.steps_.length<1000000000):La (Mr d s):=by
 obtain⟨⟨h1,h2,h3,h4,h5,h6⟩,h7,h8⟩:=h
 obtain⟨e,b,hy⟩:∃e b,At d.entries_ s=(e,b):=⟨_,_,rfl⟩
 have hlen:=Q4 hy
 have hok:=Y8 (l:=d.entries_) h4 hs hy
 unfold Mr
 rw[hy]
 refine⟨⟨?_,?_,by show e.length≤_;omega,hok,h5,by rw[List.length_append,List.length_singleton];omega⟩,h7,Rk h8 hs⟩
 ·exact Nat.le_trans (List.length_filter_le _ _) h1
 ·intro n hn
  exact h2 n (List.mem_filter.1 hn).1
def okG(d d':Aa):Prop:=La d'∧d'.steps_.length≤d.steps_.length+1
theorem Ig{d:Aa}(h:La d):okG d d:=⟨h,Nat.le_succ _⟩
theorem Ya{d:Aa}(h:Bw d=true):d.entries_.length≤16:=Zm (Sf h).2.2
section
variable {d:Aa} {name text a b:ByteArray}
theorem XiE(h:La d)(hl:d.steps_.length<1000000000)(hm:name.size≤500000000):okG d (Ay d name).1:=by
 unfold Ay
 split
 ·exact Ig h
 ·rename_i hr
  have hr:=by simpa using hr
  split
  ·exact Ig h
  ·split
   ·exact Ig h
   ·split
    ·exact Ig h
    ·rename_i hc
     have hri:=I4 hr
     have hz:=Sz (rfl:Co d.next_=_) (by unfold Zf;omega)
     refine⟨Xay ?_ (by show d.entries_.length≤_;omega) ?_ hl,by show(d.steps_++[_]).length≤_;rw[List.length_append];exact Nat.le_refl _⟩
     ·obtain⟨⟨h1,h2,h3⟩,h4⟩:=h
      refine⟨⟨by show(d.nodes_++[_]).length≤_;rw[List.length_append,List.length_singleton];omega,?_,h3⟩,h4⟩
      intro n hn
      rcases List.mem_append.1 hn with hn|hn
      ·exact h2 n hn
      ·rw[List.mem_singleton.1 hn]
       exact Nat.zero_le _
     ·simp only[ByteArray.size_append,Bh,List.length_singleton]
      omega
theorem XhX(h:La d)(hl:d.steps_.length<1000000000)(hm:name.size≤500000000):okG d (Da d name).1:=by
 unfold Da
 split
 ·exact Ig h
 ·rename_i hr
  have hr:Bw d=true:=by
   cases hc:Bw d
   ·exact absurd (.inl hc) hr
   ·rfl
  refine⟨Xay h (by have:=Ya hr;omega) ?_ hl,by show(d.steps_++[_]).length≤_;rw[List.length_append];exact Nat.le_refl _⟩
  simp only[ByteArray.size_append,Bh,List.length_singleton]
  omega
theorem XhV(h:La d)(hl:d.steps_.length<1000000000)(ha:a.size≤400000000)(hb:b.size≤400000000):okG d (Cd d a b).1:=by
 unfold Cd
 split
 ·exact Ig h
 ·rename_i hr
  have hr:Bw d=true:=by
   cases hc:Bw d
   ·exact absurd (.inl hc) hr
   ·rfl
  split
  ·exact Ig h
  ·refine⟨Xay h (by have:=Ya hr;omega) ?_ hl,by show(d.steps_++[_]).length≤_;rw[List.length_append];exact Nat.le_refl _⟩
   simp only[ByteArray.size_append,Bh,List.length_singleton]
   omega
theorem Xh2(h:La d):okG d (Ce d name text).1:=by
 unfold Ce
 split
 ·exact Ig h
 ·rename_i hr
  have hk:0≤De d name:=Int.not_lt.1 fun k=>hr (.inr k)
  have hr:Bw d=true:=by
   cases hc:Bw d
   ·exact absurd (.inl hc) hr
   ·rfl
  have hri:=I4 hr
  have hu:=Xkc (XkK hk (Ic rfl).2)
  refine⟨XiV h ?_,Nat.le_succ _⟩
  show((gN d (De d name)).text_++text.extract 0 _).size≤_
  rw[ByteArray.size_append,ByteArray.size_extract]
  omega
theorem Xlu(h:La d):okG d (Ds d name).1:=by
 unfold Ds
 split
 ·exact Ig h
 ·rename_i hr
  have hk:0≤De d name:=Int.not_lt.1 fun k=>hr (.inr k)
  refine⟨XiV (i:=De d name) h ?_,Nat.le_succ _⟩
  show(gN d (De d name)).text_.size≤_
  exact h.1.2.1 _ (XkK hk (Ic rfl).2)
theorem XjL(h:La d):okG d (D2 d):=by
 unfold D2
 split
 ·exact Ig h
 ·obtain⟨⟨h1,h2,h3,h4,h5,h6⟩,h7,h8⟩:=h
  refine⟨⟨⟨Nat.le_trans (List.length_filter_le _ _) h1,fun n hn=>h2 n (List.mem_filter.1 hn).1,h3,h4,h3,Nat.zero_le _⟩,h4,fun _ hs=>by cases hs⟩,Nat.zero_le _⟩
end
def Dy(d:Aa)(x:TOp):Aa×Int:=if x.kind_=1 then Da d x.name_ else if x.kind_=2 then Ay d x.name_ else if x.kind_=3 then Ce d x.name_ x.text_ else if x.kind_=4 then Ds d x.name_ else if x.kind_=5 then Cd d x.name_ x.to_ else if x.kind_=6 then(D2 d,0)else(d,1)
def okO(x:TOp):Prop:=x.name_.size≤400000000∧x.to_.size≤400000000∧x.text_.size≤1000000000
theorem Zr{d:Aa}{x:TOp}(h:La d)(hl:d.steps_.length<1000000000)(hx:okO x):okG d (Dy d x).1:=by
 unfold okO at hx
 unfold Dy
 split
 ·exact XhX h hl (by omega)
 ·split
  ·exact XiE h hl (by omega)
  ·split
   ·exact Xh2 h
   ·split
    ·exact Xlu h
    ·split
     ·exact XhV h hl (by omega) (by omega)
     ·split
      ·exact XjL h
      ·exact Ig h
def Zq:Aa→List TOp→Aa×Int
 |d,[]=>(d,0)
 |d,x::l=>if(Dy d x).2=0 then Zq (Dy d x).1 l else Dy d x
def H4(d:Aa)(l:List TOp)(n:Int):Aa×Int:=Zq d (l.take (Dv n 0 l.length).toNat)
theorem XfG:∀{l:List TOp} {d:Aa},La d→d.steps_.length+l.length≤1000000000→(∀x∈l,okO x)→La (Zq d l).1∧(Zq d l).1.steps_.length≤d.steps_.length+l.length
 |[],d,h,_,_=>⟨h,Nat.le_refl _⟩
 |x::l,d,h,hl,hx=>by
  rw[List.length_cons]at hl
  have h1:=Zr h (by omega) (hx x List.mem_cons_self)
  have h2:=h1.2
  unfold Zq
  split
  ·have h3:=XfG (l:=l) h1.1 (by omega) fun y hy=>hx y (List.mem_cons_of_mem _ hy)
   refine⟨h3.1,?_⟩
   rw[List.length_cons]
   omega
  ·refine⟨h1.1,?_⟩
   rw[List.length_cons]
   omega
theorem X8{d:Aa}{l:List TOp}{k:Nat}{x:TOp}(hk:k<l.length)(hx:x=l[k]):Zq d (l.drop k)=if(Dy d x).2=0 then Zq (Dy d x).1 (l.drop (k+1))else Dy d x:=by
 rw[List.drop_eq_getElem_cons hk,←hx]
 rfl
def Xcj(d:Aa)(v n:Int):Aa:=(H4 d (Fo d v) n).1
variable {Ae Gz:List Be} {A3 A2 A1 A4 Eb Ed Ec Ee xlist:List (List D)} {Ag Ah Gv Gx:List Ad} {Af Gy:List ByteArray} {Aj Ai xkin Gt Gu ob n:Int} {xnam xto xtex:ByteArray} {list:List TOp}
theorem XlN(Ak:Ae.map A8=A3)(Al:Ag.map Ac=A2)(Ao:Ah.map Ac=A1)(An:Af.map cS=A4)(aa:La (⟨Ae,Ag,Ah,Af,Aj,Ai⟩:Aa))(hs:Af.length<1000000000)(hx:okO (⟨xkin,xnam,xto,xtex⟩:TOp))(hr:Dy (⟨Ae,Ag,Ah,Af,Aj,Ai⟩:Aa) (⟨xkin,xnam,xto,xtex⟩:TOp)=(⟨Gz,Gv,Gx,Gy,Gt,Gu⟩,ob))(B4:Gz.map A8=Eb)(B8:Gv.map Ac=Ed)(B5:Gx.map Ac=Ec)(B6:Gy.map cS=Ee):Fn Tryz.prog 205 [.agg [.d (.row 3 A3),.d (.row 2 A2),.d (.row 2 A1),.d (.row 1 A4),I Aj,I Ai],.agg [I xkin,S xnam,S xto,S xtex]] [] ⟨.tup [.agg [.d (.row 3 Eb),.d (.row 2 Ed),.d (.row 2 Ec),.d (.row 1 Ee),I Gt,I Gu],I ob],[],[]⟩:=by
 refine Fn.go Pm Tryz.func205 fun P hP Q hQ=>?_
 conv=>cbv
 have dg:Ae.length≤1000000000:=aa.1.1
 have dh:Ag.length≤1000000000:=aa.1.2.2.1
 have di:Ah.length≤1000000000:=aa.1.2.2.2.2.1
 have hx3:xnam.size≤400000000∧xto.size≤400000000∧xtex.size≤1000000000:=hx
 refine .eql (fun h1=>?_) fun h1=>?_
 conv=>cbv
 rcases cc:Da (⟨Ae,Ag,Ah,Af,Aj,Ai⟩:Aa) xnam with⟨⟨ay,az,a1,a2,bz,b0⟩,c8⟩
 generalize ab:ay.map A8=cd
 generalize ac:az.map Ac=ce
 generalize ad:a1.map Ac=cf
 generalize ae:a2.map cS=cg
 refine .dd hP (Xbm Ak Al Ao An aa.1.1 aa.1.2.2.1 aa.1.2.2.2.2.1 hs aa.2.2 aa (by omega) cc ab ac ad ae) ?_
 conv=>cbv
 have e:((⟨ay,az,a1,a2,bz,b0⟩:Aa),c8)=Dy (⟨Ae,Ag,Ah,Af,Aj,Ai⟩:Aa) (⟨xkin,xnam,xto,xtex⟩:TOp):=(by unfold Dy;dsimp only;rw[if_pos h1];exact cc.symm)
 rw[hr]at e
 simp only[Prod.mk.injEq,Aa.mk.injEq]at e
 obtain⟨⟨rfl,rfl,rfl,rfl,rfl,rfl⟩,rfl⟩:=e
 refine hQ _ _ ?_
 exact .many (.inl rfl) rfl rfl (.agg (.d rfl (Bf ab B4) (.d rfl (Bf ac B8) (.d rfl (Bf ad B5) (.d rfl (Bf ae B6) (.d rfl rfl (.d rfl rfl (.nil))))))) (.d rfl rfl (.nil)))
 conv=>cbv
 refine .eql (fun h2=>?_) fun h2=>?_
 conv=>cbv
 rcases ch:Ay (⟨Ae,Ag,Ah,Af,Aj,Ai⟩:Aa) xnam with⟨⟨a6,a7,a8,ba,b2,b3⟩,c9⟩
 generalize af:a6.map A8=ci
 generalize ag:a7.map Ac=cj
 generalize ah:a8.map Ac=ck
 generalize ai:ba.map cS=cm
 refine .dd hP (Xbo Ak Al Ao An aa.1.1 aa.1.2.2.1 aa.1.2.2.2.2.1 hs aa.2.2 aa (by omega) ch af ag ah ai) ?_
 conv=>cbv
 have e:((⟨a6,a7,a8,ba,b2,b3⟩:Aa),c9)=Dy (⟨Ae,Ag,Ah,Af,Aj,Ai⟩:Aa) (⟨xkin,xnam,xto,xtex⟩:TOp):=(by unfold Dy;dsimp only;rw[if_neg h1,if_pos h2];exact ch.symm)
 rw[hr]at e
 simp only[Prod.mk.injEq,Aa.mk.injEq]at e
 obtain⟨⟨rfl,rfl,rfl,rfl,rfl,rfl⟩,rfl⟩:=e
 refine hQ _ _ ?_
 exact .many (.inl rfl) rfl rfl (.agg (.d rfl (Bf af B4) (.d rfl (Bf ag B8) (.d rfl (Bf ah B5) (.d rfl (Bf ai B6) (.d rfl rfl (.d rfl rfl (.nil))))))) (.d rfl rfl (.nil)))
 conv=>cbv
 refine .eql (fun h3=>?_) fun h3=>?_
 conv=>cbv
 rcases cn:Ce (⟨Ae,Ag,Ah,Af,Aj,Ai⟩:Aa) xnam xtex with⟨⟨bb,bc,bd,be,b4,b5⟩,da⟩
 generalize aj:bb.map A8=co
 generalize ak:bc.map Ac=cp
 generalize al:bd.map Ac=cq
 generalize am:be.map cS=cr
 refine .dd hP (Xbp Ak Al Ao An aa.1.1 aa.1.2.2.1 aa.1.2.2.2.2.1 hs aa.2.2 aa (by omega) cn aj ak al am) ?_
 conv=>cbv
 have e:((⟨bb,bc,bd,be,b4,b5⟩:Aa),da)=Dy (⟨Ae,Ag,Ah,Af,Aj,Ai⟩:Aa) (⟨xkin,xnam,xto,xtex⟩:TOp):=(by unfold Dy;dsimp only;rw[if_neg h1,if_neg h2,if_pos h3];exact cn.symm)
 rw[hr]at e
 simp only[Prod.mk.injEq,Aa.mk.injEq]at e
 obtain⟨⟨rfl,rfl,rfl,rfl,rfl,rfl⟩,rfl⟩:=e
 refine hQ _ _ ?_
 exact .many (.inl rfl) rfl rfl (.agg (.d rfl (Bf aj B4) (.d rfl (Bf ak B8) (.d rfl (Bf al B5) (.d rfl (Bf am B6) (.d rfl rfl (.d rfl rfl (.nil))))))) (.d rfl rfl (.nil)))
 conv=>cbv
 refine .eql (fun h4=>?_) fun h4=>?_
 conv=>cbv
 rcases ct:Ds (⟨Ae,Ag,Ah,Af,Aj,Ai⟩:Aa) xnam with⟨⟨bf,bg,bh,bi,b6,b7⟩,db⟩
 generalize an:bf.map A8=cu
 generalize ao:bg.map Ac=cv
 generalize ap:bh.map Ac=cw
 generalize aq:bi.map cS=cx
 refine .dd hP (Xgb Ak Al Ao An aa.1.1 aa.1.2.2.1 aa.1.2.2.2.2.1 hs aa.2.2 aa ct an ao ap aq) ?_
 conv=>cbv
 have e:((⟨bf,bg,bh,bi,b6,b7⟩:Aa),db)=Dy (⟨Ae,Ag,Ah,Af,Aj,Ai⟩:Aa) (⟨xkin,xnam,xto,xtex⟩:TOp):=(by unfold Dy;dsimp only;rw[if_neg h1,if_neg h2,if_neg h3,if_pos h4];exact ct.symm)
 rw[hr]at e
 simp only[Prod.mk.injEq,Aa.mk.injEq]at e
 obtain⟨⟨rfl,rfl,rfl,rfl,rfl,rfl⟩,rfl⟩:=e
 refine hQ _ _ ?_
 exact .many (.inl rfl) rfl rfl (.agg (.d rfl (Bf an B4) (.d rfl (Bf ao B8) (.d rfl (Bf ap B5) (.d rfl (Bf aq B6) (.d rfl rfl (.d rfl rfl (.nil))))))) (.d rfl rfl (.nil)))
 conv=>cbv
 refine .eql (fun h5=>?_) fun h5=>?_
 conv=>cbv
 rcases cy:Cd (⟨Ae,Ag,Ah,Af,Aj,Ai⟩:Aa) xnam xto with⟨⟨bj,bk,bl,bm,b8,b9⟩,dc⟩
 generalize ar:bj.map A8=cz
 generalize au:bk.map Ac=c0
 generalize aw:bl.map Ac=c1
 generalize ax:bm.map cS=c2
 refine .dd hP (Xc3 Ak Al Ao An aa.1.1 aa.1.2.2.1 aa.1.2.2.2.2.1 hs aa.2.2 aa (by omega) cy ar au aw ax) ?_
 conv=>cbv
 have e:((⟨bj,bk,bl,bm,b8,b9⟩:Aa),dc)=Dy (⟨Ae,Ag,Ah,Af,Aj,Ai⟩:Aa) (⟨xkin,xnam,xto,xtex⟩:TOp):=(by unfold Dy;dsimp only;rw[if_neg h1,if_neg h2,if_neg h3,if_neg h4,if_pos h5];exact cy.symm)
 rw[hr]at e
 simp only[Prod.mk.injEq,Aa.mk.injEq]at e
 obtain⟨⟨rfl,rfl,rfl,rfl,rfl,rfl⟩,rfl⟩:=e
 refine hQ _ _ ?_
 exact .many (.inl rfl) rfl rfl (.agg (.d rfl (Bf ar B4) (.d rfl (Bf au B8) (.d rfl (Bf aw B5) (.d rfl (Bf ax B6) (.d rfl rfl (.d rfl rfl (.nil))))))) (.d rfl rfl (.nil)))
 conv=>cbv
 refine .eql (fun h6=>?_) fun h6=>?_
 conv=>cbv
 rcases c3:D2 (⟨Ae,Ag,Ah,Af,Aj,Ai⟩:Aa)with⟨bt,bu,bv,bw,ca,cb⟩
 generalize bn:bt.map A8=c4
 generalize bo:bu.map Ac=c5
 generalize bp:bv.map Ac=c6
 generalize bq:bw.map cS=c7
 refine .dd hP (Xeq Ak Al Ao An aa.1.1 aa.1.2.2.1 aa.1.2.2.2.2.1 hs aa.2.2 aa c3 bn bo bp bq) ?_
 conv=>cbv
 have e:((⟨bt,bu,bv,bw,ca,cb⟩:Aa),0)=Dy (⟨Ae,Ag,Ah,Af,Aj,Ai⟩:Aa) (⟨xkin,xnam,xto,xtex⟩:TOp):=(by unfold Dy;dsimp only;rw[if_neg h1,if_neg h2,if_neg h3,if_neg h4,if_neg h5,if_pos h6];rw[c3])
 rw[hr]at e
 simp only[Prod.mk.injEq,Aa.mk.injEq]at e
 obtain⟨⟨rfl,rfl,rfl,rfl,rfl,rfl⟩,rfl⟩:=e
 refine hQ _ _ ?_
 exact .many (.inl rfl) rfl rfl (.agg (.d rfl (Bf bn B4) (.d rfl (Bf bo B8) (.d rfl (Bf bp B5) (.d rfl (Bf bq B6) (.d rfl rfl (.d rfl rfl (.nil))))))) (.d rfl rfl (.nil)))
 conv=>cbv
 obtain⟨n8,de⟩:∃m,m=Ae.length:=⟨_,rfl⟩
 obtain⟨n9,df⟩:∃m,m=Af.length:=⟨_,rfl⟩
 refine .ddN hP (Iz Ak Al Ao An (by omega) (by omega) (by omega) (by omega) de df) rfl ?_
 conv=>cbv
 have e:((⟨Ae,Ag,Ah,Af,Aj,Ai⟩:Aa),1)=Dy (⟨Ae,Ag,Ah,Af,Aj,Ai⟩:Aa) (⟨xkin,xnam,xto,xtex⟩:TOp):=(by unfold Dy;dsimp only;rw[if_neg h1,if_neg h2,if_neg h3,if_neg h4,if_neg h5,if_neg h6])
 rw[hr]at e
 simp only[Prod.mk.injEq,Aa.mk.injEq]at e
 obtain⟨⟨rfl,rfl,rfl,rfl,rfl,rfl⟩,rfl⟩:=e
 refine hQ _ _ ?_
 exact .many (.inl rfl) rfl rfl (.agg (.ref rfl (Am Ak) (Bn Ak B4) (.d rfl (Bf Al B8) (.d rfl (Bf Ao B5) (.ref rfl (Am An) (Bn An B6) (.d rfl rfl (.d rfl rfl (.nil))))))) (.d rfl rfl (.nil)))
theorem XlL(Ak:Ae.map A8=A3)(Al:Ag.map Ac=A2)(Ao:Ah.map Ac=A1)(An:Af.map cS=A4)(aa:La (⟨Ae,Ag,Ah,Af,Aj,Ai⟩:Aa))(hs:Af.length<1000000000)(hx:okO (⟨xkin,xnam,xto,xtex⟩:TOp))(hr:Dy (⟨Ae,Ag,Ah,Af,Aj,Ai⟩:Aa) (⟨xkin,xnam,xto,xtex⟩:TOp)=(⟨Gz,Gv,Gx,Gy,Gt,Gu⟩,ob))(B4:Gz.map A8=Eb)(B8:Gv.map Ac=Ed)(B5:Gx.map Ac=Ec)(B6:Gy.map cS=Ee):Fn Tryz.prog 192 [.agg [.d (.row 3 A3),.d (.row 2 A2),.d (.row 2 A1),.d (.row 1 A4),I Aj,I Ai],.agg [I xkin,S xnam,S xto,S xtex]] [] ⟨.tup [.agg [.d (.row 3 Eb),.d (.row 2 Ed),.d (.row 2 Ec),.d (.row 1 Ee),I Gt,I Gu],I ob],[],[]⟩:=by
 refine Fn.go Pm Tryz.func192 fun P hP Q hQ=>?_
 conv=>cbv
 have di:Ae.length≤1000000000:=aa.1.1
 have dj:Ag.length≤1000000000:=aa.1.2.2.1
 have dk:Ah.length≤1000000000:=aa.1.2.2.2.2.1
 have hx3:xnam.size≤400000000∧xto.size≤400000000∧xtex.size≤1000000000:=hx
 refine .eql (fun h1=>?_) fun h1=>?_
 conv=>cbv
 rcases cc:Da (⟨Ae,Ag,Ah,Af,Aj,Ai⟩:Aa) xnam with⟨⟨ay,az,a1,a2,bz,b0⟩,da⟩
 generalize ab:ay.map A8=cd
 generalize ac:az.map Ac=ce
 generalize ad:a1.map Ac=cf
 generalize ae:a2.map cS=cg
 refine .dd hP (XcC Ak Al Ao An aa.1.1 aa.1.2.2.1 aa.1.2.2.2.2.1 hs aa.2.2 aa (by omega) cc ab ac ad ae) ?_
 conv=>cbv
 have e:((⟨ay,az,a1,a2,bz,b0⟩:Aa),da)=Dy (⟨Ae,Ag,Ah,Af,Aj,Ai⟩:Aa) (⟨xkin,xnam,xto,xtex⟩:TOp):=(by unfold Dy;dsimp only;rw[if_pos h1];exact cc.symm)
 rw[hr]at e
 simp only[Prod.mk.injEq,Aa.mk.injEq]at e
 obtain⟨⟨rfl,rfl,rfl,rfl,rfl,rfl⟩,rfl⟩:=e
 refine hQ _ _ ?_
 exact .many (.inl rfl) rfl rfl (.agg (.d rfl (Bf ab B4) (.d rfl (Bf ac B8) (.d rfl (Bf ad B5) (.d rfl (Bf ae B6) (.d rfl rfl (.d rfl rfl (.nil))))))) (.d rfl rfl (.nil)))
 conv=>cbv
 refine .eql (fun h2=>?_) fun h2=>?_
 conv=>cbv
 rcases ch:Ay (⟨Ae,Ag,Ah,Af,Aj,Ai⟩:Aa) xnam with⟨⟨a6,a7,a8,ba,b2,b3⟩,db⟩
 generalize af:a6.map A8=ci
 generalize ag:a7.map Ac=cj
 generalize ah:a8.map Ac=ck
 generalize ai:ba.map cS=cm
 refine .dd hP (Xb9 Ak Al Ao An aa.1.1 aa.1.2.2.1 aa.1.2.2.2.2.1 hs aa.2.2 aa (by omega) ch af ag ah ai) ?_
 conv=>cbv
 have e:((⟨a6,a7,a8,ba,b2,b3⟩:Aa),db)=Dy (⟨Ae,Ag,Ah,Af,Aj,Ai⟩:Aa) (⟨xkin,xnam,xto,xtex⟩:TOp):=(by unfold Dy;dsimp only;rw[if_neg h1,if_pos h2];exact ch.symm)
 rw[hr]at e
 simp only[Prod.mk.injEq,Aa.mk.injEq]at e
 obtain⟨⟨rfl,rfl,rfl,rfl,rfl,rfl⟩,rfl⟩:=e
 refine hQ _ _ ?_
 exact .many (.inl rfl) rfl rfl (.agg (.d rfl (Bf af B4) (.d rfl (Bf ag B8) (.d rfl (Bf ah B5) (.d rfl (Bf ai B6) (.d rfl rfl (.d rfl rfl (.nil))))))) (.d rfl rfl (.nil)))
 conv=>cbv
 refine .eql (fun h3=>?_) fun h3=>?_
 conv=>cbv
 rcases cn:Ce (⟨Ae,Ag,Ah,Af,Aj,Ai⟩:Aa) xnam xtex with⟨⟨bb,bc,bd,be,b4,b5⟩,dc⟩
 generalize aj:bb.map A8=co
 generalize ak:bc.map Ac=cp
 generalize al:bd.map Ac=cq
 generalize am:be.map cS=cr
 refine .dd hP (Xa6 Ak Al Ao An aa.1.1 aa.1.2.2.1 aa.1.2.2.2.2.1 hs aa.2.2 aa (by omega) cn aj ak al am) ?_
 conv=>cbv
 have e:((⟨bb,bc,bd,be,b4,b5⟩:Aa),dc)=Dy (⟨Ae,Ag,Ah,Af,Aj,Ai⟩:Aa) (⟨xkin,xnam,xto,xtex⟩:TOp):=(by unfold Dy;dsimp only;rw[if_neg h1,if_neg h2,if_pos h3];exact cn.symm)
 rw[hr]at e
 simp only[Prod.mk.injEq,Aa.mk.injEq]at e
 obtain⟨⟨rfl,rfl,rfl,rfl,rfl,rfl⟩,rfl⟩:=e
 refine hQ _ _ ?_
 exact .many (.inl rfl) rfl rfl (.agg (.d rfl (Bf aj B4) (.d rfl (Bf ak B8) (.d rfl (Bf al B5) (.d rfl (Bf am B6) (.d rfl rfl (.d rfl rfl (.nil))))))) (.d rfl rfl (.nil)))
 conv=>cbv
 refine .eql (fun h4=>?_) fun h4=>?_
 conv=>cbv
 rcases ct:Ds (⟨Ae,Ag,Ah,Af,Aj,Ai⟩:Aa) xnam with⟨⟨bf,bg,bh,bi,b6,b7⟩,de⟩
 generalize an:bf.map A8=cu
 generalize ao:bg.map Ac=cv
 generalize ap:bh.map Ac=cw
 generalize aq:bi.map cS=cx
 refine .dd hP (Xgr Ak Al Ao An aa.1.1 aa.1.2.2.1 aa.1.2.2.2.2.1 hs aa.2.2 aa ct an ao ap aq) ?_
 conv=>cbv
 have e:((⟨bf,bg,bh,bi,b6,b7⟩:Aa),de)=Dy (⟨Ae,Ag,Ah,Af,Aj,Ai⟩:Aa) (⟨xkin,xnam,xto,xtex⟩:TOp):=(by unfold Dy;dsimp only;rw[if_neg h1,if_neg h2,if_neg h3,if_pos h4];exact ct.symm)
 rw[hr]at e
 simp only[Prod.mk.injEq,Aa.mk.injEq]at e
 obtain⟨⟨rfl,rfl,rfl,rfl,rfl,rfl⟩,rfl⟩:=e
 refine hQ _ _ ?_
 exact .many (.inl rfl) rfl rfl (.agg (.d rfl (Bf an B4) (.d rfl (Bf ao B8) (.d rfl (Bf ap B5) (.d rfl (Bf aq B6) (.d rfl rfl (.d rfl rfl (.nil))))))) (.d rfl rfl (.nil)))
 conv=>cbv
 refine .eql (fun h5=>?_) fun h5=>?_
 conv=>cbv
 rcases cy:Cd (⟨Ae,Ag,Ah,Af,Aj,Ai⟩:Aa) xnam xto with⟨⟨bj,bk,bl,bm,b8,b9⟩,df⟩
 generalize ar:bj.map A8=cz
 generalize au:bk.map Ac=c0
 generalize aw:bl.map Ac=c1
 generalize ax:bm.map cS=c2
 refine .dd hP (Xcs Ak Al Ao An aa.1.1 aa.1.2.2.1 aa.1.2.2.2.2.1 hs aa.2.2 aa (by omega) cy ar au aw ax) ?_
 conv=>cbv
 have e:((⟨bj,bk,bl,bm,b8,b9⟩:Aa),df)=Dy (⟨Ae,Ag,Ah,Af,Aj,Ai⟩:Aa) (⟨xkin,xnam,xto,xtex⟩:TOp):=(by unfold Dy;dsimp only;rw[if_neg h1,if_neg h2,if_neg h3,if_neg h4,if_pos h5];exact cy.symm)
 rw[hr]at e
 simp only[Prod.mk.injEq,Aa.mk.injEq]at e
 obtain⟨⟨rfl,rfl,rfl,rfl,rfl,rfl⟩,rfl⟩:=e
 refine hQ _ _ ?_
 exact .many (.inl rfl) rfl rfl (.agg (.d rfl (Bf ar B4) (.d rfl (Bf au B8) (.d rfl (Bf aw B5) (.d rfl (Bf ax B6) (.d rfl rfl (.d rfl rfl (.nil))))))) (.d rfl rfl (.nil)))
 conv=>cbv
 refine .eql (fun h6=>?_) fun h6=>?_
 conv=>cbv
 rcases c3:D2 (⟨Ae,Ag,Ah,Af,Aj,Ai⟩:Aa)with⟨bt,bu,bv,bw,ca,cb⟩
 generalize bn:bt.map A8=c6
 generalize bo:bu.map Ac=c7
 generalize bp:bv.map Ac=c8
 generalize bq:bw.map cS=c9
 refine .dd hP (Xed Ak Al Ao An aa.1.1 aa.1.2.2.1 aa.1.2.2.2.2.1 hs aa.2.2 aa c3 bn bo bp bq) ?_
 conv=>cbv
 have e:((⟨bt,bu,bv,bw,ca,cb⟩:Aa),0)=Dy (⟨Ae,Ag,Ah,Af,Aj,Ai⟩:Aa) (⟨xkin,xnam,xto,xtex⟩:TOp):=(by unfold Dy;dsimp only;rw[if_neg h1,if_neg h2,if_neg h3,if_neg h4,if_neg h5,if_pos h6];rw[c3])
 rw[hr]at e
 simp only[Prod.mk.injEq,Aa.mk.injEq]at e
 obtain⟨⟨rfl,rfl,rfl,rfl,rfl,rfl⟩,rfl⟩:=e
 refine hQ _ _ ?_
 exact .many (.inl rfl) rfl rfl (.agg (.d rfl (Bf bn B4) (.d rfl (Bf bo B8) (.d rfl (Bf bp B5) (.d rfl (Bf bq B6) (.d rfl rfl (.d rfl rfl (.nil))))))) (.d rfl rfl (.nil)))
 conv=>cbv
 obtain⟨n8,dg⟩:∃m,m=Ae.length:=⟨_,rfl⟩
 obtain⟨n9,dh⟩:∃m,m=Ag.length:=⟨_,rfl⟩
 obtain⟨dl,c4⟩:∃m,m=Ah.length:=⟨_,rfl⟩
 obtain⟨dm,c5⟩:∃m,m=Af.length:=⟨_,rfl⟩
 refine .ddN hP (Kz Ak Al Ao An (by omega) (by omega) (by omega) (by omega) dg dh c4 c5) rfl ?_
 conv=>cbv
 have e:((⟨Ae,Ag,Ah,Af,Aj,Ai⟩:Aa),1)=Dy (⟨Ae,Ag,Ah,Af,Aj,Ai⟩:Aa) (⟨xkin,xnam,xto,xtex⟩:TOp):=(by unfold Dy;dsimp only;rw[if_neg h1,if_neg h2,if_neg h3,if_neg h4,if_neg h5,if_neg h6])
 rw[hr]at e
 simp only[Prod.mk.injEq,Aa.mk.injEq]at e
 obtain⟨⟨rfl,rfl,rfl,rfl,rfl,rfl⟩,rfl⟩:=e
 refine hQ _ _ ?_
 exact .many (.inl rfl) rfl rfl (.agg (.ref rfl (Am Ak) (Bn Ak B4) (.ref rfl (Am Al) (Bn Al B8) (.ref rfl (Am Ao) (Bn Ao B5) (.ref rfl (Am An) (Bn An B6) (.d rfl rfl (.d rfl rfl (.nil))))))) (.d rfl rfl (.nil)))
theorem Xjy(Ak:Ae.map A8=A3)(Al:Ag.map Ac=A2)(Ao:Ah.map Ac=A1)(An:Af.map cS=A4)(hlist:list.map eOp=xlist)(bf:La (⟨Ae,Ag,Ah,Af,Aj,Ai⟩:Aa))(hs:Af.length+list.length≤900000000)(hl:∀x∈list,okO x)(hr:H4 (⟨Ae,Ag,Ah,Af,Aj,Ai⟩:Aa) list n=(⟨Gz,Gv,Gx,Gy,Gt,Gu⟩,ob))(B4:Gz.map A8=Eb)(B8:Gv.map Ac=Ed)(B5:Gx.map Ac=Ec)(B6:Gy.map cS=Ee):Fn Tryz.prog 113 [.agg [.d (.row 3 A3),.d (.row 2 A2),.d (.row 2 A1),.d (.row 1 A4),I Aj,I Ai],.d (.row 4 xlist),I n] [] ⟨.tup [.agg [.d (.row 3 Eb),.d (.row 2 Ed),.d (.row 2 Ec),.d (.row 1 Ee),I Gt,I Gu],I ob],[],[]⟩:=by
 refine Fn.go Pm Tryz.func113 fun P hP Q hQ=>?_
 conv=>cbv
 have bq:Ae.length≤1000000000:=bf.1.1
 have bh:Ag.length≤1000000000:=bf.1.2.2.1
 have bt:Ah.length≤1000000000:=bf.1.2.2.2.2.1
 refine .dd hP (Xdt Ak Al Ao An (by omega) (by omega) (by omega) (by omega)) ?_
 conv=>cbv
 refine .go hlist fun v2 bm=>?_
 conv=>cbv
 generalize bi:Dv n 0 v2=r3
 refine .dd hP (XhK bi) ?_
 conv=>cbv
 have hbr:0≤r3∧r3≤list.length:=by rw[←bi];unfold Dv;split<;>(try split)<;>(try split)<;>omega
 refine .hi hlist fun x4 hx4=>?_
 conv=>cbv
 refine .go hx4 fun v5 bu=>?_
 conv=>cbv
 refine LoopW.lp (κ:=Int×(List (List D))×(List (List D))×(List (List D))×(List (List D))×Int×Int) Pm hP [] [6,8,20,21] (fun(ak,ad,ae,af,ag,aa,ab)=>[(22,I ak)]) (fun(ak,ad,ae,af,ag,aa,ab)=>[(10,.box 40 [.d (.row 3 ad),.d (.row 2 ae),.d (.row 2 af),.d (.row 1 ag),I aa,I ab])])
  (fun(ak,ad,ae,af,ag,aa,ab)=>∃(ah:List Be) (ai:List Ad) (aj:List Ad) (ac:List ByteArray),ah.map A8=ad∧ai.map Ac=ae∧aj.map Ac=af∧ac.map cS=ag∧0≤ak∧ak≤(list.take r3.toNat).length∧La (⟨ah,ai,aj,ac,aa,ab⟩:Aa)∧ac.length≤Af.length+ak∧H4 (⟨Ae,Ag,Ah,Af,Aj,Ai⟩:Aa) list n=Zq (⟨ah,ai,aj,ac,aa,ab⟩:Aa) ((list.take r3.toNat).drop ak.toNat))
  (fun(ak,ad,ae,af,ag,aa,ab)=>((list.take r3.toNat).length - ak).toNat) (0,A3,A2,A1,A4,Aj,Ai) ⟨Ae,Ag,Ah,Af,Ak,Al,Ao,An,by omega,by omega,bf,by omega,by unfold H4;rw[←bm,bi];rfl⟩ ⟨rfl,trivial⟩ rfl ?_
 rintro⟨ak,ad,ae,af,ag,aa,ab⟩ J ⟨ah,ai,aj,ac,a2,a6,a7,a8,h0,h1,bh,hqs,hio⟩ hJ
 have htl:(list.take r3.toNat).length≤list.length:=by rw[List.length_take];omega
 conv=>cbv
 refine .lss (fun h6=>?_) fun h6=>?_
 conv=>cbv
 refine .go ak.toNat hx4 fun bg ⟨ap,aq,ba,ar⟩ bj=>?_
 conv=>cbv
 have hox:okO (⟨ap,aq,ba,ar⟩:TOp):=by rw[bj];exact hl _ (List.mem_of_mem_take (List.getElem_mem bg))
 rcases bk:Dy (⟨ah,ai,aj,ac,aa,ab⟩:Aa) (⟨ap,aq,ba,ar⟩:TOp)with⟨⟨au,aw,ax,ay,az,a1⟩,bn⟩
 generalize al:au.map A8=bb
 generalize am:aw.map Ac=bc
 generalize an:ax.map Ac=bd
 generalize ao:ay.map cS=be
 refine .dd hP (XlN a2 a6 a7 a8 bh (by omega) hox bk al am an ao) ?_
 conv=>cbv
 have hg:=Zr (d:=(⟨ah,ai,aj,ac,aa,ab⟩:Aa)) bh (by show ac.length<_;omega) hox
 have hstep:=X8 (d:=(⟨ah,ai,aj,ac,aa,ab⟩:Aa)) (x:=(⟨ap,aq,ba,ar⟩:TOp)) bg bj
 rw[bk]at hg hstep
 have bo:=hg.2
 simp only[]at bo
 refine .neq (fun h9=>?_) fun h9=>?_
 conv=>cbv
 have e:((⟨au,aw,ax,ay,az,a1⟩:Aa),bn)=H4 (⟨Ae,Ag,Ah,Af,Aj,Ai⟩:Aa) list n:=(by rw[hio,hstep];symm;exact if_neg (by omega))
 rw[hr]at e
 simp only[Prod.mk.injEq,Aa.mk.injEq]at e
 obtain⟨⟨rfl,rfl,rfl,rfl,rfl,rfl⟩,rfl⟩:=e
 refine hQ _ _ ?_
 exact .many (.inl rfl) rfl rfl (.agg (.d rfl (Bf al B4) (.d rfl (Bf am B8) (.d rfl (Bf an B5) (.d rfl (Bf ao B6) (.d rfl rfl (.d rfl rfl (.nil))))))) (.d rfl rfl (.nil)))
 conv=>cbv
 refine .add fun bl bp=>?_
 conv=>cbv
 exact .go [] (bl,bb,bc,bd,be,az,a1) (hJ _ ⟨_,_,_,_,al,am,an,ao,by omega,by omega,hg.1,by omega,by rw[hio,hstep,show bl.toNat=ak.toNat+1 by omega];exact if_pos (by omega)⟩ mlt)
 conv=>cbv
 have e:((⟨ah,ai,aj,ac,aa,ab⟩:Aa),0)=H4 (⟨Ae,Ag,Ah,Af,Aj,Ai⟩:Aa) list n:=(by rw[hio,List.drop_of_length_le (by omega)];rfl)
 rw[hr]at e
 simp only[Prod.mk.injEq,Aa.mk.injEq]at e
 obtain⟨⟨rfl,rfl,rfl,rfl,rfl,rfl⟩,rfl⟩:=e
 refine hQ _ _ ?_
 exact .many (.inl rfl) rfl rfl (.agg (.d rfl (Bf a2 B4) (.d rfl (Bf a6 B8) (.d rfl (Bf a7 B5) (.d rfl (Bf a8 B6) (.d rfl rfl (.d rfl rfl (.nil))))))) (.d rfl rfl (.nil)))
theorem Xj2(Ak:Ae.map A8=A3)(Al:Ag.map Ac=A2)(Ao:Ah.map Ac=A1)(An:Af.map cS=A4)(hlist:list.map eOp=xlist)(ba:La (⟨Ae,Ag,Ah,Af,Aj,Ai⟩:Aa))(hs:Af.length+list.length≤900000000)(hl:∀x∈list,okO x)(hr:H4 (⟨Ae,Ag,Ah,Af,Aj,Ai⟩:Aa) list n=(⟨Gz,Gv,Gx,Gy,Gt,Gu⟩,ob))(B4:Gz.map A8=Eb)(B8:Gv.map Ac=Ed)(B5:Gx.map Ac=Ec)(B6:Gy.map cS=Ee):Fn Tryz.prog 103 [.agg [.d (.row 3 A3),.d (.row 2 A2),.d (.row 2 A1),.d (.row 1 A4),I Aj,I Ai],.d (.row 4 xlist),I n] [] ⟨.tup [.agg [.d (.row 3 Eb),.d (.row 2 Ed),.d (.row 2 Ec),.d (.row 1 Ee),I Gt,I Gu],I ob],[],[]⟩:=by
 refine Fn.go Pm Tryz.func103 fun P hP Q hQ=>?_
 conv=>cbv
 have bn:Ae.length≤1000000000:=ba.1.1
 have bf:Ag.length≤1000000000:=ba.1.2.2.1
 have bo:Ah.length≤1000000000:=ba.1.2.2.2.2.1
 refine .dd hP (Xgj Ak Al Ao An (by omega) (by omega) (by omega) (by omega)) ?_
 conv=>cbv
 refine .go hlist fun v2 bk=>?_
 conv=>cbv
 generalize bg:Dv n 0 v2=r3
 refine .dd hP (Xc5 bg) ?_
 conv=>cbv
 have hbr:0≤r3∧r3≤list.length:=by rw[←bg];unfold Dv;split<;>(try split)<;>(try split)<;>omega
 refine LoopW.lp (κ:=Int×(List (List D))×(List (List D))×(List (List D))×(List (List D))×Int×Int) Pm hP [] [1,2,3,6] (fun(i8,ah,ai,aj,ak,aa,ab)=>[(8,I i8)]) (fun(i8,ah,ai,aj,ak,aa,ab)=>[(0,.box 40 [.d (.row 3 ah),.d (.row 2 ai),.d (.row 2 aj),.d (.row 1 ak),I aa,I ab])])
  (fun(i8,ah,ai,aj,ak,aa,ab)=>∃(al:List Be) (am:List Ad) (an:List Ad) (ag:List ByteArray),al.map A8=ah∧am.map Ac=ai∧an.map Ac=aj∧ag.map cS=ak∧0≤i8∧i8≤r3∧La (⟨al,am,an,ag,aa,ab⟩:Aa)∧ag.length≤Af.length+i8∧H4 (⟨Ae,Ag,Ah,Af,Aj,Ai⟩:Aa) list n=Zq (⟨al,am,an,ag,aa,ab⟩:Aa) ((list.take r3.toNat).drop i8.toNat))
  (fun(i8,ah,ai,aj,ak,aa,ab)=>(r3 - i8).toNat) (0,A3,A2,A1,A4,Aj,Ai) ⟨Ae,Ag,Ah,Af,Ak,Al,Ao,An,by omega,by omega,ba,by omega,by unfold H4;rw[←bk,bg];rfl⟩ ⟨rfl,trivial⟩ rfl ?_
 rintro⟨i8,ah,ai,aj,ak,aa,ab⟩ J ⟨al,am,an,ag,bb,bc,bd,be,h0,h1,bf,hqs,hio⟩ hJ
 have htl:(list.take r3.toNat).length≤list.length:=by rw[List.length_take];omega
 conv=>cbv
 refine .lss (fun h4=>?_) fun h4=>?_
 conv=>cbv
 refine .go i8.toNat hlist fun bh ⟨ao,ap,a1,aq⟩ bi=>?_
 conv=>cbv
 have hox:okO (⟨ao,ap,a1,aq⟩:TOp):=by rw[bi];exact hl _ (List.getElem_mem bh)
 rcases bj:Dy (⟨al,am,an,ag,aa,ab⟩:Aa) (⟨ao,ap,a1,aq⟩:TOp)with⟨⟨ar,au,aw,ax,ay,az⟩,bl⟩
 generalize ac:ar.map A8=a2
 generalize ad:au.map Ac=a6
 generalize ae:aw.map Ac=a7
 generalize af:ax.map cS=a8
 refine .dd hP (XlL bb bc bd be bf (by omega) hox bj ac ad ae af) ?_
 conv=>cbv
 have hg:=Zr (d:=(⟨al,am,an,ag,aa,ab⟩:Aa)) bf (by show ag.length<_;omega) hox
 have hstep:=X8 (d:=(⟨al,am,an,ag,aa,ab⟩:Aa)) (x:=(⟨ao,ap,a1,aq⟩:TOp)) (show i8.toNat<(list.take r3.toNat).length by rw[List.length_take];omega) (by rw[List.getElem_take];exact bi)
 rw[bj]at hg hstep
 have bm:=hg.2
 simp only[]at bm
 refine .neq (fun h7=>?_) fun h7=>?_
 conv=>cbv
 have e:((⟨ar,au,aw,ax,ay,az⟩:Aa),bl)=H4 (⟨Ae,Ag,Ah,Af,Aj,Ai⟩:Aa) list n:=(by rw[hio,hstep];symm;exact if_neg (by omega))
 rw[hr]at e
 simp only[Prod.mk.injEq,Aa.mk.injEq]at e
 obtain⟨⟨rfl,rfl,rfl,rfl,rfl,rfl⟩,rfl⟩:=e
 refine hQ _ _ ?_
 exact .many (.inl rfl) rfl rfl (.agg (.d rfl (Bf ac B4) (.d rfl (Bf ad B8) (.d rfl (Bf ae B5) (.d rfl (Bf af B6) (.d rfl rfl (.d rfl rfl (.nil))))))) (.d rfl rfl (.nil)))
 conv=>cbv
 refine .add fun v8 bp=>?_
 conv=>cbv
 exact .go [] (v8,a2,a6,a7,a8,ay,az) (hJ _ ⟨_,_,_,_,ac,ad,ae,af,by omega,by omega,hg.1,by omega,by rw[hio,hstep,show v8.toNat=i8.toNat+1 by omega];exact if_pos (by omega)⟩ mlt)
 conv=>cbv
 have e:((⟨al,am,an,ag,aa,ab⟩:Aa),0)=H4 (⟨Ae,Ag,Ah,Af,Aj,Ai⟩:Aa) list n:=(by rw[hio,List.drop_of_length_le (by rw[List.length_take];omega)];rfl)
 rw[hr]at e
 simp only[Prod.mk.injEq,Aa.mk.injEq]at e
 obtain⟨⟨rfl,rfl,rfl,rfl,rfl,rfl⟩,rfl⟩:=e
 refine hQ _ _ ?_
 exact .many (.inl rfl) rfl rfl (.agg (.d rfl (Bf bb B4) (.d rfl (Bf bc B8) (.d rfl (Bf bd B5) (.d rfl (Bf be B6) (.d rfl rfl (.d rfl rfl (.nil))))))) (.d rfl rfl (.nil)))
theorem XdI{n:ByteArray}(h:(A5 n).1=2∨(A5 n).1=1):n.size≤17:=by
 have h:(A5 n).1≠0:=by omega
 unfold A5 at h
 split at h
 ·split at h
  ·rename_i c;omega
  ·split at h
   ·rename_i c;omega
   ·exact absurd rfl h
 ·exact absurd rfl h
theorem XlY:(tx []).size=0:=by simp[Bh]
theorem Xa0{l:List ByteArray}(h:∀n∈l,n.size≤17):∀x∈Fq l,okO x:=by
 unfold Fq
 split
 ·simp
 ·intro x hx
  rw[List.mem_append,List.mem_map,List.mem_singleton]at hx
  unfold okO
  rcases hx with⟨n,hn,rfl⟩|rfl
  ·have:=h n hn
   exact⟨by show n.size≤_;omega,by show(tx []).size≤_;rw[XlY];omega,by show(tx []).size≤_;rw[XlY];omega⟩
  ·simp only[XlY];omega
theorem Xk7(b:Int){t:ByteArray}(h:t.size≤200000):∀x∈Gg b t,okO x:=by
 have h1:(Ap b).size≤13:=Ho rfl
 have h2:(Cl b).size≤17:=Xeb rfl
 intro x hx
 unfold Gg at hx
 simp only[List.mem_cons,List.not_mem_nil,or_false]at hx
 unfold okO
 rcases hx with rfl|rfl|rfl|rfl|rfl<;>(simp only[XlY];omega)
theorem Xh5{d:Aa}{v:Int}:∀x∈Fo d v,okO x:=by
 have hn:∀n∈Ci d,n.size≤17:=fun n h=>XdI (Xy rfl n h)
 intro x hx
 unfold Fo Zx Xau at hx
 simp only[List.mem_append,List.mem_flatMap]at hx
 rcases hx with(((⟨b,_,h⟩|h)|h)|⟨b,_,h⟩)|h
 ·have h1:(Ap b).size≤13:=Ho rfl
  unfold G5 at h
  split at h
  ·cases h
  ·rw[List.mem_singleton]at h
   subst h
   unfold okO
   simp only[XlY];omega
 ·split at h
  ·cases h
  ·rw[List.mem_singleton]at h
   subst h
   unfold okO
   simp only[XlY];omega
 ·exact Xa0 (fun n h=>hn n (List.mem_filter.1 h).1) x h
 ·unfold E8 at h
  split at h
  ·cases h
  ·exact Xk7 b (Qr rfl) x h
 ·exact Xa0 (fun n h=>hn n (List.mem_filter.1 (List.mem_reverse.1 h)).1) x h
theorem Vq{d:Aa}{v:Int}:(Fo d v).length≤100+2*d.entries_.length:=by
 unfold Fo Zx Xau
 have h1:=Gh (rfl:Dm d=_)
 have h2:(Ci d).length≤d.entries_.length:=by
  unfold Ci
  have:=List.length_filter_le (Nz (Dm d)) (d.entries_.map fun e=>e.name_)
  rw[List.length_map]at this
  exact this
 have h3:=Xe7 (fun x=>Rx (d:=d) x) (Dm d)
 have h4:=Xe7 (fun x=>Xhq (d:=d) (v:=W6 v) x) (Dm d)
 have h5:=M7 (l:=(Ci d).filter Hj)
 have h6:=M7 (l:=((Ci d).filter (fun n=>!Hj n)).reverse)
 have h7:=List.length_filter_le Hj (Ci d)
 have h8:=List.length_filter_le (fun n=>!Hj n) (Ci d)
 rw[List.length_reverse]at h6
 have h9:(if d.steps_=[]then[]else[(⟨6,tx [],tx [],tx []⟩:TOp)]).length≤1:=by split<;>simp
 simp only[List.length_append]
 omega
end
section
open Go Go.Proofs
set_option maxRecDepth 20000
set_option maxHeartbeats 4000000
end
section
open Go Go.Proofs
set_option maxRecDepth 20000
set_option maxHeartbeats 4000000
def Xda:List (Nat×TyRow):=[ty3,X1,Xf0,W8,ty43,Xjp]
theorem XaL:Cb Tryz.prog Xda:=Cb.of (by kernel_rfl)
theorem XkF:Setup Tryz.prog Xda:=⟨XaL,mixed⟩
theorem Xhz{d:Aa}{v n:Int}(h:La d)(he:d.entries_.length≤100000000)(hs:d.steps_.length≤100000000):La (Xcj d v n):=by
 have:=Vq (d:=d) (v:=v)
 unfold Xcj H4
 exact(XfG h (by rw[List.length_take];omega) (fun x hx=>Xh5 x (List.mem_of_mem_take hx))).1
def Hf(d:Aa)(v:Int):Int:=(Fo d v).length
theorem Xi9{Ae:List Be}{A3:List (List D)}{Ag:List Ad}{A2:List (List D)}{Ah:List Ad}{A1:List (List D)}{Af:List ByteArray}{A4:List (List D)}{Aj:Int}{Ai:Int}{version:Int}{o:Int}(Ak:Ae.map A8=A3)(Al:Ag.map Ac=A2)(Ao:Ah.map Ac=A1)(An:Af.map cS=A4)(ac:La (⟨Ae,Ag,Ah,Af,Aj,Ai⟩:Aa))(hr:Hf (⟨Ae,Ag,Ah,Af,Aj,Ai⟩:Aa) version=o):Fn Tryz.prog 123 [.agg [.d (.row 3 A3),.d (.row 2 A2),.d (.row 2 A1),.d (.row 1 A4),I Aj,I Ai],I version] [] ⟨I o,[],[]⟩:=by
 refine Fn.go XkF Tryz.func123 fun P hP Q hQ=>?_
 conv=>cbv
 generalize aa:Fo (⟨Ae,Ag,Ah,Af,Aj,Ai⟩:Aa) version=l1
 generalize ab:l1.map eOp=ae
 refine .dd hP (XfZ Ak Al Ao An ac.1 aa ab) ?_
 conv=>cbv
 refine .go ab fun v2 ad=>?_
 conv=>cbv
 have e:v2=Hf (⟨Ae,Ag,Ah,Af,Aj,Ai⟩:Aa) version:=(by unfold Hf;rw[aa,ad])
 rw[hr]at e
 subst e
 exact hQ _ _ (.i rfl rfl)
end
section
open Go Go.Proofs
set_option maxRecDepth 20000
set_option maxHeartbeats 4000000
end
end Go.Proofs.YtgdmjbcllgmepaaGreatDoor.Ab
