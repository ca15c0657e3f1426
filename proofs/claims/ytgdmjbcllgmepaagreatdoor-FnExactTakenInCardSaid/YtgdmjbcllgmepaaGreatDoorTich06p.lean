/- What functions of the program come to, for all arguments in the given bounds. -/
import Derived.Test.YtgdmjbcllgmepaaGreatDoorTich06d
import Derived.Test.YtgdmjbcllgmepaaGreatDoorTiZ9
set_option linter.unusedVariables false
set_option linter.unusedSimpArgs false
namespace Go.Proofs.YtgdmjbcllgmepaaGreatDoor.Ab
section
open Go Go.Proofs
set_option maxRecDepth 20000
set_option maxHeartbeats 4000000
def Ya:List (Nat×TyRow):=[ty3,ty9,XeZ,Xa1,Yx]
theorem Y0:Bx Tryz.prog Ya:=Bx.of (by kernel_rfl)
theorem XfQ:Setup Tryz.prog Ya:=⟨Y0,mixed⟩
def Ch(d:Ac)(name:ByteArray):Ac×Int:=if Bw d=false∨Cd d name<0 then(d,3)else
 (⟨d.nodes_.set (Cd d name).toNat ⟨(d.nodes_.getD (Cd d name).toNat ⟨0,tx [],0⟩).id_,(d.nodes_.getD (Cd d name).toNat ⟨0,tx [],0⟩).text_,((d.nodes_.getD (Cd d name).toNat ⟨0,tx [],0⟩).text_.size:Int)⟩,d.entries_,d.old_,d.steps_,d.room_,d.next_⟩,0)
theorem P3{Ag:List Br}{Bo:List (List D)}{Ak:List Ai}{Bm:List (List D)}{Aj:List Ai}{Bl:List (List D)}{Ah:List ByteArray}{Bn:List (List D)}{An:Int}{Am:Int}{name:ByteArray}{Ih:List Br}{Ey:List (List D)}{In:List Ai}{Ez:List (List D)}{Ik:List Ai}{Eu:List (List D)}{Ig:List ByteArray}{Ex:List (List D)}{Ia:Int}{H7:Int}{ob:Int}(Aq:Ag.map A8=Bo)(As:Ak.map Ae=Bm)(Av:Aj.map Ae=Bl)(At:Ah.map cS=Bn)(hn:Ag.length≤1000000000)(he:Ak.length≤1000000000)(ho:Aj.length≤1000000000)(hs:Ah.length<1000000000)(hss:okS Ah)(af:Is (⟨Ag,Ak,Aj,Ah,An,Am⟩:Ac))(hr:Ch (⟨Ag,Ak,Aj,Ah,An,Am⟩:Ac) name=(⟨Ih,In,Ik,Ig,Ia,H7⟩,ob))(A6:Ih.map A8=Ey)(A5:In.map Ae=Ez)(A4:Ik.map Ae=Eu)(A7:Ig.map cS=Ex):Fn Tryz.prog 236 [.agg [.d (.row 3 Bo),.d (.row 2 Bm),.d (.row 2 Bl),.d (.row 1 Bn),I An,I Am],S name] [] ⟨.tup [.agg [.d (.row 3 Ey),.d (.row 2 Ez),.d (.row 2 Eu),.d (.row 1 Ex),I Ia,I H7],I ob],[],[]⟩:=by
 refine Fn.go XfQ Tryz.func236 fun P hP Q hQ=>?_
 conv=>cbv
 obtain⟨n2,ah⟩:∃m,m=Ag.length:=⟨_,rfl⟩
 obtain⟨n3,ai⟩:∃m,m=Ah.length:=⟨_,rfl⟩
 refine .ddN hP (Mq Aq As Av At (by omega) (by omega) (by omega) (by omega) ah ai) rfl ?_
 conv=>cbv
 generalize ab:Cd (⟨Ag,Ak,Aj,Ah,An,Am⟩:Ac) name=r4
 refine .dd hP (K4 Aq As Av At af.1 ab) ?_
 conv=>cbv
 have hb:=Gg ab
 simp only[]at hb
 generalize ad:Bw (⟨Ag,Ak,Aj,Ah,An,Am⟩:Ac)=r5
 refine .dd hP (Q5 Aq As Av At af ad) ?_
 cases r5
 conv=>cbv
 have e:((⟨Ag,Ak,Aj,Ah,An,Am⟩:Ac),3)=Ch (⟨Ag,Ak,Aj,Ah,An,Am⟩:Ac) name:=(by unfold Ch;rw[if_pos (.inl ad)])
 rw[hr]at e
 simp only[Prod.mk.injEq,Ac.mk.injEq]at e
 obtain⟨⟨rfl,rfl,rfl,rfl,rfl,rfl⟩,rfl⟩:=e
 refine hQ _ _ ?_
 exact .many (.inl rfl) rfl rfl (.agg (.ref rfl (Ap Aq) (Bk Aq A6) (.d rfl (Al As A5) (.d rfl (Al Av A4) (.ref rfl (Ap At) (Bk At A7) (.d rfl rfl (.d rfl rfl (.nil))))))) (.d rfl rfl (.nil)))
 conv=>cbv
 refine .lss (fun h6=>?_) fun h6=>?_
 conv=>cbv
 have e:((⟨Ag,Ak,Aj,Ah,An,Am⟩:Ac),3)=Ch (⟨Ag,Ak,Aj,Ah,An,Am⟩:Ac) name:=(by unfold Ch;rw[if_pos (.inr (by rw[ab];exact h6))])
 rw[hr]at e
 simp only[Prod.mk.injEq,Ac.mk.injEq]at e
 obtain⟨⟨rfl,rfl,rfl,rfl,rfl,rfl⟩,rfl⟩:=e
 refine hQ _ _ ?_
 exact .many (.inl rfl) rfl rfl (.agg (.ref rfl (Ap Aq) (Bk Aq A6) (.d rfl (Al As A5) (.d rfl (Al Av A4) (.ref rfl (Ap At) (Bk At A7) (.d rfl rfl (.d rfl rfl (.nil))))))) (.d rfl rfl (.nil)))
 conv=>cbv
 refine .go r4.toNat fun p7 aq an=>?_
 conv=>cbv
 refine .go Aq fun ao ⟨ap,ae,aj⟩ ak=>?_
 conv=>cbv
 refine .go fun v9 al=>?_
 conv=>cbv
 refine .go r4.toNat fun aa ag am=>?_
 conv=>cbv
 refine .go (⟨(Ag.getD aa ⟨0,tx [],0⟩).id_,(Ag.getD aa ⟨0,tx [],0⟩).text_,v9⟩:Br) Aq (by omega) (by rw[←gD (show aa<Ag.length by omega)];rfl) (Nat.le_refl 3) fun ar ac=>?_
 conv=>cbv
 have e:((⟨Ag.set aa (⟨(Ag.getD aa ⟨0,tx [],0⟩).id_,(Ag.getD aa ⟨0,tx [],0⟩).text_,v9⟩:Br),Ak,Aj,Ah,An,Am⟩:Ac),0)=Ch (⟨Ag,Ak,Aj,Ah,An,Am⟩:Ac) name:=(by unfold Ch;rw[if_neg (by rintro(h|h);rw[ad]at h;cases h;rw[ab]at h;omega),ab];dsimp only;have e9:ae=(Ag.getD aa ⟨0,tx [],0⟩).text_:=(by have h9:p7=aa:=(by omega);subst h9;rw[←gD (show p7<Ag.length by omega),←ak]);rw[al,e9,←ag])
 rw[hr]at e
 simp only[Prod.mk.injEq,Ac.mk.injEq]at e
 obtain⟨⟨rfl,rfl,rfl,rfl,rfl,rfl⟩,rfl⟩:=e
 refine hQ _ _ ?_
 exact .many (.inl rfl) rfl rfl (.agg (.ref rfl (Ap ac) (Bk ac A6) (.d rfl (Al As A5) (.d rfl (Al Av A4) (.ref rfl (Ap At) (Bk At A7) (.d rfl rfl (.d rfl rfl (.nil))))))) (.d rfl rfl (.nil)))
end
section
open Go Go.Proofs
set_option maxRecDepth 20000
set_option maxHeartbeats 4000000
def Xp:List (Nat×TyRow):=[ty3,ty9,Xdu,XeZ,Xdx,Xa1,Yx]
theorem Zs:Bx Tryz.prog Xp:=Bx.of (by kernel_rfl)
theorem Wf:Setup Tryz.prog Xp:=⟨Zs,mixed⟩
theorem Xbm{α:Type}{f:α→Int}(h:∀x,0≤f x):∀{l:List α} {a:Int},a≤(l.map f).foldl (·+·) a
 |[],a=>by simp
 |x::l,a=>by
  rw[List.map_cons,List.foldl_cons]
  have:=Xbm h (l:=l) (a:=a+f x)
  have:=h x
  omega
theorem XcN(d:Ac):0≤Eo d:=Xbm (f:=fun n:Br=>(n.text_.size:Int)) (fun x=>by omega)
theorem G9{d:Ac}(h:Bw d=true):0≤d.room_∧d.room_≤1000000000∧1≤d.next_∧d.next_≤1000000000∧0≤Eo d∧Eo d≤d.room_:=by
 have h1:=diskOk_iff.1 h
 exact⟨h1.1.1,h1.1.2,h1.2.1.1,h1.2.1.2,XcN d,h1.2.2.2.1⟩
def gN(d:Ac)(i:Int):Br:=d.nodes_.getD i.toNat ⟨0,tx [],0⟩
def XhU(d:Ac)(i:Int)(x:Br):Ac:=⟨d.nodes_.set i.toNat x,d.entries_,d.old_,d.steps_,d.room_,d.next_⟩
def Ao(d:Ac)(name text:ByteArray):Ac×Int:=if Bw d=false∨Cd d name<0 then(d,3)else
 (XhU d (Cd d name) ⟨(gN d (Cd d name)).id_,(gN d (Cd d name)).text_++text.extract 0 (min (text.size:Int) (d.room_ - Eo d)).toNat,(gN d (Cd d name)).sure_⟩,if d.room_ - Eo d<text.size then 5 else 0)
def Ax(d:Ac)(name:ByteArray):Ac×Int:=if Bw d=false then(d,3)else if Bf name=false then(d,1)else if 0≤A2 d.entries_ name then(d,2)else if 16≤d.entries_.length∨64≤d.nodes_.length∨1000000000≤d.next_ then(d,4)else
 (Tl ⟨d.nodes_++[⟨d.next_,tx [],0⟩],d.entries_,d.old_,d.steps_,d.room_,d.next_+1⟩ (tx [43]++name++tx [58]++Bt d.next_),0)
def Cs(d:Ac):Ac:=if Bw d=false then d else⟨Nd d.nodes_ d.entries_ [],d.entries_,d.entries_,[],d.room_,d.next_⟩
variable {Ag Ih:List Br} {Bo Bm Bl Bn Ey Ez Eu Ex:List (List D)} {Ak Aj In Ik:List Ai} {Ah Ig:List ByteArray} {An Am Ia H7 ob:Int} {name:ByteArray}
theorem Hn{text:ByteArray}(Aq:Ag.map A8=Bo)(As:Ak.map Ae=Bm)(Av:Aj.map Ae=Bl)(At:Ah.map cS=Bn)(hn:Ag.length≤1000000000)(he:Ak.length≤1000000000)(ho:Aj.length≤1000000000)(hs:Ah.length<1000000000)(hss:okS Ah)(ah:Is (⟨Ag,Ak,Aj,Ah,An,Am⟩:Ac))(ht:text.size≤1000000000)(hr:Ao (⟨Ag,Ak,Aj,Ah,An,Am⟩:Ac) name text=(⟨Ih,In,Ik,Ig,Ia,H7⟩,ob))(A6:Ih.map A8=Ey)(A5:In.map Ae=Ez)(A4:Ik.map Ae=Eu)(A7:Ig.map cS=Ex):Fn Tryz.prog 233 [.agg [.d (.row 3 Bo),.d (.row 2 Bm),.d (.row 2 Bl),.d (.row 1 Bn),I An,I Am],S name,S text] [] ⟨.tup [.agg [.d (.row 3 Ey),.d (.row 2 Ez),.d (.row 2 Eu),.d (.row 1 Ex),I Ia,I H7],I ob],[],[]⟩:=by
 refine Fn.go Wf Tryz.func233 fun P hP Q hQ=>?_
 conv=>cbv
 obtain⟨n2,au⟩:∃m,m=Ag.length:=⟨_,rfl⟩
 obtain⟨n3,aw⟩:∃m,m=Ah.length:=⟨_,rfl⟩
 refine .ddN hP (Mq Aq As Av At (by omega) (by omega) (by omega) (by omega) au aw) rfl ?_
 conv=>cbv
 generalize ac:Cd (⟨Ag,Ak,Aj,Ah,An,Am⟩:Ac) name=r4
 refine .dd hP (K4 Aq As Av At ah.1 ac) ?_
 conv=>cbv
 have hb:=Gg ac
 simp only[]at hb
 generalize ae:Bw (⟨Ag,Ak,Aj,Ah,An,Am⟩:Ac)=r5
 refine .dd hP (Q5 Aq As Av At ah ae) ?_
 cases r5
 conv=>cbv
 have e:((⟨Ag,Ak,Aj,Ah,An,Am⟩:Ac),3)=Ao (⟨Ag,Ak,Aj,Ah,An,Am⟩:Ac) name text:=(by unfold Ao;rw[if_pos (.inl ae)])
 rw[hr]at e
 simp only[Prod.mk.injEq,Ac.mk.injEq]at e
 obtain⟨⟨rfl,rfl,rfl,rfl,rfl,rfl⟩,rfl⟩:=e
 refine hQ _ _ ?_
 exact .many (.inl rfl) rfl rfl (.agg (.ref rfl (Ap Aq) (Bk Aq A6) (.d rfl (Al As A5) (.d rfl (Al Av A4) (.ref rfl (Ap At) (Bk At A7) (.d rfl rfl (.d rfl rfl (.nil))))))) (.d rfl rfl (.nil)))
 conv=>cbv
 refine .lss (fun h6=>?_) fun h6=>?_
 conv=>cbv
 have e:((⟨Ag,Ak,Aj,Ah,An,Am⟩:Ac),3)=Ao (⟨Ag,Ak,Aj,Ah,An,Am⟩:Ac) name text:=(by unfold Ao;rw[if_pos (.inr (by rw[ac];exact h6))])
 rw[hr]at e
 simp only[Prod.mk.injEq,Ac.mk.injEq]at e
 obtain⟨⟨rfl,rfl,rfl,rfl,rfl,rfl⟩,rfl⟩:=e
 refine hQ _ _ ?_
 exact .many (.inl rfl) rfl rfl (.agg (.ref rfl (Ap Aq) (Bk Aq A6) (.d rfl (Al As A5) (.d rfl (Al Av A4) (.ref rfl (Ap At) (Bk At A7) (.d rfl rfl (.d rfl rfl (.nil))))))) (.d rfl rfl (.nil)))
 conv=>cbv
 refine .go fun v7 ap=>?_
 conv=>cbv
 generalize ai:Eo (⟨Ag,Ak,Aj,Ah,An,Am⟩:Ac)=r8
 refine .dd hP (XbX Aq As Av At ah.1 ai) ?_
 conv=>cbv
 have hri:=G9 ae
 simp only[ai]at hri
 refine .sub fun v9 aq=>?_
 conv=>cbv
 refine .go fun a6 ak=>?_
 conv=>cbv
 refine .go r4.toNat fun aj a1 ax=>?_
 conv=>cbv
 refine .go Aq fun an ⟨ay,ab,ar⟩ af=>?_
 conv=>cbv
 refine .hi fun az ag=>?_
 conv=>cbv
 have a2:ab.size≤1000000000:=by have h9:=ah.1.2.1 _ (List.getElem_mem an);rw[←af]at h9;exact h9
 have a3:az.size≤text.size:=by rw[ag,ByteArray.size_extract];omega
 refine .go fun ao al a4=>?_
 conv=>cbv
 refine .go r4.toNat fun aa am a0=>?_
 conv=>cbv
 refine .go (⟨(Ag.getD aa ⟨0,tx [],0⟩).id_,ao,(Ag.getD aa ⟨0,tx [],0⟩).sure_⟩:Br) Aq (by omega) (by rw[←gD (show aa<Ag.length by omega)];rfl) (show 1+1≤3 by decide) fun a7 ad=>?_
 conv=>cbv
 refine .go fun a8 a5=>?_
 conv=>cbv
 refine .lss (fun h18=>?_) fun h18=>?_
 conv=>cbv
 have e:((⟨Ag.set aa (⟨(Ag.getD aa ⟨0,tx [],0⟩).id_,ao,(Ag.getD aa ⟨0,tx [],0⟩).sure_⟩:Br),Ak,Aj,Ah,An,Am⟩:Ac),5)=Ao (⟨Ag,Ak,Aj,Ah,An,Am⟩:Ac) name text:=(by unfold Ao;rw[if_neg (by rintro(h|h);rw[ae]at h;cases h;rw[ac]at h;omega),ac,ai];dsimp only;rw[if_pos (by omega)];unfold XhU gN;dsimp only;have e9:ab=(Ag.getD aa ⟨0,tx [],0⟩).text_:=(by have h9:aj=aa:=(by omega);subst h9;rw[←gD (show aj<Ag.length by omega),←af]);rw[←am,al,e9,ag,ak,ap,aq])
 rw[hr]at e
 simp only[Prod.mk.injEq,Ac.mk.injEq]at e
 obtain⟨⟨rfl,rfl,rfl,rfl,rfl,rfl⟩,rfl⟩:=e
 refine hQ _ _ ?_
 exact .many (.inl rfl) rfl rfl (.agg (.ref rfl (Ap ad) (Bk ad A6) (.d rfl (Al As A5) (.d rfl (Al Av A4) (.ref rfl (Ap At) (Bk At A7) (.d rfl rfl (.d rfl rfl (.nil))))))) (.d rfl rfl (.nil)))
 conv=>cbv
 have e:((⟨Ag.set aa (⟨(Ag.getD aa ⟨0,tx [],0⟩).id_,ao,(Ag.getD aa ⟨0,tx [],0⟩).sure_⟩:Br),Ak,Aj,Ah,An,Am⟩:Ac),0)=Ao (⟨Ag,Ak,Aj,Ah,An,Am⟩:Ac) name text:=(by unfold Ao;rw[if_neg (by rintro(h|h);rw[ae]at h;cases h;rw[ac]at h;omega),ac,ai];dsimp only;rw[if_neg (by omega)];unfold XhU gN;dsimp only;have e9:ab=(Ag.getD aa ⟨0,tx [],0⟩).text_:=(by have h9:aj=aa:=(by omega);subst h9;rw[←gD (show aj<Ag.length by omega),←af]);rw[←am,al,e9,ag,ak,ap,aq])
 rw[hr]at e
 simp only[Prod.mk.injEq,Ac.mk.injEq]at e
 obtain⟨⟨rfl,rfl,rfl,rfl,rfl,rfl⟩,rfl⟩:=e
 refine hQ _ _ ?_
 exact .many (.inl rfl) rfl rfl (.agg (.ref rfl (Ap ad) (Bk ad A6) (.d rfl (Al As A5) (.d rfl (Al Av A4) (.ref rfl (Ap At) (Bk At A7) (.d rfl rfl (.d rfl rfl (.nil))))))) (.d rfl rfl (.nil)))
theorem Qn(Aq:Ag.map A8=Bo)(As:Ak.map Ae=Bm)(Av:Aj.map Ae=Bl)(At:Ah.map cS=Bn)(hn:Ag.length≤1000000000)(he:Ak.length≤1000000000)(ho:Aj.length≤1000000000)(hs:Ah.length<1000000000)(hss:okS Ah)(aw:Is (⟨Ag,Ak,Aj,Ah,An,Am⟩:Ac))(hm:name.size≤1000000000)(hr:Ax (⟨Ag,Ak,Aj,Ah,An,Am⟩:Ac) name=(⟨Ih,In,Ik,Ig,Ia,H7⟩,ob))(A6:Ih.map A8=Ey)(A5:In.map Ae=Ez)(A4:Ik.map Ae=Eu)(A7:Ig.map cS=Ex):Fn Tryz.prog 237 [.agg [.d (.row 3 Bo),.d (.row 2 Bm),.d (.row 2 Bl),.d (.row 1 Bn),I An,I Am],S name] [] ⟨.tup [.agg [.d (.row 3 Ey),.d (.row 2 Ez),.d (.row 2 Eu),.d (.row 1 Ex),I Ia,I H7],I ob],[],[]⟩:=by
 refine Fn.go Wf Tryz.func237 fun P hP Q hQ=>?_
 conv=>cbv
 obtain⟨n2,ax⟩:∃m,m=Ag.length:=⟨_,rfl⟩
 obtain⟨n3,ay⟩:∃m,m=Ah.length:=⟨_,rfl⟩
 refine .ddN hP (Mq Aq As Av At (by omega) (by omega) (by omega) (by omega) ax ay) rfl ?_
 conv=>cbv
 generalize aa:Bw (⟨Ag,Ak,Aj,Ah,An,Am⟩:Ac)=r4
 refine .dd hP (Q5 Aq As Av At aw aa) ?_
 cases r4
 conv=>cbv
 have e:((⟨Ag,Ak,Aj,Ah,An,Am⟩:Ac),3)=Ax (⟨Ag,Ak,Aj,Ah,An,Am⟩:Ac) name:=(by unfold Ax;rw[if_pos aa])
 rw[hr]at e
 simp only[Prod.mk.injEq,Ac.mk.injEq]at e
 obtain⟨⟨rfl,rfl,rfl,rfl,rfl,rfl⟩,rfl⟩:=e
 refine hQ _ _ ?_
 exact .many (.inl rfl) rfl rfl (.agg (.ref rfl (Ap Aq) (Bk Aq A6) (.d rfl (Al As A5) (.d rfl (Al Av A4) (.ref rfl (Ap At) (Bk At A7) (.d rfl rfl (.d rfl rfl (.nil))))))) (.d rfl rfl (.nil)))
 conv=>cbv
 generalize ab:Bf name=r5
 refine .dd hP (Mn (by omega) ab) ?_
 cases r5
 conv=>cbv
 have e:((⟨Ag,Ak,Aj,Ah,An,Am⟩:Ac),1)=Ax (⟨Ag,Ak,Aj,Ah,An,Am⟩:Ac) name:=(by unfold Ax;rw[if_neg (by rw[aa];decide),if_pos ab])
 rw[hr]at e
 simp only[Prod.mk.injEq,Ac.mk.injEq]at e
 obtain⟨⟨rfl,rfl,rfl,rfl,rfl,rfl⟩,rfl⟩:=e
 refine hQ _ _ ?_
 exact .many (.inl rfl) rfl rfl (.agg (.ref rfl (Ap Aq) (Bk Aq A6) (.d rfl (Al As A5) (.d rfl (Al Av A4) (.ref rfl (Ap At) (Bk At A7) (.d rfl rfl (.d rfl rfl (.nil))))))) (.d rfl rfl (.nil)))
 conv=>cbv
 generalize ad:A2 Ak name=r6
 refine .dd hP (L0 As (by omega) ad) ?_
 conv=>cbv
 refine .geq (fun h7=>?_) fun h7=>?_
 conv=>cbv
 have e:((⟨Ag,Ak,Aj,Ah,An,Am⟩:Ac),2)=Ax (⟨Ag,Ak,Aj,Ah,An,Am⟩:Ac) name:=(by unfold Ax;rw[if_neg (by rw[aa];decide),if_neg (by rw[ab];decide),if_pos (by rw[ad];omega)])
 rw[hr]at e
 simp only[Prod.mk.injEq,Ac.mk.injEq]at e
 obtain⟨⟨rfl,rfl,rfl,rfl,rfl,rfl⟩,rfl⟩:=e
 refine hQ _ _ ?_
 exact .many (.inl rfl) rfl rfl (.agg (.ref rfl (Ap Aq) (Bk Aq A6) (.d rfl (Al As A5) (.d rfl (Al Av A4) (.ref rfl (Ap At) (Bk At A7) (.d rfl rfl (.d rfl rfl (.nil))))))) (.d rfl rfl (.nil)))
 conv=>cbv
 refine .go As fun v8 ba=>?_
 conv=>cbv
 refine .geq (fun h9=>?_) fun h9=>?_
 conv=>cbv
 have e:((⟨Ag,Ak,Aj,Ah,An,Am⟩:Ac),4)=Ax (⟨Ag,Ak,Aj,Ah,An,Am⟩:Ac) name:=(by unfold Ax;rw[if_neg (by rw[aa];decide),if_neg (by rw[ab];decide),if_neg (by rw[ad];omega),if_pos (by dsimp only;omega)])
 rw[hr]at e
 simp only[Prod.mk.injEq,Ac.mk.injEq]at e
 obtain⟨⟨rfl,rfl,rfl,rfl,rfl,rfl⟩,rfl⟩:=e
 refine hQ _ _ ?_
 exact .many (.inl rfl) rfl rfl (.agg (.ref rfl (Ap Aq) (Bk Aq A6) (.d rfl (Al As A5) (.d rfl (Al Av A4) (.ref rfl (Ap At) (Bk At A7) (.d rfl rfl (.d rfl rfl (.nil))))))) (.d rfl rfl (.nil)))
 conv=>cbv
 refine .go Aq fun bb a1=>?_
 conv=>cbv
 refine .geq (fun h11=>?_) fun h11=>?_
 conv=>cbv
 have e:((⟨Ag,Ak,Aj,Ah,An,Am⟩:Ac),4)=Ax (⟨Ag,Ak,Aj,Ah,An,Am⟩:Ac) name:=(by unfold Ax;rw[if_neg (by rw[aa];decide),if_neg (by rw[ab];decide),if_neg (by rw[ad];omega),if_pos (by dsimp only;omega)])
 rw[hr]at e
 simp only[Prod.mk.injEq,Ac.mk.injEq]at e
 obtain⟨⟨rfl,rfl,rfl,rfl,rfl,rfl⟩,rfl⟩:=e
 refine hQ _ _ ?_
 exact .many (.inl rfl) rfl rfl (.agg (.ref rfl (Ap Aq) (Bk Aq A6) (.d rfl (Al As A5) (.d rfl (Al Av A4) (.ref rfl (Ap At) (Bk At A7) (.d rfl rfl (.d rfl rfl (.nil))))))) (.d rfl rfl (.nil)))
 conv=>cbv
 refine .geq (fun h12=>?_) fun h12=>?_
 conv=>cbv
 have e:((⟨Ag,Ak,Aj,Ah,An,Am⟩:Ac),4)=Ax (⟨Ag,Ak,Aj,Ah,An,Am⟩:Ac) name:=(by unfold Ax;rw[if_neg (by rw[aa];decide),if_neg (by rw[ab];decide),if_neg (by rw[ad];omega),if_pos (by dsimp only;omega)])
 rw[hr]at e
 simp only[Prod.mk.injEq,Ac.mk.injEq]at e
 obtain⟨⟨rfl,rfl,rfl,rfl,rfl,rfl⟩,rfl⟩:=e
 refine hQ _ _ ?_
 exact .many (.inl rfl) rfl rfl (.agg (.ref rfl (Ap Aq) (Bk Aq A6) (.d rfl (Al As A5) (.d rfl (Al Av A4) (.ref rfl (Ap At) (Bk At A7) (.d rfl rfl (.d rfl rfl (.nil))))))) (.d rfl rfl (.nil)))
 conv=>cbv
 refine .one (⟨Am,tx [],0⟩:Br) Aq rfl fun a2 bc az ao=>?_
 conv=>cbv
 have hri:=G9 aa
 simp only[]at hri
 have hnz:=S1 ab
 refine .add fun a0 ap=>?_
 conv=>cbv
 refine .litL 1 fun bd aq a3=>?_
 conv=>cbv
 refine .litR 1 fun be ar a4=>?_
 conv=>cbv
 generalize af:Bt Am=bf
 refine .dd hP (Xae (by unfold Wz;omega) af) ?_
 conv=>cbv
 have zr17:=Pq af (by unfold Wz;omega)
 refine .go fun ae au a5=>?_
 conv=>cbv
 generalize ag:(Ay Ak ae).1=al
 generalize ah:al.map Ae=a6
 generalize am:Nd (Ag++[(⟨Am,tx [],0⟩:Br)]) Aj (Ah++[ae])=ak
 obtain⟨a7,ai⟩:∃m,m=ak.length:=⟨_,rfl⟩
 generalize ac:(ak++List.replicate ((Ag++[(⟨Am,tx [],0⟩:Br)]).length - ak.length) (⟨0,tx [],0⟩:Br)).map A8=a8
 generalize aj:(Ah++[ae]).map cS=bg
 obtain⟨a9,an⟩:∃m,m=(Ah++[ae]).length:=⟨_,rfl⟩
 refine .bx [12,14,7] [14,7] hP (Xa6 ao As Av At (by first|assumption|omega|(simp;omega)) (by first|assumption|omega|(simp;omega)) (by rw[List.length_append,List.length_singleton];omega) (by omega) (by omega) (by omega) (by omega) hss ((congrArg (List.map Ae) ag).trans ah) am ai ac aj an) rfl rfl rfl rfl ?_
 conv=>cbv
 have e:((⟨ak,al,Aj,Ah++[ae],An,a0⟩:Ac),0)=Ax (⟨Ag,Ak,Aj,Ah,An,Am⟩:Ac) name:=(by unfold Ax;rw[if_neg (by rw[aa];decide),if_neg (by rw[ab];decide),if_neg (by rw[ad];omega),if_neg (by dsimp only;omega)];unfold Tl;dsimp only;rw[show tx [43]++name++tx [58]++Bt Am=ae from(by rw[au,ar,aq,af];rfl),am,ag,ap])
 rw[hr]at e
 simp only[Prod.mk.injEq,Ac.mk.injEq]at e
 obtain⟨⟨rfl,rfl,rfl,rfl,rfl,rfl⟩,rfl⟩:=e
 refine hQ _ _ ?_
 exact .many (.inl rfl) rfl rfl (.agg (.sub rfl (by rw[←ac,List.length_map,List.length_append];omega) (by rw[←ac,←A6,ai,List.drop_zero,List.map_append,List.take_left' (by rw[List.length_map])]) (.d rfl (Al ah A5) (.d rfl (Al Av A4) (.ref rfl (Ap aj) (Bk aj A7) (.d rfl rfl (.d rfl rfl (.nil))))))) (.d rfl rfl (.nil)))
theorem Rr{onod:List Br}{F2:List (List D)}{oent:List Ai}{Fy:List (List D)}{oold:List Ai}{F3:List (List D)}{oste:List ByteArray}{Fx:List (List D)}{oroo:Int}{onex:Int}(Aq:Ag.map A8=Bo)(As:Ak.map Ae=Bm)(Av:Aj.map Ae=Bl)(At:Ah.map cS=Bn)(hn:Ag.length≤1000000000)(he:Ak.length≤1000000000)(ho:Aj.length≤1000000000)(hs:Ah.length<1000000000)(hss:okS Ah)(ag:Is (⟨Ag,Ak,Aj,Ah,An,Am⟩:Ac))(hr:Cs (⟨Ag,Ak,Aj,Ah,An,Am⟩:Ac)=⟨onod,oent,oold,oste,oroo,onex⟩)(Hl:onod.map A8=F2)(Hs:oent.map Ae=Fy)(Ho:oold.map Ae=F3)(Hr:oste.map cS=Fx):Fn Tryz.prog 239 [.agg [.d (.row 3 Bo),.d (.row 2 Bm),.d (.row 2 Bl),.d (.row 1 Bn),I An,I Am]] [] ⟨.agg [.d (.row 3 F2),.d (.row 2 Fy),.d (.row 2 F3),.d (.row 1 Fx),I oroo,I onex],[],[]⟩:=by
 refine Fn.go Wf Tryz.func239 fun P hP Q hQ=>?_
 conv=>cbv
 obtain⟨n2,ah⟩:∃m,m=Ag.length:=⟨_,rfl⟩
 obtain⟨n3,ai⟩:∃m,m=Ah.length:=⟨_,rfl⟩
 refine .ddN hP (Mq Aq As Av At (by omega) (by omega) (by omega) (by omega) ah ai) rfl ?_
 conv=>cbv
 generalize ac:Bw (⟨Ag,Ak,Aj,Ah,An,Am⟩:Ac)=r4
 refine .dd hP (Q5 Aq As Av At ag ac) ?_
 cases r4
 conv=>cbv
 have e:(⟨Ag,Ak,Aj,Ah,An,Am⟩:Ac)=Cs (⟨Ag,Ak,Aj,Ah,An,Am⟩:Ac):=(by unfold Cs;rw[if_pos ac])
 rw[hr]at e
 simp only[Ac.mk.injEq]at e
 obtain⟨rfl,rfl,rfl,rfl,rfl,rfl⟩:=e
 exact hQ _ _ (.one (.inl rfl) rfl (.agg (.ref rfl (Ap Aq) (Bk Aq Hl) (.d rfl (Al As Hs) (.d rfl (Al Av Ho) (.ref rfl (Ap At) (Bk At Hr) (.d rfl rfl (.d rfl rfl (.nil))))))) .nil))
 conv=>cbv
 generalize ae:Co Ak=l5
 generalize ad:l5.map Ae=aj
 refine .dd hP (B9 As (by omega) ae ad) ?_
 conv=>cbv
 have e5:l5=Ak:=ae.symm
 have ak:l5.length≤1000000000:=by rw[e5];exact he
 generalize af:Nd Ag l5 []=o7
 obtain⟨al,ab⟩:∃m,m=o7.length:=⟨_,rfl⟩
 generalize aa:(o7++List.replicate (Ag.length - o7.length) (⟨0,tx [],0⟩:Br)).map A8=am
 refine .bx [12,6,13] [6,13] hP (Qe Aq As ad rfl (by first|assumption|omega) (by first|assumption|omega|rfl|(simp at*;omega)) (by omega) (by omega) (by simp) (fun _ h=>by cases h) af ab aa) rfl rfl rfl rfl ?_
 conv=>cbv
 have e:(⟨o7,Ak,l5,[],An,Am⟩:Ac)=Cs (⟨Ag,Ak,Aj,Ah,An,Am⟩:Ac):=(by unfold Cs;rw[if_neg (by rw[ac];decide)];dsimp only;rw[←af,e5])
 rw[hr]at e
 simp only[Ac.mk.injEq]at e
 obtain⟨rfl,rfl,rfl,rfl,rfl,rfl⟩:=e
 exact hQ _ _ (.one (.inl rfl) rfl (.agg (.sub rfl (by rw[←aa,List.length_map,List.length_append];omega) (by rw[←aa,←Hl,ab,List.drop_zero,List.map_append,List.take_left' (by rw[List.length_map])]) (.d rfl (Al As Hs) (.d rfl (Al ad Ho) (.ref rfl rfl (by rw[←Hr];rfl) (.d rfl rfl (.d rfl rfl (.nil))))))) .nil))
end
section
open Go Go.Proofs
set_option maxRecDepth 20000
set_option maxHeartbeats 4000000
def R6:List Ai→List ByteArray→Prop
 |_,[]=>True
 |now,s::ss=>srt now∧(Ay now s).2=true∧R6 (Ay now s).1 ss
theorem Hk{now:List Ai}{s:ByteArray}{ss:List ByteArray}(h:(Ay now s).2=true):K0 now (s::ss)=K0 (Ay now s).1 ss:=if_neg (by rw[h];decide)
theorem XbK{d:Ac}:∀{l:List ByteArray} {now:List Ai},Eb d now l=true→R6 now l∧K0 now l=(d.entries_,true)∧A9 d d.entries_=true
 |[],now,h=>by
  unfold Eb at h
  rw[Bool.and_eq_true]at h
  have e:now=d.entries_:=by
   have:=h.2
   unfold Hm at this
   exact of_decide_eq_true this
  refine⟨trivial,by rw[←e];rfl,by rw[←e];exact h.1⟩
 |s::ss,now,h=>by
  unfold Eb at h
  rw[Bool.and_eq_true,Bool.and_eq_true]at h
  obtain⟨a,b,c⟩:=XbK (now:=(Ay now s).1) h.2
  exact⟨⟨Xfg h.1.1,h.1.2,a⟩,by rw[Hk h.1.2,b],c⟩
theorem Py:∀{l:List ByteArray} {now:List Ai} (k:Nat),R6 now l→R6 now (l.take k)
 |[],_,k,_=>by rw[List.take_nil];trivial
 |_::_,_,0,_=>trivial
 |_::_,_,k+1,h=>⟨h.1,h.2.1,Py k h.2.2⟩
theorem Vp{s:ByteArray}{e:List Ai}:∀{l:List ByteArray} {now:List Ai},R6 now l→K0 now l=(e,true)→srt e→(Ay e s).2=true→R6 now (l++[s])
 |[],now,_,h,hs,h2=>by
  have e1:now=e:=congrArg Prod.fst h
  rw[e1]
  exact⟨hs,h2,trivial⟩
 |x::l,now,h,h1,hs,h2=>by
  rw[Hk h.2.1]at h1
  exact⟨h.1,h.2.1,Vp h.2.2 h1 hs h2⟩
theorem Wi:∀{l:List ByteArray} {now:List Ai},R6 now l→B8 now l=K0 now l∧(K0 now l).2=true
 |[],now,_=>⟨rfl,rfl⟩
 |s::ss,now,h=>by
  obtain⟨a,b⟩:=Wi (now:=(Ay now s).1) h.2.2
  have e2:B8 now (s::ss)=B8 (Dh now s).1 ss:=if_neg (by rw[Sq h.1,h.2.1];decide)
  rw[Hk h.2.1,e2,Sq h.1,a]
  exact⟨rfl,b⟩
def V7(l:List Ai)(id:Int):Bool:=l.any fun e=>decide (e.id_=id)
def XaL(old:List Ai)(steps:List ByteArray)(id:Int):Bool:=(List.range (steps.length+1)).any fun k=>V7 (B8 old (steps.take k)).1 id
theorem Vb{id:Int}:∀{l:List ByteArray} {now:List Ai},R6 now l→(Ok now l id=true↔∃k,k≤l.length∧V7 (K0 now (l.take k)).1 id=true)
 |[],now,_=>by
  constructor
  ·intro h;exact⟨0,Nat.le_refl _,h⟩
  ·rintro⟨k,_,h⟩
   rw[List.take_nil]at h
   exact h
 |s::ss,now,h=>by
  have ih:=Vb (id:=id) (now:=(Ay now s).1) h.2.2
  show(V7 now id||Ok (Ay now s).1 ss id)=true↔_
  rw[Bool.or_eq_true,ih]
  constructor
  ·rintro(h1|⟨k,hk,h1⟩)
   ·exact⟨0,Nat.zero_le _,h1⟩
   ·refine⟨k+1,by rw[List.length_cons];omega,?_⟩
    rw[List.take_succ_cons,Hk h.2.1]
    exact h1
  ·rintro⟨k,hk,h1⟩
   cases k with
   |zero=>exact .inl h1
   |succ k=>
    rw[List.take_succ_cons,Hk h.2.1]at h1
    exact .inr ⟨k,by rw[List.length_cons]at hk;omega,h1⟩
theorem Xfo{old:List Ai}{steps:List ByteArray}(h:R6 old steps)(id:Int):XaL old steps id=Ok old steps id:=by
 rw[Bool.eq_iff_iff,Vb h]
 unfold XaL
 rw[List.any_eq_true]
 constructor
 ·rintro⟨k,hk,h1⟩
  rw[(Wi (Py k h)).1]at h1
  exact⟨k,by have:=List.mem_range.1 hk;omega,h1⟩
 ·rintro⟨k,hk,h1⟩
  refine⟨k,List.mem_range.2 (by omega),?_⟩
  rw[(Wi (Py k h)).1]
  exact h1
def Gq(d:Ac):Ac:=⟨d.nodes_.filter (fun x=>XaL d.old_ d.steps_ x.id_),d.entries_,d.old_,d.steps_,d.room_,d.next_⟩
theorem Uc{d:Ac}(h:R6 d.old_ d.steps_):Gq d=⟨Nd d.nodes_ d.old_ d.steps_,d.entries_,d.old_,d.steps_,d.room_,d.next_⟩:=by
 unfold Gq Nd
 rw[List.filter_congr fun x _=>Xfo h x.id_]
theorem Xgx{n:ByteArray}(h:Bf n=true):∀(j:Nat) x,n.data.toList[j]? =some x→x≠58:=by
 intro j x hx e
 unfold Bf at h
 rw[Bool.and_eq_true]at h
 have:=List.all_eq_true.1 h.1 x (List.mem_of_getElem? hx)
 rw[e]at this
 exact absurd this (by decide)
theorem XfJ{a b:ByteArray}(h:Bf a=true):Jq (a++tx [58]++b)=(a,b,true):=by
 have hl:(a++tx [58]++b).data.toList=a.data.toList++58::b.data.toList:=by
  rw[ByteArray.data_append,ByteArray.data_append,Array.toList_append,Array.toList_append,Nn,List.append_assoc]
  rfl
 have ha:a.data.toList.length=a.size:=Array.length_toList
 have e:Hw (a++tx [58]++b)=(a.size:Int):=by
  unfold Hw
  rw[hl,Lv _ a.size]
  ·rw[List.getElem?_append_right (by omega),ha,Nat.sub_self]
   rfl
  ·intro j hj x hx
   rw[List.getElem?_append_left (by omega)]at hx
   exact Xgx h j x hx
 unfold Jq
 rw[e,if_pos (by omega),Int.toNat_natCast]
 have hz:(a++tx [58]++b).size=a.size+1+b.size:=by rw[ByteArray.size_append,ByteArray.size_append,Bz];rfl
 have hb:b.data.toList.length=b.size:=Array.length_toList
 have e1:(a++tx [58]++b).extract 0 a.size=a:=by
  apply Kp
  rw[Cu,hl,List.drop_zero,List.take_left' ha]
 have e2:(a++tx [58]++b).extract (a.size+1) (a++tx [58]++b).size=b:=by
  apply Kp
  rw[Cu,List.take_of_length_le (by rw[Array.length_toList];exact Nat.le_refl _),hl,List.drop_append,List.drop_of_length_le (by omega),ha,Nat.add_sub_cancel_left]
  rfl
 rw[e1,e2]
theorem XaW{c:UInt8}{s:ByteArray}:(tx [c]++s).extract 1 (tx [c]++s).size=s:=by
 apply Kp
 rw[Cu,List.take_of_length_le (by rw[Array.length_toList];exact Nat.le_refl _),ByteArray.data_append,Array.toList_append,Nn]
 rfl
theorem XfZ{c:UInt8}{s:ByteArray}:(tx [c]++s).data.toList.head?=some c:=by
 rw[ByteArray.data_append,Array.toList_append,Nn]
 rfl
theorem Xiq{c:UInt8}{s:ByteArray}:tx [c]++s≠tx []:=by
 intro e
 have:=congrArg ByteArray.size e
 rw[ByteArray.size_append,Bz,Bz]at this
 simp at this
theorem XdY{l:List Ai}{n:ByteArray}{i:Int}(hn:Bf n=true)(h0:0≤i)(h1:i≤1000000000):Ay l (tx [43]++(n++tx [58]++Bt i))=(Rq l n i,true):=by
 have hc:Jq ((tx [43]++(n++tx [58]++Bt i)).extract 1 (tx [43]++(n++tx [58]++Bt i)).size)=(n,Bt i,true):=by rw[XaW];exact XfJ hn
 rw[J7 Xiq XfZ hc,Xgr h0 h1,if_neg (by rw[hn];simp)]
theorem app3(a b c d:ByteArray):a++b++c++d=a++(b++c++d):=by
 rw[ByteArray.append_assoc,ByteArray.append_assoc,ByteArray.append_assoc]
theorem Rl{d:Ac}(h:Bw d=true):R6 d.old_ d.steps_∧K0 d.old_ d.steps_=(d.entries_,true)∧A9 d d.entries_=true:=XbK (diskOk_iff.1 h).2.2.2.2
theorem Xo{d:Ac}(h:Bw d=true):srt d.entries_:=Xfg (Rl h).2.2
theorem XgK{d:Ac}{n:ByteArray}(h:Bw d=true)(hp:0≤A2 d.entries_ n):Bf n=true∧0≤Cd d n:=by
 obtain⟨hi,hq⟩:=W6 (p:=fun e=>Bv e n) (rfl:A2 d.entries_ n=_) hp
 have h1:=Xeg (Rl h).2.2 hi
 unfold Bv at hq
 rw[decide_eq_true_eq]at hq
 unfold Ec at h1
 rw[Xas hi rfl,Bool.and_eq_true,Bool.and_eq_true,decide_eq_true_eq]at h1
 refine⟨by rw[←hq];exact h1.1.2,?_⟩
 unfold Cd
 rw[if_neg (by omega)]
 unfold Ce
 rw[if_neg (by omega),←gD hi]
 exact h1.2
theorem Um{d:Ac}{n:ByteArray}(h:A2 d.entries_ n<0):Cd d n<0:=by
 unfold Cd
 rw[if_pos h]
 decide
theorem Xdg{d:Ac}{s:ByteArray}{e:List Ai}{nodes:List Br}{r x:Int}(h:Bw d=true)(hs:Ay d.entries_ s=(e,true)):Gq ⟨nodes,e,d.old_,d.steps_++[s],r,x⟩=Tl ⟨nodes,d.entries_,d.old_,d.steps_,r,x⟩ s:=by
 rw[Uc (Vp (Rl h).1 (Rl h).2.1 (Xo h) (by rw[hs]))]
 unfold Tl
 rw[hs]
theorem Xbd{d:Ac}{name:ByteArray}{nodes:List Br}{r x:Int}(h:Bw d=true)(hn:Bf name=true):Gq ⟨nodes,Dm d.entries_ ⟨name,d.next_⟩,d.old_,d.steps_++[tx [43]++name++tx [58]++Bt d.next_],r,x⟩=Tl ⟨nodes,d.entries_,d.old_,d.steps_,r,x⟩ (tx [43]++name++tx [58]++Bt d.next_):=by
 have hr:=G9 h
 rw[Xb7 (Xo h),app3]
 exact Xdg h (XdY hn (by omega) (by omega))
theorem Vq{d:Ac}{n:ByteArray}(h:0≤A2 d.entries_ n):G1 d (Ce d.entries_ n)=Cd d n:=by
 unfold Cd
 rw[if_neg (by omega)]
theorem Xhy{l:List Ai}{n:ByteArray}(h:Df l n=true):0≤A2 l n:=by
 unfold Df at h
 exact of_decide_eq_true h
theorem XcT{l:List Ai}{n:ByteArray}(h:Df l n=false):A2 l n<0:=by
 unfold Df at h
 have:=of_decide_eq_false h
 omega
theorem T1{p:Nat→Bool}{k:Nat}:(List.range (k+1)).any p=((List.range k).any p||p k):=by
 rw[List.range_succ,List.any_append]
 simp
theorem U4{old:List Ai}{steps:List ByteArray}{id:Int}{k:Nat}(hk:k≤steps.length+1)(h:true=(List.range k).any fun k=>V7 (B8 old (steps.take k)).1 id):XaL old steps id=true:=by
 obtain⟨j,hj,h1⟩:=List.any_eq_true.1 h.symm
 exact List.any_eq_true.2 ⟨j,List.mem_range.2 (by have:=List.mem_range.1 hj;omega),h1⟩
theorem Pr{l:List Ai}{k:Nat}{id:Int}(hk:k<l.length):V7 (l.take (k+1)) id=(V7 (l.take k) id||decide (l[k].id_=id)):=Xcr hk
theorem Xdr(l:List Ai)(s:ByteArray):(Dh l s).1.length≤l.length+1:=by
 unfold Dh
 split
 ·simp
 ·split
  ·exact Er rfl
  ·have h1:=I1 (rfl:De l (Bi s).1=_)
   split
   ·have h2:=Er (rfl:Dm (De l (Bi s).1) ⟨(Bi s).2.1,Ce l (Bi s).1⟩=_)
    show(Dm _ _).length≤_
    omega
   ·show(De _ _).length≤_
    omega
theorem Xfw:∀(l:List ByteArray) (now:List Ai),(B8 now l).1.length≤now.length+l.length
 |[],_=>Nat.le_refl _
 |s::l,now=>by
  have h1:=Xdr now s
  have h2:=Xfw l (Dh now s).1
  unfold B8
  split
  ·exact Nat.zero_le _
  ·rw[List.length_cons]
   omega
theorem Wd{t:ByteArray}{n:Nat}(h:t.size≤n):t.extract 0 n=t:=by
 apply Kp
 rw[Cu,List.drop_zero,List.take_of_length_le (by rw[Array.length_toList];exact h)]
end
section
open Go Go.Proofs
set_option maxRecDepth 20000
set_option maxHeartbeats 4000000
def Yt:List (Nat×TyRow):=[ty3,ty9,Xdu,XeZ,Xdx,Xa1,Yx,XaX]
theorem Yn:Bx Tryz.prog Yt:=Bx.of (by kernel_rfl)
theorem Hd:Setup Tryz.prog Yt:=⟨Yn,mixed⟩
variable {Ag onod Ih:List Br} {Bo Bm Bl Bn F2 Fy F3 Fx Ey Ez Eu Ex:List (List D)} {Ak Aj oent oold In Ik:List Ai} {Ah oste Ig:List ByteArray} {An Am oroo onex Ia H7 ob:Int} {name:ByteArray}
theorem Oi{nn ne no ns:Nat}(Aq:Ag.map A8=Bo)(As:Ak.map Ae=Bm)(Av:Aj.map Ae=Bl)(At:Ah.map cS=Bn)(hn:Ag.length≤4000000000)(he:Ak.length≤4000000000)(ho:Aj.length≤4000000000)(hs:Ah.length≤4000000000)(hnn:nn=Ag.length)(hne:ne=Ak.length)(hno:no=Aj.length)(hns:ns=Ah.length):Fn Tryz.prog 97 [.agg [.d (.row 3 Bo),.d (.row 2 Bm),.d (.row 2 Bl),.d (.row 1 Bn),I An,I Am]] [] ⟨.agg [.ref 0 0 nn,.ref 1 0 ne,.ref 2 0 no,.ref 3 0 ns,I An,I Am],[.row 3 false Bo,.row 2 false Bm,.row 2 false Bl,.row 1 false Bn],[]⟩:=by
 refine Fn.goR Hd Tryz.func97 fun P hP Q hQ=>?_
 conv=>cbv
 refine .row0 Aq fun aa z1 ai ab=>?_
 conv=>cbv
 refine .row0 As fun ac z2 aj ad=>?_
 conv=>cbv
 refine .row0 Av fun ae z3 ak af=>?_
 conv=>cbv
 refine .row0 At fun ag z4 al ah=>?_
 conv=>cbv
 obtain rfl:z1=Bo:=by rw[←ab,Aq]
 obtain rfl:z2=Bm:=by rw[←ad,As]
 obtain rfl:z3=Bl:=by rw[←af,Av]
 obtain rfl:z4=Bn:=by rw[←ah,At]
 obtain rfl:aa=nn:=by omega
 obtain rfl:ac=ne:=by omega
 obtain rfl:ae=no:=by omega
 obtain rfl:ag=ns:=by omega
 exact hQ _ _ (.of [7,9,11,13] (.inl rfl) rfl rfl rfl rfl)
theorem Uz(Aq:Ag.map A8=Bo)(As:Ak.map Ae=Bm)(Av:Aj.map Ae=Bl)(At:Ah.map cS=Bn)(hn:Ag.length≤4000000000)(he:Ak.length≤4000000000)(ho:Aj.length≤4000000000)(hs:Ah.length≤4000000000):Fn Tryz.prog 97 [.agg [.d (.row 3 Bo),.d (.row 2 Bm),.d (.row 2 Bl),.d (.row 1 Bn),I An,I Am]] [] ⟨.agg [.d (.row 3 Bo),.d (.row 2 Bm),.d (.row 2 Bl),.d (.row 1 Bn),I An,I Am],[],[]⟩:=by
 refine Fn.go Hd Tryz.func97 fun P hP Q hQ=>?_
 conv=>cbv
 refine .row0 Aq fun ai z1 ae aa=>?_
 conv=>cbv
 refine .row0 As fun aj z2 af ab=>?_
 conv=>cbv
 refine .row0 Av fun ak z3 ag ac=>?_
 conv=>cbv
 refine .row0 At fun al z4 ah ad=>?_
 conv=>cbv
 obtain rfl:z1=Bo:=by rw[←aa,Aq]
 obtain rfl:z2=Bm:=by rw[←ab,As]
 obtain rfl:z3=Bl:=by rw[←ac,Av]
 obtain rfl:z4=Bn:=by rw[←ad,At]
 exact hQ _ _ (.one (.inl rfl) rfl (.agg (.ref rfl (Ap Aq) rfl (.ref rfl (Ap As) rfl (.ref rfl (Ap Av) rfl (.ref rfl (Ap At) rfl (.d rfl rfl (.d rfl rfl .nil)))))) .nil))
theorem Uo(Aq:Ag.map A8=Bo)(As:Ak.map Ae=Bm)(Av:Aj.map Ae=Bl)(At:Ah.map cS=Bn)(hn:Ag.length≤2000000000)(hol:Aj.length≤1000000000)(hsl:Ah.length≤1000000000)(hss:okS Ah)(hr:Gq (⟨Ag,Ak,Aj,Ah,An,Am⟩:Ac)=⟨onod,oent,oold,oste,oroo,onex⟩)(Hl:onod.map A8=F2)(Hs:oent.map Ae=Fy)(Ho:oold.map Ae=F3)(Hr:oste.map cS=Fx):Fn Tryz.prog 165 [.agg [.d (.row 3 Bo),.d (.row 2 Bm),.d (.row 2 Bl),.d (.row 1 Bn),I An,I Am]] [] ⟨.agg [.d (.row 3 F2),.d (.row 2 Fy),.d (.row 2 F3),.d (.row 1 Fx),I oroo,I onex],[],[]⟩:=by
 refine Fn.go Hd Tryz.func165 fun P hP Q hQ=>?_
 conv=>cbv
 refine LoopW.lp (κ:=Int×(List (List D))×Nat) Hd hP [6] [1,2] (fun(i4,ad,ae)=>[(3,.ref 7 0 ae),(4,I i4)]) (fun(i4,ad,ae)=>[(7,.row 3 false ad)])
  (fun(i4,ad,ae)=>∃(w7:List Br),w7.map A8=ad∧ae=w7.length∧0≤i4∧i4≤Ag.length∧w7=(Ag.take i4.toNat).filter (fun x=>XaL Aj Ah x.id_)∧w7.length≤i4)
  (fun(i4,ad,ae)=>(Ag.length - i4).toNat) (0,[],0) ⟨[],rfl,rfl,by omega,by omega,by simp,by simp⟩ ⟨rfl,rfl,trivial⟩ rfl ?_
 rintro⟨i4,ad,ae⟩ J ⟨w7,ah,a6,h0,h1,hx,hxl⟩ hJ
 conv=>cbv
 refine .go Aq fun v1 a9=>?_
 conv=>cbv
 refine .lss (fun h2=>?_) fun h2=>?_
 conv=>cbv
 refine LoopW.lp (κ:=Bool×Int) Hd hP [] [1,2,3,4] (fun(b5,i6)=>[(5,B b5),(6,I i6)]) (fun(b5,i6)=>[])
  (fun(b5,i6)=>0≤i6∧i6≤Ah.length+1∧b5=(List.range i6.toNat).any (fun k=>V7 (B8 Aj (Ah.take k)).1 (Ag.getD i4.toNat ⟨0,tx [],0⟩).id_))
  (fun(b5,i6)=>(Ah.length+1 - i6).toNat) (false,0) ⟨by omega,by omega,rfl⟩ ⟨rfl,rfl,trivial⟩ rfl ?_
 rintro⟨b5,i6⟩ J1 ⟨k0,k1,hu⟩ ay
 conv=>cbv
 refine .go At fun v3 ba=>?_
 conv=>cbv
 refine .leq (fun h4=>?_) fun h4=>?_
 conv=>cbv
 cases b5
 conv=>cbv
 rcases ap:Dk Aj Ah i6 with⟨aa,az⟩
 generalize ai:aa.map Ae=a7
 have hS:B8 Aj (Ah.take i6.toNat)=(aa,az):=by rw[←Zj (by omega) (by omega)];exact ap
 have bb:aa.length≤2000000000:=by
  have:=Xfw (Ah.take i6.toNat) Aj
  rw[hS,List.length_take]at this
  simp only[]at this
  omega
 refine .dd hP (Rx Av At hol hsl hss ap ai) ?_
 conv=>cbv
 refine LoopW.lp (κ:=Bool×Int) Hd hP [] [1,2,3,4,6,7,24,25] (fun(b5,i9)=>[(5,B b5),(9,I i9)]) (fun(b5,i9)=>[])
  (fun(b5,i9)=>0≤i9∧i9≤aa.length∧b5=V7 (aa.take i9.toNat) (Ag.getD i4.toNat ⟨0,tx [],0⟩).id_)
  (fun(b5,i9)=>(aa.length - i9).toNat) (false,0) ⟨by omega,by omega,rfl⟩ ⟨rfl,rfl,trivial⟩ rfl ?_
 rintro⟨b5,i9⟩ J2 ⟨m0,m1,hb⟩ am
 conv=>cbv
 refine .go ai fun v6 bc=>?_
 conv=>cbv
 refine .lss (fun h7=>?_) fun h7=>?_
 conv=>cbv
 cases b5
 conv=>cbv
 refine .go i9.toNat ai fun al ⟨a0,a8⟩ aq=>?_
 conv=>cbv
 refine .go i4.toNat Aq fun ar ⟨au,a1,a2⟩ a3=>?_
 conv=>cbv
 have hide:(Ag.getD i4.toNat ⟨0,tx [],0⟩).id_=au:=by rw[←gD ar,←a3]
 refine .eql (fun h10=>?_) fun h10=>?_
 conv=>cbv
 refine .add fun aj aw=>?_
 conv=>cbv
 exact .go [] (true,aj) (am _ ⟨by omega,by omega,by rw[show aj.toNat=i9.toNat+1 by omega,Pr al,←aq,hide];simp only[];rw[decide_eq_true h10,Bool.or_true]⟩ mlt)
 conv=>cbv
 refine .add fun aj aw=>?_
 conv=>cbv
 exact .go [] (false,aj) (am _ ⟨by omega,by omega,by rw[show aj.toNat=i9.toNat+1 by omega,Pr al,←aq,←hb,hide];simp only[];rw[decide_eq_false h10];rfl⟩ mlt)
 conv=>cbv
 refine .add fun v8 a4=>?_
 conv=>cbv
 exact .go [] (true,v8) (am _ ⟨by omega,by omega,by rw[show v8.toNat=i9.toNat+1 by omega,Pr (show i9.toNat<aa.length by omega),←hb];rfl⟩ mlt)
 conv=>cbv
 refine .add fun v8 a4=>?_
 conv=>cbv
 exact .go [] (b5,v8) (ay _ ⟨by omega,by omega,by rw[show v8.toNat=i6.toNat+1 by omega,T1,←hu,Bool.false_or,hS];show _=V7 aa _;rw[hb,List.take_of_length_le (by omega)]⟩ mlt)
 conv=>cbv
 refine .go i4.toNat Aq fun ab ⟨ac,af,ag⟩ ak=>?_
 conv=>cbv
 refine .one (⟨ac,af,ag⟩:Br) ah rfl fun an z6 ax ao=>?_
 conv=>cbv
 refine .add fun v7 a5=>?_
 conv=>cbv
 have hid:(Ag.getD i4.toNat ⟨0,tx [],0⟩).id_=ac:=by rw[←gD ab,←ak]
 have hus:=U4 (show i6.toNat≤Ah.length+1 by omega) hu
 rw[hid]at hus
 exact .go [9] (v7,z6,an) (hJ _ ⟨_,ao,Q0,by omega,by omega,by rw[show v7.toNat=i4.toNat+1 by omega,Iz ab,←hx,←ak];simp only[];rw[hus];rfl,by rw[List.length_append,List.length_singleton];omega⟩ mlt)
 conv=>cbv
 cases b5
 conv=>cbv
 refine .add fun v5 bd=>?_
 conv=>cbv
 have hj:i4.toNat<Ag.length:=by omega
 have hus:XaL Aj Ah Ag[i4.toNat].id_=false:=by rw[gD hj (d:=⟨0,tx [],0⟩)];unfold XaL;rw[show Ah.length+1=i6.toNat by omega];exact hu.symm
 exact .go [7] (v5,ad,ae) (hJ _ ⟨_,ah,Q0,by omega,by omega,by rw[show v5.toNat=i4.toNat+1 by omega,Iz hj,←hx,hus];simp,by omega⟩ mlt)
 conv=>cbv
 refine .go i4.toNat Aq fun ab ⟨ac,af,ag⟩ ak=>?_
 conv=>cbv
 refine .one (⟨ac,af,ag⟩:Br) ah rfl fun an z6 ax ao=>?_
 conv=>cbv
 refine .add fun v7 a5=>?_
 conv=>cbv
 have hid:(Ag.getD i4.toNat ⟨0,tx [],0⟩).id_=ac:=by rw[←gD ab,←ak]
 have hus:=U4 (show i6.toNat≤Ah.length+1 by omega) hu
 rw[hid]at hus
 exact .go [9] (v7,z6,an) (hJ _ ⟨_,ao,Q0,by omega,by omega,by rw[show v7.toNat=i4.toNat+1 by omega,Iz ab,←hx,←ak];simp only[];rw[hus];rfl,by rw[List.length_append,List.length_singleton];omega⟩ mlt)
 conv=>cbv
 have e:(⟨w7,Ak,Aj,Ah,An,Am⟩:Ac)=Gq (⟨Ag,Ak,Aj,Ah,An,Am⟩:Ac):=(by unfold Gq;dsimp only;rw[hx,List.take_of_length_le (by omega)])
 rw[hr]at e
 simp only[Ac.mk.injEq]at e
 obtain⟨rfl,rfl,rfl,rfl,rfl,rfl⟩:=e
 exact hQ _ _ (.one (.inl rfl) rfl (.agg (.ref rfl (Ap ah) (Bk ah Hl) (.d rfl (Al As Hs) (.d rfl (Al Av Ho) (.d rfl (Al At Hr) (.d rfl rfl (.d rfl rfl (.nil))))))) .nil))
theorem Qs(Aq:Ag.map A8=Bo)(As:Ak.map Ae=Bm)(Av:Aj.map Ae=Bl)(At:Ah.map cS=Bn)(hn:Ag.length≤1000000000)(he:Ak.length≤1000000000)(ho:Aj.length≤1000000000)(hs:Ah.length<1000000000)(hss:okS Ah)(a6:Is (⟨Ag,Ak,Aj,Ah,An,Am⟩:Ac))(hm:name.size≤1000000000)(hr:Ax (⟨Ag,Ak,Aj,Ah,An,Am⟩:Ac) name=(⟨Ih,In,Ik,Ig,Ia,H7⟩,ob))(A6:Ih.map A8=Ey)(A5:In.map Ae=Ez)(A4:Ik.map Ae=Eu)(A7:Ig.map cS=Ex):Fn Tryz.prog 226 [.agg [.d (.row 3 Bo),.d (.row 2 Bm),.d (.row 2 Bl),.d (.row 1 Bn),I An,I Am],S name] [] ⟨.tup [.agg [.d (.row 3 Ey),.d (.row 2 Ez),.d (.row 2 Eu),.d (.row 1 Ex),I Ia,I H7],I ob],[],[]⟩:=by
 refine Fn.go Hd Tryz.func226 fun P hP Q hQ=>?_
 conv=>cbv
 obtain⟨n2,a7⟩:∃m,m=Ag.length:=⟨_,rfl⟩
 obtain⟨n3,a8⟩:∃m,m=Ak.length:=⟨_,rfl⟩
 obtain⟨n4,a9⟩:∃m,m=Aj.length:=⟨_,rfl⟩
 obtain⟨n5,ba⟩:∃m,m=Ah.length:=⟨_,rfl⟩
 refine .ddN hP (Oi Aq As Av At (by omega) (by omega) (by omega) (by omega) a7 a8 a9 ba) rfl ?_
 conv=>cbv
 generalize aa:Bw (⟨Ag,Ak,Aj,Ah,An,Am⟩:Ac)=r6
 refine .lnt hP (Rk Aq As Av At a6 aa) (.agg (.ref rfl (Ap Aq) (.ref rfl (Ap As) (.ref rfl (Ap Av) (.ref rfl (Ap At) (.d rfl (.d rfl .nil)))))) .nil) ?_
 cases r6
 conv=>cbv
 have e:((⟨Ag,Ak,Aj,Ah,An,Am⟩:Ac),3)=Ax (⟨Ag,Ak,Aj,Ah,An,Am⟩:Ac) name:=(by unfold Ax;rw[if_pos aa])
 rw[hr]at e
 simp only[Prod.mk.injEq,Ac.mk.injEq]at e
 obtain⟨⟨rfl,rfl,rfl,rfl,rfl,rfl⟩,rfl⟩:=e
 refine hQ _ _ ?_
 exact .many (.inl rfl) rfl rfl (.agg (.ref rfl (Ap Aq) (Bk Aq A6) (.ref rfl (Ap As) (Bk As A5) (.ref rfl (Ap Av) (Bk Av A4) (.ref rfl (Ap At) (Bk At A7) (.d rfl rfl (.d rfl rfl (.nil))))))) (.d rfl rfl (.nil)))
 conv=>cbv
 generalize ab:Bf name=r7
 refine .dd hP (M0 (by omega) ab) ?_
 cases r7
 conv=>cbv
 have e:((⟨Ag,Ak,Aj,Ah,An,Am⟩:Ac),1)=Ax (⟨Ag,Ak,Aj,Ah,An,Am⟩:Ac) name:=(by unfold Ax;rw[if_neg (by rw[aa];decide),if_pos ab])
 rw[hr]at e
 simp only[Prod.mk.injEq,Ac.mk.injEq]at e
 obtain⟨⟨rfl,rfl,rfl,rfl,rfl,rfl⟩,rfl⟩:=e
 refine hQ _ _ ?_
 exact .many (.inl rfl) rfl rfl (.agg (.ref rfl (Ap Aq) (Bk Aq A6) (.ref rfl (Ap As) (Bk As A5) (.ref rfl (Ap Av) (Bk Av A4) (.ref rfl (Ap At) (Bk At A7) (.d rfl rfl (.d rfl rfl (.nil))))))) (.d rfl rfl (.nil)))
 conv=>cbv
 generalize ak:Df Ak name=r8
 refine .lnt hP (On As (by omega) ak) (.ref rfl (Ap As) (.d rfl .nil)) ?_
 cases r8
 conv=>cbv
 refine .go fun v9 bl=>?_
 conv=>cbv
 refine .geq (fun h10=>?_) fun h10=>?_
 conv=>cbv
 have e:((⟨Ag,Ak,Aj,Ah,An,Am⟩:Ac),4)=Ax (⟨Ag,Ak,Aj,Ah,An,Am⟩:Ac) name:=(by unfold Ax;rw[if_neg (by rw[aa];decide),if_neg (by rw[ab];decide),if_neg (by have:=XcT ak;dsimp only;omega),if_pos (by dsimp only;omega)])
 rw[hr]at e
 simp only[Prod.mk.injEq,Ac.mk.injEq]at e
 obtain⟨⟨rfl,rfl,rfl,rfl,rfl,rfl⟩,rfl⟩:=e
 refine hQ _ _ ?_
 exact .many (.inl rfl) rfl rfl (.agg (.ref rfl (Ap Aq) (Bk Aq A6) (.ref rfl (Ap As) (Bk As A5) (.ref rfl (Ap Av) (Bk Av A4) (.ref rfl (Ap At) (Bk At A7) (.d rfl rfl (.d rfl rfl (.nil))))))) (.d rfl rfl (.nil)))
 conv=>cbv
 refine .go fun bm be=>?_
 conv=>cbv
 refine .geq (fun h12=>?_) fun h12=>?_
 conv=>cbv
 have e:((⟨Ag,Ak,Aj,Ah,An,Am⟩:Ac),4)=Ax (⟨Ag,Ak,Aj,Ah,An,Am⟩:Ac) name:=(by unfold Ax;rw[if_neg (by rw[aa];decide),if_neg (by rw[ab];decide),if_neg (by have:=XcT ak;dsimp only;omega),if_pos (by dsimp only;omega)])
 rw[hr]at e
 simp only[Prod.mk.injEq,Ac.mk.injEq]at e
 obtain⟨⟨rfl,rfl,rfl,rfl,rfl,rfl⟩,rfl⟩:=e
 refine hQ _ _ ?_
 exact .many (.inl rfl) rfl rfl (.agg (.ref rfl (Ap Aq) (Bk Aq A6) (.ref rfl (Ap As) (Bk As A5) (.ref rfl (Ap Av) (Bk Av A4) (.ref rfl (Ap At) (Bk At A7) (.d rfl rfl (.d rfl rfl (.nil))))))) (.d rfl rfl (.nil)))
 conv=>cbv
 refine .geq (fun h13=>?_) fun h13=>?_
 conv=>cbv
 have e:((⟨Ag,Ak,Aj,Ah,An,Am⟩:Ac),4)=Ax (⟨Ag,Ak,Aj,Ah,An,Am⟩:Ac) name:=(by unfold Ax;rw[if_neg (by rw[aa];decide),if_neg (by rw[ab];decide),if_neg (by have:=XcT ak;dsimp only;omega),if_pos (by dsimp only;omega)])
 rw[hr]at e
 simp only[Prod.mk.injEq,Ac.mk.injEq]at e
 obtain⟨⟨rfl,rfl,rfl,rfl,rfl,rfl⟩,rfl⟩:=e
 refine hQ _ _ ?_
 exact .many (.inl rfl) rfl rfl (.agg (.ref rfl (Ap Aq) (Bk Aq A6) (.ref rfl (Ap As) (Bk As A5) (.ref rfl (Ap Av) (Bk Av A4) (.ref rfl (Ap At) (Bk At A7) (.d rfl rfl (.d rfl rfl (.nil))))))) (.d rfl rfl (.nil)))
 conv=>cbv
 have hri:=G9 aa
 simp only[]at hri
 refine .one (⟨Am,tx [],0⟩:Br) Aq rfl fun bf bn bb ao=>?_
 conv=>cbv
 generalize ap:Dm Ak (⟨name,Am⟩:Ai)=ax
 generalize aq:ax.map Ae=bg
 refine .lntD hP (H6 As (by omega) ap aq) (.ref rfl (Ap As) (.agg (.d rfl (.d rfl .nil)) .nil)) ?_
 conv=>cbv
 have hnz:=S1 ab
 refine .litL 1 fun bo ay bh=>?_
 conv=>cbv
 refine .litR 1 fun bp az bi=>?_
 conv=>cbv
 generalize al:Bt Am=bq
 refine .dd hP (Xn (by unfold Wz;omega) al) ?_
 conv=>cbv
 have zr18:=Pq al (by unfold Wz;omega)
 refine .go fun aw a0 bj=>?_
 conv=>cbv
 refine .one aw At rfl fun bk bt bc ar=>?_
 conv=>cbv
 refine .add fun bd a1=>?_
 conv=>cbv
 rcases au:Gq (⟨Ag++[(⟨Am,tx [],0⟩:Br)],ax,Aj,Ah++[aw],An,bd⟩:Ac)with⟨ag,ah,ai,aj,am,an⟩
 generalize ac:ag.map A8=a2
 generalize ad:ah.map Ae=a3
 generalize ae:ai.map Ae=a4
 generalize af:aj.map cS=a5
 refine .lntD hP (Uo ao aq Av ar (by rw[List.length_append,List.length_singleton];omega) (by omega) (by rw[List.length_append,List.length_singleton];omega) (Xb hss (by omega)) au ac ad ae af) (.agg (.ref rfl (Ap ao) (.d rfl (.ref rfl (Ap Av) (.ref rfl (Ap ar) (.d rfl (.d rfl .nil)))))) .nil) ?_
 conv=>cbv
 have e:((⟨ag,ah,ai,aj,am,an⟩:Ac),0)=Ax (⟨Ag,Ak,Aj,Ah,An,Am⟩:Ac) name:=(by unfold Ax;rw[if_neg (by rw[aa];decide),if_neg (by rw[ab];decide),if_neg (by have:=XcT ak;dsimp only;omega),if_neg (by dsimp only;omega)];exact congrArg (fun x:Ac=>(x,(0:Int))) (au.symm.trans (by rw[←ap,a1,show aw=tx [43]++name++tx [58]++Bt Am from(by rw[a0,az,ay,al];rfl)];exact Xbd aa ab)))
 rw[hr]at e
 simp only[Prod.mk.injEq,Ac.mk.injEq]at e
 obtain⟨⟨rfl,rfl,rfl,rfl,rfl,rfl⟩,rfl⟩:=e
 refine hQ _ _ ?_
 exact .many (.inl rfl) rfl rfl (.agg (.d rfl (Al ac A6) (.d rfl (Al ad A5) (.d rfl (Al ae A4) (.d rfl (Al af A7) (.d rfl rfl (.d rfl rfl (.nil))))))) (.d rfl rfl (.nil)))
 conv=>cbv
 have e:((⟨Ag,Ak,Aj,Ah,An,Am⟩:Ac),2)=Ax (⟨Ag,Ak,Aj,Ah,An,Am⟩:Ac) name:=(by unfold Ax;rw[if_neg (by rw[aa];decide),if_neg (by rw[ab];decide),if_pos (Xhy ak)])
 rw[hr]at e
 simp only[Prod.mk.injEq,Ac.mk.injEq]at e
 obtain⟨⟨rfl,rfl,rfl,rfl,rfl,rfl⟩,rfl⟩:=e
 refine hQ _ _ ?_
 exact .many (.inl rfl) rfl rfl (.agg (.ref rfl (Ap Aq) (Bk Aq A6) (.ref rfl (Ap As) (Bk As A5) (.ref rfl (Ap Av) (Bk Av A4) (.ref rfl (Ap At) (Bk At A7) (.d rfl rfl (.d rfl rfl (.nil))))))) (.d rfl rfl (.nil)))
theorem Cy{text:ByteArray}(Aq:Ag.map A8=Bo)(As:Ak.map Ae=Bm)(Av:Aj.map Ae=Bl)(At:Ah.map cS=Bn)(hn:Ag.length≤1000000000)(he:Ak.length≤1000000000)(ho:Aj.length≤1000000000)(hs:Ah.length<1000000000)(hss:okS Ah)(aj:Is (⟨Ag,Ak,Aj,Ah,An,Am⟩:Ac))(ht:text.size≤1000000000)(hr:Ao (⟨Ag,Ak,Aj,Ah,An,Am⟩:Ac) name text=(⟨Ih,In,Ik,Ig,Ia,H7⟩,ob))(A6:Ih.map A8=Ey)(A5:In.map Ae=Ez)(A4:Ik.map Ae=Eu)(A7:Ig.map cS=Ex):Fn Tryz.prog 156 [.agg [.d (.row 3 Bo),.d (.row 2 Bm),.d (.row 2 Bl),.d (.row 1 Bn),I An,I Am],S name,S text] [] ⟨.tup [.agg [.d (.row 3 Ey),.d (.row 2 Ez),.d (.row 2 Eu),.d (.row 1 Ex),I Ia,I H7],I ob],[],[]⟩:=by
 refine Fn.go Hd Tryz.func156 fun P hP Q hQ=>?_
 conv=>cbv
 obtain⟨n2,a4⟩:∃m,m=Ag.length:=⟨_,rfl⟩
 obtain⟨n3,a5⟩:∃m,m=Ak.length:=⟨_,rfl⟩
 obtain⟨n4,a6⟩:∃m,m=Aj.length:=⟨_,rfl⟩
 obtain⟨n5,a7⟩:∃m,m=Ah.length:=⟨_,rfl⟩
 refine .ddN hP (Oi Aq As Av At (by omega) (by omega) (by omega) (by omega) a4 a5 a6 a7) rfl ?_
 conv=>cbv
 generalize ah:Bw (⟨Ag,Ak,Aj,Ah,An,Am⟩:Ac)=r6
 refine .lnt hP (Rk Aq As Av At aj ah) (.agg (.ref rfl (Ap Aq) (.ref rfl (Ap As) (.ref rfl (Ap Av) (.ref rfl (Ap At) (.d rfl (.d rfl .nil)))))) .nil) ?_
 cases r6
 conv=>cbv
 have e:((⟨Ag,Ak,Aj,Ah,An,Am⟩:Ac),3)=Ao (⟨Ag,Ak,Aj,Ah,An,Am⟩:Ac) name text:=(by unfold Ao;rw[if_pos (.inl ah)])
 rw[hr]at e
 simp only[Prod.mk.injEq,Ac.mk.injEq]at e
 obtain⟨⟨rfl,rfl,rfl,rfl,rfl,rfl⟩,rfl⟩:=e
 refine hQ _ _ ?_
 exact .many (.inl rfl) rfl rfl (.agg (.ref rfl (Ap Aq) (Bk Aq A6) (.ref rfl (Ap As) (Bk As A5) (.ref rfl (Ap Av) (Bk Av A4) (.ref rfl (Ap At) (Bk At A7) (.d rfl rfl (.d rfl rfl (.nil))))))) (.d rfl rfl (.nil)))
 conv=>cbv
 generalize ao:Df Ak name=r7
 refine .lnt hP (On As (by omega) ao) (.ref rfl (Ap As) (.d rfl .nil)) ?_
 cases r7
 conv=>cbv
 have e:((⟨Ag,Ak,Aj,Ah,An,Am⟩:Ac),3)=Ao (⟨Ag,Ak,Aj,Ah,An,Am⟩:Ac) name text:=(by unfold Ao;rw[if_pos (.inr (Um (XcT ao)))])
 rw[hr]at e
 simp only[Prod.mk.injEq,Ac.mk.injEq]at e
 obtain⟨⟨rfl,rfl,rfl,rfl,rfl,rfl⟩,rfl⟩:=e
 refine hQ _ _ ?_
 exact .many (.inl rfl) rfl rfl (.agg (.ref rfl (Ap Aq) (Bk Aq A6) (.ref rfl (Ap As) (Bk As A5) (.ref rfl (Ap Av) (Bk Av A4) (.ref rfl (Ap At) (Bk At A7) (.d rfl rfl (.d rfl rfl (.nil))))))) (.d rfl rfl (.nil)))
 conv=>cbv
 generalize ar:Ce Ak name=r8
 refine .lnt hP (Mh As (by omega) ar) (.ref rfl (Ap As) (.d rfl .nil)) ?_
 conv=>cbv
 generalize au:F8 (⟨Ag,Ak,Aj,Ah,An,Am⟩:Ac) r8=r9
 refine .lnt hP (Oc Aq As Av At (by omega) au) (.agg (.ref rfl (Ap Aq) (.ref rfl (Ap As) (.ref rfl (Ap Av) (.ref rfl (Ap At) (.d rfl (.d rfl .nil)))))) (.d rfl .nil)) ?_
 conv=>cbv
 have hpl:=Xhy ao
 have hk:Cd (⟨Ag,Ak,Aj,Ah,An,Am⟩:Ac) name=r9:=by rw[←Vq (d:=(⟨Ag,Ak,Aj,Ah,An,Am⟩:Ac)) hpl];show F8 _ (Ce Ak name)=r9;rw[ar,au]
 have hb:=Gg hk
 have a8:=(XgK ah hpl).2
 rw[hk]at a8
 simp only[]at hb
 generalize af:Eo (⟨Ag,Ak,Aj,Ah,An,Am⟩:Ac)=aw
 refine .lnt hP (XcF Aq As Av At aj.1 af) (.agg (.ref rfl (Ap Aq) (.ref rfl (Ap As) (.ref rfl (Ap Av) (.ref rfl (Ap At) (.d rfl (.d rfl .nil)))))) .nil) ?_
 conv=>cbv
 have hri:=G9 ah
 simp only[af]at hri
 refine .sub fun bf ax=>?_
 conv=>cbv
 refine .go fun bg bb=>?_
 conv=>cbv
 refine .gtr (fun h13=>?_) fun h13=>?_
 conv=>cbv
 refine .go r9.toNat fun ai ay ap=>?_
 conv=>cbv
 refine .go Aq fun ae ⟨aq,aa,ak⟩ ab=>?_
 conv=>cbv
 have az:aa.size≤1000000000:=by have h9:=aj.1.2.1 _ (List.getElem_mem ae);rw[←ab]at h9;exact h9
 refine .hi fun al ag=>?_
 conv=>cbv
 have bc:al.size≤text.size:=by rw[ag,ByteArray.size_extract];omega
 refine .go fun a0 a1 bd=>?_
 conv=>cbv
 refine .go r9.toNat fun ac a2 a9=>?_
 conv=>cbv
 refine .go (⟨(Ag.getD ac ⟨0,tx [],0⟩).id_,a0,(Ag.getD ac ⟨0,tx [],0⟩).sure_⟩:Br) Aq (by omega) (by rw[←gD (show ac<Ag.length by omega)];rfl) (show 1+1≤3 by decide) fun bh am=>?_
 conv=>cbv
 have e:((⟨Ag.set ac (⟨(Ag.getD ac ⟨0,tx [],0⟩).id_,a0,(Ag.getD ac ⟨0,tx [],0⟩).sure_⟩:Br),Ak,Aj,Ah,An,Am⟩:Ac),5)=Ao (⟨Ag,Ak,Aj,Ah,An,Am⟩:Ac) name text:=(by unfold Ao;rw[if_neg (by rintro(h|h);rw[ah]at h;cases h;rw[hk]at h;omega),hk,af];dsimp only;rw[if_pos (by omega)];unfold XhU gN;dsimp only;have e9:aa=(Ag.getD ac ⟨0,tx [],0⟩).text_:=(by have h9:ai=ac:=(by omega);subst h9;rw[←gD (show ai<Ag.length by omega),←ab]);rw[←a2,a1,e9,ag,ax,show min (text.size:Int) (An - aw)=An - aw by omega])
 rw[hr]at e
 simp only[Prod.mk.injEq,Ac.mk.injEq]at e
 obtain⟨⟨rfl,rfl,rfl,rfl,rfl,rfl⟩,rfl⟩:=e
 refine hQ _ _ ?_
 exact .many (.inl rfl) rfl rfl (.agg (.ref rfl (Ap am) (Bk am A6) (.ref rfl (Ap As) (Bk As A5) (.ref rfl (Ap Av) (Bk Av A4) (.ref rfl (Ap At) (Bk At A7) (.d rfl rfl (.d rfl rfl (.nil))))))) (.d rfl rfl (.nil)))
 conv=>cbv
 refine .go r9.toNat fun ai ay ap=>?_
 conv=>cbv
 refine .go Aq fun ae ⟨aq,aa,ak⟩ ab=>?_
 conv=>cbv
 have az:aa.size≤1000000000:=by have h9:=aj.1.2.1 _ (List.getElem_mem ae);rw[←ab]at h9;exact h9
 refine .go fun al ag be=>?_
 conv=>cbv
 refine .go r9.toNat fun ad a3 ba=>?_
 conv=>cbv
 refine .go (⟨(Ag.getD ad ⟨0,tx [],0⟩).id_,al,(Ag.getD ad ⟨0,tx [],0⟩).sure_⟩:Br) Aq (by omega) (by rw[←gD (show ad<Ag.length by omega)];rfl) (show 1+1≤3 by decide) fun bi an=>?_
 conv=>cbv
 have e:((⟨Ag.set ad (⟨(Ag.getD ad ⟨0,tx [],0⟩).id_,al,(Ag.getD ad ⟨0,tx [],0⟩).sure_⟩:Br),Ak,Aj,Ah,An,Am⟩:Ac),0)=Ao (⟨Ag,Ak,Aj,Ah,An,Am⟩:Ac) name text:=(by unfold Ao;rw[if_neg (by rintro(h|h);rw[ah]at h;cases h;rw[hk]at h;omega),hk,af];dsimp only;rw[if_neg (by omega)];unfold XhU gN;dsimp only;have e9:aa=(Ag.getD ad ⟨0,tx [],0⟩).text_:=(by have h9:ai=ad:=(by omega);subst h9;rw[←gD (show ai<Ag.length by omega),←ab]);rw[←a3,ag,e9,Wd (t:=text) (by omega)])
 rw[hr]at e
 simp only[Prod.mk.injEq,Ac.mk.injEq]at e
 obtain⟨⟨rfl,rfl,rfl,rfl,rfl,rfl⟩,rfl⟩:=e
 refine hQ _ _ ?_
 exact .many (.inl rfl) rfl rfl (.agg (.ref rfl (Ap an) (Bk an A6) (.ref rfl (Ap As) (Bk As A5) (.ref rfl (Ap Av) (Bk Av A4) (.ref rfl (Ap At) (Bk At A7) (.d rfl rfl (.d rfl rfl (.nil))))))) (.d rfl rfl (.nil)))
theorem Pg(Aq:Ag.map A8=Bo)(As:Ak.map Ae=Bm)(Av:Aj.map Ae=Bl)(At:Ah.map cS=Bn)(hn:Ag.length≤1000000000)(he:Ak.length≤1000000000)(ho:Aj.length≤1000000000)(hs:Ah.length<1000000000)(hss:okS Ah)(an:Is (⟨Ag,Ak,Aj,Ah,An,Am⟩:Ac))(hr:Ch (⟨Ag,Ak,Aj,Ah,An,Am⟩:Ac) name=(⟨Ih,In,Ik,Ig,Ia,H7⟩,ob))(A6:Ih.map A8=Ey)(A5:In.map Ae=Ez)(A4:Ik.map Ae=Eu)(A7:Ig.map cS=Ex):Fn Tryz.prog 225 [.agg [.d (.row 3 Bo),.d (.row 2 Bm),.d (.row 2 Bl),.d (.row 1 Bn),I An,I Am],S name] [] ⟨.tup [.agg [.d (.row 3 Ey),.d (.row 2 Ez),.d (.row 2 Eu),.d (.row 1 Ex),I Ia,I H7],I ob],[],[]⟩:=by
 refine Fn.go Hd Tryz.func225 fun P hP Q hQ=>?_
 conv=>cbv
 obtain⟨n2,ao⟩:∃m,m=Ag.length:=⟨_,rfl⟩
 obtain⟨n3,ap⟩:∃m,m=Ak.length:=⟨_,rfl⟩
 obtain⟨n4,aq⟩:∃m,m=Aj.length:=⟨_,rfl⟩
 obtain⟨n5,ar⟩:∃m,m=Ah.length:=⟨_,rfl⟩
 refine .ddN hP (Oi Aq As Av At (by omega) (by omega) (by omega) (by omega) ao ap aq ar) rfl ?_
 conv=>cbv
 generalize ab:Bw (⟨Ag,Ak,Aj,Ah,An,Am⟩:Ac)=r6
 refine .lnt hP (Rk Aq As Av At an ab) (.agg (.ref rfl (Ap Aq) (.ref rfl (Ap As) (.ref rfl (Ap Av) (.ref rfl (Ap At) (.d rfl (.d rfl .nil)))))) .nil) ?_
 cases r6
 conv=>cbv
 have e:((⟨Ag,Ak,Aj,Ah,An,Am⟩:Ac),3)=Ch (⟨Ag,Ak,Aj,Ah,An,Am⟩:Ac) name:=(by unfold Ch;rw[if_pos (.inl ab)])
 rw[hr]at e
 simp only[Prod.mk.injEq,Ac.mk.injEq]at e
 obtain⟨⟨rfl,rfl,rfl,rfl,rfl,rfl⟩,rfl⟩:=e
 refine hQ _ _ ?_
 exact .many (.inl rfl) rfl rfl (.agg (.ref rfl (Ap Aq) (Bk Aq A6) (.ref rfl (Ap As) (Bk As A5) (.ref rfl (Ap Av) (Bk Av A4) (.ref rfl (Ap At) (Bk At A7) (.d rfl rfl (.d rfl rfl (.nil))))))) (.d rfl rfl (.nil)))
 conv=>cbv
 generalize ae:Df Ak name=r7
 refine .lnt hP (On As (by omega) ae) (.ref rfl (Ap As) (.d rfl .nil)) ?_
 cases r7
 conv=>cbv
 have e:((⟨Ag,Ak,Aj,Ah,An,Am⟩:Ac),3)=Ch (⟨Ag,Ak,Aj,Ah,An,Am⟩:Ac) name:=(by unfold Ch;rw[if_pos (.inr (Um (XcT ae)))])
 rw[hr]at e
 simp only[Prod.mk.injEq,Ac.mk.injEq]at e
 obtain⟨⟨rfl,rfl,rfl,rfl,rfl,rfl⟩,rfl⟩:=e
 refine hQ _ _ ?_
 exact .many (.inl rfl) rfl rfl (.agg (.ref rfl (Ap Aq) (Bk Aq A6) (.ref rfl (Ap As) (Bk As A5) (.ref rfl (Ap Av) (Bk Av A4) (.ref rfl (Ap At) (Bk At A7) (.d rfl rfl (.d rfl rfl (.nil))))))) (.d rfl rfl (.nil)))
 conv=>cbv
 generalize af:Ce Ak name=r8
 refine .lnt hP (Mh As (by omega) af) (.ref rfl (Ap As) (.d rfl .nil)) ?_
 conv=>cbv
 generalize ag:F8 (⟨Ag,Ak,Aj,Ah,An,Am⟩:Ac) r8=r9
 refine .lnt hP (Oc Aq As Av At (by omega) ag) (.agg (.ref rfl (Ap Aq) (.ref rfl (Ap As) (.ref rfl (Ap Av) (.ref rfl (Ap At) (.d rfl (.d rfl .nil)))))) (.d rfl .nil)) ?_
 conv=>cbv
 have hpl:=Xhy ae
 have hk:Cd (⟨Ag,Ak,Aj,Ah,An,Am⟩:Ac) name=r9:=by rw[←Vq (d:=(⟨Ag,Ak,Aj,Ah,An,Am⟩:Ac)) hpl];show F8 _ (Ce Ak name)=r9;rw[af,ag]
 have hb:=Gg hk
 have au:=(XgK ab hpl).2
 rw[hk]at au
 simp only[]at hb
 refine .go r9.toNat fun ah a0 aw=>?_
 conv=>cbv
 refine .go Aq fun ax ⟨ay,ac,am⟩ ai=>?_
 conv=>cbv
 refine .go fun aj ak=>?_
 conv=>cbv
 refine .go r9.toNat fun aa al az=>?_
 conv=>cbv
 refine .go (⟨(Ag.getD aa ⟨0,tx [],0⟩).id_,(Ag.getD aa ⟨0,tx [],0⟩).text_,aj⟩:Br) Aq (by omega) (by rw[←gD (show aa<Ag.length by omega)];rfl) (show 2+1≤3 by decide) fun a1 ad=>?_
 conv=>cbv
 have e:((⟨Ag.set aa (⟨(Ag.getD aa ⟨0,tx [],0⟩).id_,(Ag.getD aa ⟨0,tx [],0⟩).text_,aj⟩:Br),Ak,Aj,Ah,An,Am⟩:Ac),0)=Ch (⟨Ag,Ak,Aj,Ah,An,Am⟩:Ac) name:=(by unfold Ch;rw[if_neg (by rintro(h|h);rw[ab]at h;cases h;rw[hk]at h;omega),hk];dsimp only;have e9:ac=(Ag.getD aa ⟨0,tx [],0⟩).text_:=(by have h9:ah=aa:=(by omega);subst h9;rw[←gD (show ah<Ag.length by omega),←ai]);rw[ak,e9,←al])
 rw[hr]at e
 simp only[Prod.mk.injEq,Ac.mk.injEq]at e
 obtain⟨⟨rfl,rfl,rfl,rfl,rfl,rfl⟩,rfl⟩:=e
 refine hQ _ _ ?_
 exact .many (.inl rfl) rfl rfl (.agg (.ref rfl (Ap ad) (Bk ad A6) (.ref rfl (Ap As) (Bk As A5) (.ref rfl (Ap Av) (Bk Av A4) (.ref rfl (Ap At) (Bk At A7) (.d rfl rfl (.d rfl rfl (.nil))))))) (.d rfl rfl (.nil)))
theorem Si(Aq:Ag.map A8=Bo)(As:Ak.map Ae=Bm)(Av:Aj.map Ae=Bl)(At:Ah.map cS=Bn)(hn:Ag.length≤1000000000)(he:Ak.length≤1000000000)(ho:Aj.length≤1000000000)(hs:Ah.length<1000000000)(hss:okS Ah)(ar:Is (⟨Ag,Ak,Aj,Ah,An,Am⟩:Ac))(hr:Cs (⟨Ag,Ak,Aj,Ah,An,Am⟩:Ac)=⟨onod,oent,oold,oste,oroo,onex⟩)(Hl:onod.map A8=F2)(Hs:oent.map Ae=Fy)(Ho:oold.map Ae=F3)(Hr:oste.map cS=Fx):Fn Tryz.prog 227 [.agg [.d (.row 3 Bo),.d (.row 2 Bm),.d (.row 2 Bl),.d (.row 1 Bn),I An,I Am]] [] ⟨.agg [.d (.row 3 F2),.d (.row 2 Fy),.d (.row 2 F3),.d (.row 1 Fx),I oroo,I onex],[],[]⟩:=by
 refine Fn.go Hd Tryz.func227 fun P hP Q hQ=>?_
 conv=>cbv
 obtain⟨n2,au⟩:∃m,m=Ag.length:=⟨_,rfl⟩
 obtain⟨n3,aw⟩:∃m,m=Ak.length:=⟨_,rfl⟩
 obtain⟨n4,ax⟩:∃m,m=Aj.length:=⟨_,rfl⟩
 obtain⟨n5,ay⟩:∃m,m=Ah.length:=⟨_,rfl⟩
 refine .ddN hP (Oi Aq As Av At (by omega) (by omega) (by omega) (by omega) au aw ax ay) rfl ?_
 conv=>cbv
 generalize ai:Bw (⟨Ag,Ak,Aj,Ah,An,Am⟩:Ac)=r6
 refine .lnt hP (Rk Aq As Av At ar ai) (.agg (.ref rfl (Ap Aq) (.ref rfl (Ap As) (.ref rfl (Ap Av) (.ref rfl (Ap At) (.d rfl (.d rfl .nil)))))) .nil) ?_
 cases r6
 conv=>cbv
 have e:(⟨Ag,Ak,Aj,Ah,An,Am⟩:Ac)=Cs (⟨Ag,Ak,Aj,Ah,An,Am⟩:Ac):=(by unfold Cs;rw[if_pos ai])
 rw[hr]at e
 simp only[Ac.mk.injEq]at e
 obtain⟨rfl,rfl,rfl,rfl,rfl,rfl⟩:=e
 exact hQ _ _ (.one (.inl rfl) rfl (.agg (.ref rfl (Ap Aq) (Bk Aq Hl) (.ref rfl (Ap As) (Bk As Hs) (.ref rfl (Ap Av) (Bk Av Ho) (.ref rfl (Ap At) (Bk At Hr) (.d rfl rfl (.d rfl rfl (.nil))))))) .nil))
 conv=>cbv
 refine .sub0 As fun a0 z7 az al=>?_
 conv=>cbv
 rcases am:Gq (⟨Ag,Ak,Ak,[],An,Am⟩:Ac)with⟨ae,af,ag,ah,aj,ak⟩
 generalize aa:ae.map A8=an
 generalize ab:af.map Ae=ao
 generalize ac:ag.map Ae=ap
 generalize ad:ah.map cS=aq
 refine .lntD hP (Uo Aq As al rfl (by omega) (by omega) (by simp) (fun _ h=>by cases h) am aa ab ac ad) (.agg (.ref rfl (Ap Aq) (.ref rfl (Ap As) (.ref rfl (Ap al) (.ref rfl rfl (.d rfl (.d rfl .nil)))))) .nil) ?_
 conv=>cbv
 have e:(⟨ae,af,ag,ah,aj,ak⟩:Ac)=Cs (⟨Ag,Ak,Aj,Ah,An,Am⟩:Ac):=(by unfold Cs;rw[if_neg (by rw[ai];decide)];dsimp only;rw[←am];exact Uc (d:=⟨Ag,Ak,Ak,[],An,Am⟩) trivial)
 rw[hr]at e
 simp only[Ac.mk.injEq]at e
 obtain⟨rfl,rfl,rfl,rfl,rfl,rfl⟩:=e
 exact hQ _ _ (.one (.inl rfl) rfl (.agg (.d rfl (Al aa Hl) (.d rfl (Al ab Hs) (.d rfl (Al ac Ho) (.d rfl (Al ad Hr) (.d rfl rfl (.d rfl rfl (.nil))))))) .nil))
end
section
open Go Go.Proofs
set_option maxRecDepth 20000
set_option maxHeartbeats 4000000
theorem XbR{α:Type}{f:α→Int}(h0:∀x,0≤f x):∀{l:List α} {x:α},x∈l→∀a,a+f x≤(l.map f).foldl (·+·) a
 |[],_,h,_=>by cases h
 |y::l,x,h,a=>by
  rw[List.map_cons,List.foldl_cons]
  rcases List.mem_cons.1 h with rfl|h
  ·exact Xbm h0
  ·have h1:=XbR h0 h (a+f y)
   have:=h0 y
   omega
theorem Xf8{d:Ac}{n:Br}(h:n∈d.nodes_):(n.text_.size:Int)≤Eo d:=by
 have:=XbR (f:=fun n:Br=>(n.text_.size:Int)) (fun x=>by omega) h 0
 unfold Eo XhP
 omega
theorem XdL{d:Ac}{i:Int}{x:Br}(h:Is d)(hx:x.text_.size≤1000000000):Is (XhU d i x):=by
 obtain⟨⟨h1,h2,h3⟩,h4⟩:=h
 refine⟨⟨by show(d.nodes_.set _ _).length≤_;rw[List.length_set];exact h1,?_,h3⟩,h4⟩
 intro n hn
 rcases List.mem_or_eq_of_mem_set hn with hn|rfl
 ·exact h2 n hn
 ·exact hx
theorem XgP{d:Ac}{i:Int}(h0:0≤i)(h1:i<d.nodes_.length):gN d i∈d.nodes_:=by
 unfold gN
 have hk:i.toNat<d.nodes_.length:=by omega
 rw[←gD hk]
 exact List.getElem_mem hk
theorem XfW{d:Ac}{s:ByteArray}(h:Is d)(he:d.entries_.length≤1000000)(hs:s.size≤1000000000)(hl:d.steps_.length<1000000000):Is (Tl d s):=by
 obtain⟨⟨h1,h2,h3,h4,h5,h6⟩,h7,h8⟩:=h
 obtain⟨e,b,hy⟩:∃e b,Ay d.entries_ s=(e,b):=⟨_,_,rfl⟩
 have hlen:=N6 hy
 have hok:=Wv (l:=d.entries_) h4 hs hy
 unfold Tl
 rw[hy]
 refine⟨⟨?_,?_,by show e.length≤_;omega,hok,h5,by rw[List.length_append,List.length_singleton];omega⟩,h7,Xb h8 hs⟩
 ·exact Nat.le_trans (List.length_filter_le _ _) h1
 ·intro n hn
  exact h2 n (List.mem_filter.1 hn).1
def okG(d d':Ac):Prop:=Is d'∧d'.steps_.length≤d.steps_.length+1
theorem K7{d:Ac}(h:Is d):okG d d:=⟨h,Nat.le_succ _⟩
section
variable {d:Ac} {name text a b:ByteArray}
theorem Ln(h:Is d)(hl:d.steps_.length<1000000000)(hm:name.size≤500000000):okG d (Ax d name).1:=by
 unfold Ax
 split
 ·exact K7 h
 ·rename_i hr
  have hr:=by simpa using hr
  split
  ·exact K7 h
  ·split
   ·exact K7 h
   ·split
    ·exact K7 h
    ·rename_i hc
     have hri:=G9 hr
     have hz:=Pq (rfl:Bt d.next_=_) (by unfold Wz;omega)
     refine⟨XfW ?_ (by show d.entries_.length≤_;omega) ?_ hl,by show(d.steps_++[_]).length≤_;rw[List.length_append];exact Nat.le_refl _⟩
     ·obtain⟨⟨h1,h2,h3⟩,h4⟩:=h
      refine⟨⟨by show(d.nodes_++[_]).length≤_;rw[List.length_append,List.length_singleton];omega,?_,h3⟩,h4⟩
      intro n hn
      rcases List.mem_append.1 hn with hn|hn
      ·exact h2 n hn
      ·rw[List.mem_singleton.1 hn]
       exact Nat.zero_le _
     ·simp only[ByteArray.size_append,Bz,List.length_singleton]
      omega
theorem Gk(h:Is d):okG d (Ao d name text).1:=by
 unfold Ao
 split
 ·exact K7 h
 ·rename_i hr
  have hk:0≤Cd d name:=Int.not_lt.1 fun k=>hr (.inr k)
  have hr:Bw d=true:=by
   cases hc:Bw d
   ·exact absurd (.inl hc) hr
   ·rfl
  have hri:=G9 hr
  have hu:=Xf8 (XgP hk (Gg rfl).2)
  refine⟨XdL h ?_,Nat.le_succ _⟩
  show((gN d (Cd d name)).text_++text.extract 0 _).size≤_
  rw[ByteArray.size_append,ByteArray.size_extract]
  omega
theorem P0(h:Is d):okG d (Ch d name).1:=by
 unfold Ch
 split
 ·exact K7 h
 ·rename_i hr
  have hk:0≤Cd d name:=Int.not_lt.1 fun k=>hr (.inr k)
  refine⟨XdL (i:=Cd d name) h ?_,Nat.le_succ _⟩
  show(gN d (Cd d name)).text_.size≤_
  exact h.1.2.1 _ (XgP hk (Gg rfl).2)
theorem XfE(h:Is d):okG d (Cs d):=by
 unfold Cs
 split
 ·exact K7 h
 ·obtain⟨⟨h1,h2,h3,h4,h5,h6⟩,h7,h8⟩:=h
  refine⟨⟨⟨Nat.le_trans (List.length_filter_le _ _) h1,fun n hn=>h2 n (List.mem_filter.1 hn).1,h3,h4,h3,Nat.zero_le _⟩,h4,fun _ hs=>by cases hs⟩,Nat.zero_le _⟩
end
end
section
open Go Go.Proofs
set_option maxRecDepth 20000
set_option maxHeartbeats 4000000
end
section
open Go Go.Proofs
set_option maxRecDepth 20000
set_option maxHeartbeats 4000000
end
section
open Go Go.Proofs
set_option maxRecDepth 20000
set_option maxHeartbeats 4000000
end
section
open Go Go.Proofs
set_option maxRecDepth 20000
set_option maxHeartbeats 4000000
end
end Go.Proofs.YtgdmjbcllgmepaaGreatDoor.Ab
