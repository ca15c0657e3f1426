/- What functions of the program come to, for all arguments in the given bounds. -/
import Derived.Test.YtgdmjbcllgmepaaGreatDoorLrch06d
import Derived.Test.YtgdmjbcllgmepaaGreatDoorLrZ9
set_option linter.unusedVariables false
set_option linter.unusedSimpArgs false
namespace Go.Proofs.YtgdmjbcllgmepaaGreatDoor.Ab
section
open Go Go.Proofs
set_option maxRecDepth 20000
set_option maxHeartbeats 4000000
def Xaw:List (Nat×TyRow):=[ty3,ty9,Xd8,XaI,Xx]
theorem Yj:By Tryz.prog Xaw:=By.of (by kernel_rfl)
theorem XfX:Setup Tryz.prog Xaw:=⟨Yj,mixed⟩
def Cj(d:Ac)(name:ByteArray):Ac×Int:=if B0 d=false∨Cf d name<0 then(d,3)else
 (⟨d.nodes_.set (Cf d name).toNat ⟨(d.nodes_.getD (Cf d name).toNat ⟨0,tx [],0⟩).id_,(d.nodes_.getD (Cf d name).toNat ⟨0,tx [],0⟩).text_,((d.nodes_.getD (Cf d name).toNat ⟨0,tx [],0⟩).text_.size:Int)⟩,d.entries_,d.old_,d.steps_,d.room_,d.next_⟩,0)
theorem Qc{Ah:List Bs}{Bo:List (List D)}{Al:List Aj}{Bm:List (List D)}{Ak:List Aj}{Bl:List (List D)}{Ai:List ByteArray}{Bn:List (List D)}{An:Int}{Am:Int}{name:ByteArray}{Fx:List Bs}{Di:List (List D)}{F3:List Aj}{Da:List (List D)}{Fr:List Aj}{Db:List (List D)}{Fw:List ByteArray}{Dd:List (List D)}{Ft:Int}{Fz:Int}{ob:Int}(Aq:Ah.map A5=Bo)(As:Al.map Ae=Bm)(Av:Ak.map Ae=Bl)(At:Ai.map cS=Bn)(hn:Ah.length≤1000000000)(he:Al.length≤1000000000)(ho:Ak.length≤1000000000)(hs:Ai.length<1000000000)(hss:okS Ai)(af:H0 (⟨Ah,Al,Ak,Ai,An,Am⟩:Ac))(hr:Cj (⟨Ah,Al,Ak,Ai,An,Am⟩:Ac) name=(⟨Fx,F3,Fr,Fw,Ft,Fz⟩,ob))(A2:Fx.map A5=Di)(A1:F3.map Ae=Da)(A3:Fr.map Ae=Db)(A0:Fw.map cS=Dd):Fn Tryz.prog 236 [.agg [.d (.row 3 Bo),.d (.row 2 Bm),.d (.row 2 Bl),.d (.row 1 Bn),I An,I Am],S name] [] ⟨.tup [.agg [.d (.row 3 Di),.d (.row 2 Da),.d (.row 2 Db),.d (.row 1 Dd),I Ft,I Fz],I ob],[],[]⟩:=by
 refine Fn.go XfX Tryz.func236 fun P hP Q hQ=>?_
 conv=>cbv
 obtain⟨n2,ah⟩:∃m,m=Ah.length:=⟨_,rfl⟩
 obtain⟨n3,ai⟩:∃m,m=Ai.length:=⟨_,rfl⟩
 refine .ddN hP (M2 Aq As Av At (by omega) (by omega) (by omega) (by omega) ah ai) rfl ?_
 conv=>cbv
 generalize ab:Cf (⟨Ah,Al,Ak,Ai,An,Am⟩:Ac) name=r4
 refine .dd hP (Kx Aq As Av At af.1 ab) ?_
 conv=>cbv
 have hb:=Gr ab
 simp only[]at hb
 generalize ad:B0 (⟨Ah,Al,Ak,Ai,An,Am⟩:Ac)=r5
 refine .dd hP (Rp Aq As Av At af ad) ?_
 cases r5
 conv=>cbv
 have e:((⟨Ah,Al,Ak,Ai,An,Am⟩:Ac),3)=Cj (⟨Ah,Al,Ak,Ai,An,Am⟩:Ac) name:=(by unfold Cj;rw[if_pos (.inl ad)])
 rw[hr]at e
 simp only[Prod.mk.injEq,Ac.mk.injEq]at e
 obtain⟨⟨rfl,rfl,rfl,rfl,rfl,rfl⟩,rfl⟩:=e
 refine hQ _ _ ?_
 exact .many (.inl rfl) rfl rfl (.agg (.ref rfl (Ap Aq) (Bp Aq A2) (.d rfl (Ag As A1) (.d rfl (Ag Av A3) (.ref rfl (Ap At) (Bp At A0) (.d rfl rfl (.d rfl rfl (.nil))))))) (.d rfl rfl (.nil)))
 conv=>cbv
 refine .lss (fun h6=>?_) fun h6=>?_
 conv=>cbv
 have e:((⟨Ah,Al,Ak,Ai,An,Am⟩:Ac),3)=Cj (⟨Ah,Al,Ak,Ai,An,Am⟩:Ac) name:=(by unfold Cj;rw[if_pos (.inr (by rw[ab];exact h6))])
 rw[hr]at e
 simp only[Prod.mk.injEq,Ac.mk.injEq]at e
 obtain⟨⟨rfl,rfl,rfl,rfl,rfl,rfl⟩,rfl⟩:=e
 refine hQ _ _ ?_
 exact .many (.inl rfl) rfl rfl (.agg (.ref rfl (Ap Aq) (Bp Aq A2) (.d rfl (Ag As A1) (.d rfl (Ag Av A3) (.ref rfl (Ap At) (Bp At A0) (.d rfl rfl (.d rfl rfl (.nil))))))) (.d rfl rfl (.nil)))
 conv=>cbv
 refine .go r4.toNat fun p7 aq an=>?_
 conv=>cbv
 refine .go Aq fun ao ⟨ap,ae,aj⟩ ak=>?_
 conv=>cbv
 refine .go fun v9 al=>?_
 conv=>cbv
 refine .go r4.toNat fun aa ag am=>?_
 conv=>cbv
 refine .go (⟨(Ah.getD aa ⟨0,tx [],0⟩).id_,(Ah.getD aa ⟨0,tx [],0⟩).text_,v9⟩:Bs) Aq (by omega) (by rw[←gD (show aa<Ah.length by omega)];rfl) (Nat.le_refl 3) fun ar ac=>?_
 conv=>cbv
 have e:((⟨Ah.set aa (⟨(Ah.getD aa ⟨0,tx [],0⟩).id_,(Ah.getD aa ⟨0,tx [],0⟩).text_,v9⟩:Bs),Al,Ak,Ai,An,Am⟩:Ac),0)=Cj (⟨Ah,Al,Ak,Ai,An,Am⟩:Ac) name:=(by unfold Cj;rw[if_neg (by rintro(h|h);rw[ad]at h;cases h;rw[ab]at h;omega),ab];dsimp only;have e9:ae=(Ah.getD aa ⟨0,tx [],0⟩).text_:=(by have h9:p7=aa:=(by omega);subst h9;rw[←gD (show p7<Ah.length by omega),←ak]);rw[al,e9,←ag])
 rw[hr]at e
 simp only[Prod.mk.injEq,Ac.mk.injEq]at e
 obtain⟨⟨rfl,rfl,rfl,rfl,rfl,rfl⟩,rfl⟩:=e
 refine hQ _ _ ?_
 exact .many (.inl rfl) rfl rfl (.agg (.ref rfl (Ap ac) (Bp ac A2) (.d rfl (Ag As A1) (.d rfl (Ag Av A3) (.ref rfl (Ap At) (Bp At A0) (.d rfl rfl (.d rfl rfl (.nil))))))) (.d rfl rfl (.nil)))
end
section
open Go Go.Proofs
set_option maxRecDepth 20000
set_option maxHeartbeats 4000000
def Ys:List (Nat×TyRow):=[ty3,ty9,Xc3,Xd8,Xde,XaI,Xx]
theorem X8:By Tryz.prog Ys:=By.of (by kernel_rfl)
theorem Wq:Setup Tryz.prog Ys:=⟨X8,mixed⟩
theorem XaL{α:Type}{f:α→Int}(h:∀x,0≤f x):∀{l:List α} {a:Int},a≤(l.map f).foldl (·+·) a
 |[],a=>by simp
 |x::l,a=>by
  rw[List.map_cons,List.foldl_cons]
  have:=XaL h (l:=l) (a:=a+f x)
  have:=h x
  omega
theorem XdG(d:Ac):0≤D4 d:=XaL (f:=fun n:Bs=>(n.text_.size:Int)) (fun x=>by omega)
theorem Hi{d:Ac}(h:B0 d=true):0≤d.room_∧d.room_≤1000000000∧1≤d.next_∧d.next_≤1000000000∧0≤D4 d∧D4 d≤d.room_:=by
 have h1:=diskOk_iff.1 h
 exact⟨h1.1.1,h1.1.2,h1.2.1.1,h1.2.1.2,XdG d,h1.2.2.2.1⟩
def gN(d:Ac)(i:Int):Bs:=d.nodes_.getD i.toNat ⟨0,tx [],0⟩
def Xia(d:Ac)(i:Int)(x:Bs):Ac:=⟨d.nodes_.set i.toNat x,d.entries_,d.old_,d.steps_,d.room_,d.next_⟩
def Ao(d:Ac)(name text:ByteArray):Ac×Int:=if B0 d=false∨Cf d name<0 then(d,3)else
 (Xia d (Cf d name) ⟨(gN d (Cf d name)).id_,(gN d (Cf d name)).text_++text.extract 0 (min (text.size:Int) (d.room_ - D4 d)).toNat,(gN d (Cf d name)).sure_⟩,if d.room_ - D4 d<text.size then 5 else 0)
def Ax(d:Ac)(name:ByteArray):Ac×Int:=if B0 d=false then(d,3)else if Bg name=false then(d,1)else if 0≤A7 d.entries_ name then(d,2)else if 16≤d.entries_.length∨64≤d.nodes_.length∨1000000000≤d.next_ then(d,4)else
 (Sc ⟨d.nodes_++[⟨d.next_,tx [],0⟩],d.entries_,d.old_,d.steps_,d.room_,d.next_+1⟩ (tx [43]++name++tx [58]++Bw d.next_),0)
def Cw(d:Ac):Ac:=if B0 d=false then d else⟨Nh d.nodes_ d.entries_ [],d.entries_,d.entries_,[],d.room_,d.next_⟩
variable {Ah Fx:List Bs} {Bo Bm Bl Bn Di Da Db Dd:List (List D)} {Al Ak F3 Fr:List Aj} {Ai Fw:List ByteArray} {An Am Ft Fz ob:Int} {name:ByteArray}
theorem Hu{text:ByteArray}(Aq:Ah.map A5=Bo)(As:Al.map Ae=Bm)(Av:Ak.map Ae=Bl)(At:Ai.map cS=Bn)(hn:Ah.length≤1000000000)(he:Al.length≤1000000000)(ho:Ak.length≤1000000000)(hs:Ai.length<1000000000)(hss:okS Ai)(ah:H0 (⟨Ah,Al,Ak,Ai,An,Am⟩:Ac))(ht:text.size≤1000000000)(hr:Ao (⟨Ah,Al,Ak,Ai,An,Am⟩:Ac) name text=(⟨Fx,F3,Fr,Fw,Ft,Fz⟩,ob))(A2:Fx.map A5=Di)(A1:F3.map Ae=Da)(A3:Fr.map Ae=Db)(A0:Fw.map cS=Dd):Fn Tryz.prog 233 [.agg [.d (.row 3 Bo),.d (.row 2 Bm),.d (.row 2 Bl),.d (.row 1 Bn),I An,I Am],S name,S text] [] ⟨.tup [.agg [.d (.row 3 Di),.d (.row 2 Da),.d (.row 2 Db),.d (.row 1 Dd),I Ft,I Fz],I ob],[],[]⟩:=by
 refine Fn.go Wq Tryz.func233 fun P hP Q hQ=>?_
 conv=>cbv
 obtain⟨n2,au⟩:∃m,m=Ah.length:=⟨_,rfl⟩
 obtain⟨n3,aw⟩:∃m,m=Ai.length:=⟨_,rfl⟩
 refine .ddN hP (M2 Aq As Av At (by omega) (by omega) (by omega) (by omega) au aw) rfl ?_
 conv=>cbv
 generalize ac:Cf (⟨Ah,Al,Ak,Ai,An,Am⟩:Ac) name=r4
 refine .dd hP (Kx Aq As Av At ah.1 ac) ?_
 conv=>cbv
 have hb:=Gr ac
 simp only[]at hb
 generalize ae:B0 (⟨Ah,Al,Ak,Ai,An,Am⟩:Ac)=r5
 refine .dd hP (Rp Aq As Av At ah ae) ?_
 cases r5
 conv=>cbv
 have e:((⟨Ah,Al,Ak,Ai,An,Am⟩:Ac),3)=Ao (⟨Ah,Al,Ak,Ai,An,Am⟩:Ac) name text:=(by unfold Ao;rw[if_pos (.inl ae)])
 rw[hr]at e
 simp only[Prod.mk.injEq,Ac.mk.injEq]at e
 obtain⟨⟨rfl,rfl,rfl,rfl,rfl,rfl⟩,rfl⟩:=e
 refine hQ _ _ ?_
 exact .many (.inl rfl) rfl rfl (.agg (.ref rfl (Ap Aq) (Bp Aq A2) (.d rfl (Ag As A1) (.d rfl (Ag Av A3) (.ref rfl (Ap At) (Bp At A0) (.d rfl rfl (.d rfl rfl (.nil))))))) (.d rfl rfl (.nil)))
 conv=>cbv
 refine .lss (fun h6=>?_) fun h6=>?_
 conv=>cbv
 have e:((⟨Ah,Al,Ak,Ai,An,Am⟩:Ac),3)=Ao (⟨Ah,Al,Ak,Ai,An,Am⟩:Ac) name text:=(by unfold Ao;rw[if_pos (.inr (by rw[ac];exact h6))])
 rw[hr]at e
 simp only[Prod.mk.injEq,Ac.mk.injEq]at e
 obtain⟨⟨rfl,rfl,rfl,rfl,rfl,rfl⟩,rfl⟩:=e
 refine hQ _ _ ?_
 exact .many (.inl rfl) rfl rfl (.agg (.ref rfl (Ap Aq) (Bp Aq A2) (.d rfl (Ag As A1) (.d rfl (Ag Av A3) (.ref rfl (Ap At) (Bp At A0) (.d rfl rfl (.d rfl rfl (.nil))))))) (.d rfl rfl (.nil)))
 conv=>cbv
 refine .go fun v7 ap=>?_
 conv=>cbv
 generalize ai:D4 (⟨Ah,Al,Ak,Ai,An,Am⟩:Ac)=r8
 refine .dd hP (Wi Aq As Av At ah.1 ai) ?_
 conv=>cbv
 have hri:=Hi ae
 simp only[ai]at hri
 refine .sub fun v9 aq=>?_
 conv=>cbv
 refine .go fun a6 ak=>?_
 conv=>cbv
 refine .go r4.toNat fun aj a1 ax=>?_
 conv=>cbv
 refine .go Aq fun an ⟨ay,ab,ar⟩ af=>?_
 conv=>cbv
 refine .hi fun az ag=>?_
 conv=>cbv
 have a2:ab.size≤1000000000:=by have h9:=ah.1.2.1 _ (List.getElem_mem an);rw[←af]at h9;exact h9
 have a3:az.size≤text.size:=by rw[ag,ByteArray.size_extract];omega
 refine .go fun ao al a4=>?_
 conv=>cbv
 refine .go r4.toNat fun aa am a0=>?_
 conv=>cbv
 refine .go (⟨(Ah.getD aa ⟨0,tx [],0⟩).id_,ao,(Ah.getD aa ⟨0,tx [],0⟩).sure_⟩:Bs) Aq (by omega) (by rw[←gD (show aa<Ah.length by omega)];rfl) (show 1+1≤3 by decide) fun a7 ad=>?_
 conv=>cbv
 refine .go fun a8 a5=>?_
 conv=>cbv
 refine .lss (fun h18=>?_) fun h18=>?_
 conv=>cbv
 have e:((⟨Ah.set aa (⟨(Ah.getD aa ⟨0,tx [],0⟩).id_,ao,(Ah.getD aa ⟨0,tx [],0⟩).sure_⟩:Bs),Al,Ak,Ai,An,Am⟩:Ac),5)=Ao (⟨Ah,Al,Ak,Ai,An,Am⟩:Ac) name text:=(by unfold Ao;rw[if_neg (by rintro(h|h);rw[ae]at h;cases h;rw[ac]at h;omega),ac,ai];dsimp only;rw[if_pos (by omega)];unfold Xia gN;dsimp only;have e9:ab=(Ah.getD aa ⟨0,tx [],0⟩).text_:=(by have h9:aj=aa:=(by omega);subst h9;rw[←gD (show aj<Ah.length by omega),←af]);rw[←am,al,e9,ag,ak,ap,aq])
 rw[hr]at e
 simp only[Prod.mk.injEq,Ac.mk.injEq]at e
 obtain⟨⟨rfl,rfl,rfl,rfl,rfl,rfl⟩,rfl⟩:=e
 refine hQ _ _ ?_
 exact .many (.inl rfl) rfl rfl (.agg (.ref rfl (Ap ad) (Bp ad A2) (.d rfl (Ag As A1) (.d rfl (Ag Av A3) (.ref rfl (Ap At) (Bp At A0) (.d rfl rfl (.d rfl rfl (.nil))))))) (.d rfl rfl (.nil)))
 conv=>cbv
 have e:((⟨Ah.set aa (⟨(Ah.getD aa ⟨0,tx [],0⟩).id_,ao,(Ah.getD aa ⟨0,tx [],0⟩).sure_⟩:Bs),Al,Ak,Ai,An,Am⟩:Ac),0)=Ao (⟨Ah,Al,Ak,Ai,An,Am⟩:Ac) name text:=(by unfold Ao;rw[if_neg (by rintro(h|h);rw[ae]at h;cases h;rw[ac]at h;omega),ac,ai];dsimp only;rw[if_neg (by omega)];unfold Xia gN;dsimp only;have e9:ab=(Ah.getD aa ⟨0,tx [],0⟩).text_:=(by have h9:aj=aa:=(by omega);subst h9;rw[←gD (show aj<Ah.length by omega),←af]);rw[←am,al,e9,ag,ak,ap,aq])
 rw[hr]at e
 simp only[Prod.mk.injEq,Ac.mk.injEq]at e
 obtain⟨⟨rfl,rfl,rfl,rfl,rfl,rfl⟩,rfl⟩:=e
 refine hQ _ _ ?_
 exact .many (.inl rfl) rfl rfl (.agg (.ref rfl (Ap ad) (Bp ad A2) (.d rfl (Ag As A1) (.d rfl (Ag Av A3) (.ref rfl (Ap At) (Bp At A0) (.d rfl rfl (.d rfl rfl (.nil))))))) (.d rfl rfl (.nil)))
theorem Qn(Aq:Ah.map A5=Bo)(As:Al.map Ae=Bm)(Av:Ak.map Ae=Bl)(At:Ai.map cS=Bn)(hn:Ah.length≤1000000000)(he:Al.length≤1000000000)(ho:Ak.length≤1000000000)(hs:Ai.length<1000000000)(hss:okS Ai)(aw:H0 (⟨Ah,Al,Ak,Ai,An,Am⟩:Ac))(hm:name.size≤1000000000)(hr:Ax (⟨Ah,Al,Ak,Ai,An,Am⟩:Ac) name=(⟨Fx,F3,Fr,Fw,Ft,Fz⟩,ob))(A2:Fx.map A5=Di)(A1:F3.map Ae=Da)(A3:Fr.map Ae=Db)(A0:Fw.map cS=Dd):Fn Tryz.prog 237 [.agg [.d (.row 3 Bo),.d (.row 2 Bm),.d (.row 2 Bl),.d (.row 1 Bn),I An,I Am],S name] [] ⟨.tup [.agg [.d (.row 3 Di),.d (.row 2 Da),.d (.row 2 Db),.d (.row 1 Dd),I Ft,I Fz],I ob],[],[]⟩:=by
 refine Fn.go Wq Tryz.func237 fun P hP Q hQ=>?_
 conv=>cbv
 obtain⟨n2,ax⟩:∃m,m=Ah.length:=⟨_,rfl⟩
 obtain⟨n3,ay⟩:∃m,m=Ai.length:=⟨_,rfl⟩
 refine .ddN hP (M2 Aq As Av At (by omega) (by omega) (by omega) (by omega) ax ay) rfl ?_
 conv=>cbv
 generalize aa:B0 (⟨Ah,Al,Ak,Ai,An,Am⟩:Ac)=r4
 refine .dd hP (Rp Aq As Av At aw aa) ?_
 cases r4
 conv=>cbv
 have e:((⟨Ah,Al,Ak,Ai,An,Am⟩:Ac),3)=Ax (⟨Ah,Al,Ak,Ai,An,Am⟩:Ac) name:=(by unfold Ax;rw[if_pos aa])
 rw[hr]at e
 simp only[Prod.mk.injEq,Ac.mk.injEq]at e
 obtain⟨⟨rfl,rfl,rfl,rfl,rfl,rfl⟩,rfl⟩:=e
 refine hQ _ _ ?_
 exact .many (.inl rfl) rfl rfl (.agg (.ref rfl (Ap Aq) (Bp Aq A2) (.d rfl (Ag As A1) (.d rfl (Ag Av A3) (.ref rfl (Ap At) (Bp At A0) (.d rfl rfl (.d rfl rfl (.nil))))))) (.d rfl rfl (.nil)))
 conv=>cbv
 generalize ab:Bg name=r5
 refine .dd hP (Mq (by omega) ab) ?_
 cases r5
 conv=>cbv
 have e:((⟨Ah,Al,Ak,Ai,An,Am⟩:Ac),1)=Ax (⟨Ah,Al,Ak,Ai,An,Am⟩:Ac) name:=(by unfold Ax;rw[if_neg (by rw[aa];decide),if_pos ab])
 rw[hr]at e
 simp only[Prod.mk.injEq,Ac.mk.injEq]at e
 obtain⟨⟨rfl,rfl,rfl,rfl,rfl,rfl⟩,rfl⟩:=e
 refine hQ _ _ ?_
 exact .many (.inl rfl) rfl rfl (.agg (.ref rfl (Ap Aq) (Bp Aq A2) (.d rfl (Ag As A1) (.d rfl (Ag Av A3) (.ref rfl (Ap At) (Bp At A0) (.d rfl rfl (.d rfl rfl (.nil))))))) (.d rfl rfl (.nil)))
 conv=>cbv
 generalize ad:A7 Al name=r6
 refine .dd hP (Mb As (by omega) ad) ?_
 conv=>cbv
 refine .geq (fun h7=>?_) fun h7=>?_
 conv=>cbv
 have e:((⟨Ah,Al,Ak,Ai,An,Am⟩:Ac),2)=Ax (⟨Ah,Al,Ak,Ai,An,Am⟩:Ac) name:=(by unfold Ax;rw[if_neg (by rw[aa];decide),if_neg (by rw[ab];decide),if_pos (by rw[ad];omega)])
 rw[hr]at e
 simp only[Prod.mk.injEq,Ac.mk.injEq]at e
 obtain⟨⟨rfl,rfl,rfl,rfl,rfl,rfl⟩,rfl⟩:=e
 refine hQ _ _ ?_
 exact .many (.inl rfl) rfl rfl (.agg (.ref rfl (Ap Aq) (Bp Aq A2) (.d rfl (Ag As A1) (.d rfl (Ag Av A3) (.ref rfl (Ap At) (Bp At A0) (.d rfl rfl (.d rfl rfl (.nil))))))) (.d rfl rfl (.nil)))
 conv=>cbv
 refine .go As fun v8 ba=>?_
 conv=>cbv
 refine .geq (fun h9=>?_) fun h9=>?_
 conv=>cbv
 have e:((⟨Ah,Al,Ak,Ai,An,Am⟩:Ac),4)=Ax (⟨Ah,Al,Ak,Ai,An,Am⟩:Ac) name:=(by unfold Ax;rw[if_neg (by rw[aa];decide),if_neg (by rw[ab];decide),if_neg (by rw[ad];omega),if_pos (by dsimp only;omega)])
 rw[hr]at e
 simp only[Prod.mk.injEq,Ac.mk.injEq]at e
 obtain⟨⟨rfl,rfl,rfl,rfl,rfl,rfl⟩,rfl⟩:=e
 refine hQ _ _ ?_
 exact .many (.inl rfl) rfl rfl (.agg (.ref rfl (Ap Aq) (Bp Aq A2) (.d rfl (Ag As A1) (.d rfl (Ag Av A3) (.ref rfl (Ap At) (Bp At A0) (.d rfl rfl (.d rfl rfl (.nil))))))) (.d rfl rfl (.nil)))
 conv=>cbv
 refine .go Aq fun bb a1=>?_
 conv=>cbv
 refine .geq (fun h11=>?_) fun h11=>?_
 conv=>cbv
 have e:((⟨Ah,Al,Ak,Ai,An,Am⟩:Ac),4)=Ax (⟨Ah,Al,Ak,Ai,An,Am⟩:Ac) name:=(by unfold Ax;rw[if_neg (by rw[aa];decide),if_neg (by rw[ab];decide),if_neg (by rw[ad];omega),if_pos (by dsimp only;omega)])
 rw[hr]at e
 simp only[Prod.mk.injEq,Ac.mk.injEq]at e
 obtain⟨⟨rfl,rfl,rfl,rfl,rfl,rfl⟩,rfl⟩:=e
 refine hQ _ _ ?_
 exact .many (.inl rfl) rfl rfl (.agg (.ref rfl (Ap Aq) (Bp Aq A2) (.d rfl (Ag As A1) (.d rfl (Ag Av A3) (.ref rfl (Ap At) (Bp At A0) (.d rfl rfl (.d rfl rfl (.nil))))))) (.d rfl rfl (.nil)))
 conv=>cbv
 refine .geq (fun h12=>?_) fun h12=>?_
 conv=>cbv
 have e:((⟨Ah,Al,Ak,Ai,An,Am⟩:Ac),4)=Ax (⟨Ah,Al,Ak,Ai,An,Am⟩:Ac) name:=(by unfold Ax;rw[if_neg (by rw[aa];decide),if_neg (by rw[ab];decide),if_neg (by rw[ad];omega),if_pos (by dsimp only;omega)])
 rw[hr]at e
 simp only[Prod.mk.injEq,Ac.mk.injEq]at e
 obtain⟨⟨rfl,rfl,rfl,rfl,rfl,rfl⟩,rfl⟩:=e
 refine hQ _ _ ?_
 exact .many (.inl rfl) rfl rfl (.agg (.ref rfl (Ap Aq) (Bp Aq A2) (.d rfl (Ag As A1) (.d rfl (Ag Av A3) (.ref rfl (Ap At) (Bp At A0) (.d rfl rfl (.d rfl rfl (.nil))))))) (.d rfl rfl (.nil)))
 conv=>cbv
 refine .one (⟨Am,tx [],0⟩:Bs) Aq rfl fun a2 bc az ao=>?_
 conv=>cbv
 have hri:=Hi aa
 simp only[]at hri
 have hnz:=Sv ab
 refine .add fun a0 ap=>?_
 conv=>cbv
 refine .litL 1 fun bd aq a3=>?_
 conv=>cbv
 refine .litR 1 fun be ar a4=>?_
 conv=>cbv
 generalize af:Bw Am=bf
 refine .dd hP (Xad (by unfold Xv;omega) af) ?_
 conv=>cbv
 have zr17:=Px af (by unfold Xv;omega)
 refine .go fun ae au a5=>?_
 conv=>cbv
 generalize ag:(Ay Al ae).1=al
 generalize ah:al.map Ae=a6
 generalize am:Nh (Ah++[(⟨Am,tx [],0⟩:Bs)]) Ak (Ai++[ae])=ak
 obtain⟨a7,ai⟩:∃m,m=ak.length:=⟨_,rfl⟩
 generalize ac:(ak++List.replicate ((Ah++[(⟨Am,tx [],0⟩:Bs)]).length - ak.length) (⟨0,tx [],0⟩:Bs)).map A5=a8
 generalize aj:(Ai++[ae]).map cS=bg
 obtain⟨a9,an⟩:∃m,m=(Ai++[ae]).length:=⟨_,rfl⟩
 refine .bx [12,14,7] [14,7] hP (Xbv ao As Av At (by first|assumption|omega|(simp;omega)) (by first|assumption|omega|(simp;omega)) (by rw[List.length_append,List.length_singleton];omega) (by omega) (by omega) (by omega) (by omega) hss ((congrArg (List.map Ae) ag).trans ah) am ai ac aj an) rfl rfl rfl rfl ?_
 conv=>cbv
 have e:((⟨ak,al,Ak,Ai++[ae],An,a0⟩:Ac),0)=Ax (⟨Ah,Al,Ak,Ai,An,Am⟩:Ac) name:=(by unfold Ax;rw[if_neg (by rw[aa];decide),if_neg (by rw[ab];decide),if_neg (by rw[ad];omega),if_neg (by dsimp only;omega)];unfold Sc;dsimp only;rw[show tx [43]++name++tx [58]++Bw Am=ae from(by rw[au,ar,aq,af];rfl),am,ag,ap])
 rw[hr]at e
 simp only[Prod.mk.injEq,Ac.mk.injEq]at e
 obtain⟨⟨rfl,rfl,rfl,rfl,rfl,rfl⟩,rfl⟩:=e
 refine hQ _ _ ?_
 exact .many (.inl rfl) rfl rfl (.agg (.sub rfl (by rw[←ac,List.length_map,List.length_append];omega) (by rw[←ac,←A2,ai,List.drop_zero,List.map_append,List.take_left' (by rw[List.length_map])]) (.d rfl (Ag ah A1) (.d rfl (Ag Av A3) (.ref rfl (Ap aj) (Bp aj A0) (.d rfl rfl (.d rfl rfl (.nil))))))) (.d rfl rfl (.nil)))
theorem Tk{onod:List Bs}{F5:List (List D)}{oent:List Aj}{F8:List (List D)}{oold:List Aj}{Gc:List (List D)}{oste:List ByteArray}{Gb:List (List D)}{oroo:Int}{onex:Int}(Aq:Ah.map A5=Bo)(As:Al.map Ae=Bm)(Av:Ak.map Ae=Bl)(At:Ai.map cS=Bn)(hn:Ah.length≤1000000000)(he:Al.length≤1000000000)(ho:Ak.length≤1000000000)(hs:Ai.length<1000000000)(hss:okS Ai)(ag:H0 (⟨Ah,Al,Ak,Ai,An,Am⟩:Ac))(hr:Cw (⟨Ah,Al,Ak,Ai,An,Am⟩:Ac)=⟨onod,oent,oold,oste,oroo,onex⟩)(Ht:onod.map A5=F5)(H2:oent.map Ae=F8)(Hy:oold.map Ae=Gc)(Hw:oste.map cS=Gb):Fn Tryz.prog 239 [.agg [.d (.row 3 Bo),.d (.row 2 Bm),.d (.row 2 Bl),.d (.row 1 Bn),I An,I Am]] [] ⟨.agg [.d (.row 3 F5),.d (.row 2 F8),.d (.row 2 Gc),.d (.row 1 Gb),I oroo,I onex],[],[]⟩:=by
 refine Fn.go Wq Tryz.func239 fun P hP Q hQ=>?_
 conv=>cbv
 obtain⟨n2,ah⟩:∃m,m=Ah.length:=⟨_,rfl⟩
 obtain⟨n3,ai⟩:∃m,m=Ai.length:=⟨_,rfl⟩
 refine .ddN hP (M2 Aq As Av At (by omega) (by omega) (by omega) (by omega) ah ai) rfl ?_
 conv=>cbv
 generalize ac:B0 (⟨Ah,Al,Ak,Ai,An,Am⟩:Ac)=r4
 refine .dd hP (Rp Aq As Av At ag ac) ?_
 cases r4
 conv=>cbv
 have e:(⟨Ah,Al,Ak,Ai,An,Am⟩:Ac)=Cw (⟨Ah,Al,Ak,Ai,An,Am⟩:Ac):=(by unfold Cw;rw[if_pos ac])
 rw[hr]at e
 simp only[Ac.mk.injEq]at e
 obtain⟨rfl,rfl,rfl,rfl,rfl,rfl⟩:=e
 exact hQ _ _ (.one (.inl rfl) rfl (.agg (.ref rfl (Ap Aq) (Bp Aq Ht) (.d rfl (Ag As H2) (.d rfl (Ag Av Hy) (.ref rfl (Ap At) (Bp At Hw) (.d rfl rfl (.d rfl rfl (.nil))))))) .nil))
 conv=>cbv
 generalize ae:Cq Al=l5
 generalize ad:l5.map Ae=aj
 refine .dd hP (Cb As (by omega) ae ad) ?_
 conv=>cbv
 have e5:l5=Al:=ae.symm
 have ak:l5.length≤1000000000:=by rw[e5];exact he
 generalize af:Nh Ah l5 []=o7
 obtain⟨al,ab⟩:∃m,m=o7.length:=⟨_,rfl⟩
 generalize aa:(o7++List.replicate (Ah.length - o7.length) (⟨0,tx [],0⟩:Bs)).map A5=am
 refine .bx [12,6,13] [6,13] hP (Qt Aq As ad rfl (by first|assumption|omega) (by first|assumption|omega|rfl|(simp at*;omega)) (by omega) (by omega) (by simp) (fun _ h=>by cases h) af ab aa) rfl rfl rfl rfl ?_
 conv=>cbv
 have e:(⟨o7,Al,l5,[],An,Am⟩:Ac)=Cw (⟨Ah,Al,Ak,Ai,An,Am⟩:Ac):=(by unfold Cw;rw[if_neg (by rw[ac];decide)];dsimp only;rw[←af,e5])
 rw[hr]at e
 simp only[Ac.mk.injEq]at e
 obtain⟨rfl,rfl,rfl,rfl,rfl,rfl⟩:=e
 exact hQ _ _ (.one (.inl rfl) rfl (.agg (.sub rfl (by rw[←aa,List.length_map,List.length_append];omega) (by rw[←aa,←Ht,ab,List.drop_zero,List.map_append,List.take_left' (by rw[List.length_map])]) (.d rfl (Ag As H2) (.d rfl (Ag ad Hy) (.ref rfl rfl (by rw[←Hw];rfl) (.d rfl rfl (.d rfl rfl (.nil))))))) .nil))
end
section
open Go Go.Proofs
set_option maxRecDepth 20000
set_option maxHeartbeats 4000000
def Tg:List Aj→List ByteArray→Prop
 |_,[]=>True
 |now,s::ss=>srt now∧(Ay now s).2=true∧Tg (Ay now s).1 ss
theorem Hx{now:List Aj}{s:ByteArray}{ss:List ByteArray}(h:(Ay now s).2=true):Lb now (s::ss)=Lb (Ay now s).1 ss:=if_neg (by rw[h];decide)
theorem XcC{d:Ac}:∀{l:List ByteArray} {now:List Aj},El d now l=true→Tg now l∧Lb now l=(d.entries_,true)∧A9 d d.entries_=true
 |[],now,h=>by
  unfold El at h
  rw[Bool.and_eq_true]at h
  have e:now=d.entries_:=by
   have:=h.2
   unfold Hz at this
   exact of_decide_eq_true this
  refine⟨trivial,by rw[←e];rfl,by rw[←e];exact h.1⟩
 |s::ss,now,h=>by
  unfold El at h
  rw[Bool.and_eq_true,Bool.and_eq_true]at h
  obtain⟨a,b,c⟩:=XcC (now:=(Ay now s).1) h.2
  exact⟨⟨Xfn h.1.1,h.1.2,a⟩,by rw[Hx h.1.2,b],c⟩
theorem Pk:∀{l:List ByteArray} {now:List Aj} (k:Nat),Tg now l→Tg now (l.take k)
 |[],_,k,_=>by rw[List.take_nil];trivial
 |_::_,_,0,_=>trivial
 |_::_,_,k+1,h=>⟨h.1,h.2.1,Pk k h.2.2⟩
theorem Vl{s:ByteArray}{e:List Aj}:∀{l:List ByteArray} {now:List Aj},Tg now l→Lb now l=(e,true)→srt e→(Ay e s).2=true→Tg now (l++[s])
 |[],now,_,h,hs,h2=>by
  have e1:now=e:=congrArg Prod.fst h
  rw[e1]
  exact⟨hs,h2,trivial⟩
 |x::l,now,h,h1,hs,h2=>by
  rw[Hx h.2.1]at h1
  exact⟨h.1,h.2.1,Vl h.2.2 h1 hs h2⟩
theorem Wd:∀{l:List ByteArray} {now:List Aj},Tg now l→B9 now l=Lb now l∧(Lb now l).2=true
 |[],now,_=>⟨rfl,rfl⟩
 |s::ss,now,h=>by
  obtain⟨a,b⟩:=Wd (now:=(Ay now s).1) h.2.2
  have e2:B9 now (s::ss)=B9 (Dp now s).1 ss:=if_neg (by rw[Rx h.1,h.2.1];decide)
  rw[Hx h.2.1,e2,Rx h.1,a]
  exact⟨rfl,b⟩
def V7(l:List Aj)(id:Int):Bool:=l.any fun e=>decide (e.id_=id)
def XbH(old:List Aj)(steps:List ByteArray)(id:Int):Bool:=(List.range (steps.length+1)).any fun k=>V7 (B9 old (steps.take k)).1 id
theorem Vd{id:Int}:∀{l:List ByteArray} {now:List Aj},Tg now l→(Pf now l id=true↔∃k,k≤l.length∧V7 (Lb now (l.take k)).1 id=true)
 |[],now,_=>by
  constructor
  ·intro h;exact⟨0,Nat.le_refl _,h⟩
  ·rintro⟨k,_,h⟩
   rw[List.take_nil]at h
   exact h
 |s::ss,now,h=>by
  have ih:=Vd (id:=id) (now:=(Ay now s).1) h.2.2
  show(V7 now id||Pf (Ay now s).1 ss id)=true↔_
  rw[Bool.or_eq_true,ih]
  constructor
  ·rintro(h1|⟨k,hk,h1⟩)
   ·exact⟨0,Nat.zero_le _,h1⟩
   ·refine⟨k+1,by rw[List.length_cons];omega,?_⟩
    rw[List.take_succ_cons,Hx h.2.1]
    exact h1
  ·rintro⟨k,hk,h1⟩
   cases k with
   |zero=>exact .inl h1
   |succ k=>
    rw[List.take_succ_cons,Hx h.2.1]at h1
    exact .inr ⟨k,by rw[List.length_cons]at hk;omega,h1⟩
theorem XeN{old:List Aj}{steps:List ByteArray}(h:Tg old steps)(id:Int):XbH old steps id=Pf old steps id:=by
 rw[Bool.eq_iff_iff,Vd h]
 unfold XbH
 rw[List.any_eq_true]
 constructor
 ·rintro⟨k,hk,h1⟩
  rw[(Wd (Pk k h)).1]at h1
  exact⟨k,by have:=List.mem_range.1 hk;omega,h1⟩
 ·rintro⟨k,hk,h1⟩
  refine⟨k,List.mem_range.2 (by omega),?_⟩
  rw[(Wd (Pk k h)).1]
  exact h1
def Gz(d:Ac):Ac:=⟨d.nodes_.filter (fun x=>XbH d.old_ d.steps_ x.id_),d.entries_,d.old_,d.steps_,d.room_,d.next_⟩
theorem Vp{d:Ac}(h:Tg d.old_ d.steps_):Gz d=⟨Nh d.nodes_ d.old_ d.steps_,d.entries_,d.old_,d.steps_,d.room_,d.next_⟩:=by
 unfold Gz Nh
 rw[List.filter_congr fun x _=>XeN h x.id_]
theorem Xgv{n:ByteArray}(h:Bg n=true):∀(j:Nat) x,n.data.toList[j]? =some x→x≠58:=by
 intro j x hx e
 unfold Bg at h
 rw[Bool.and_eq_true]at h
 have:=List.all_eq_true.1 h.1 x (List.mem_of_getElem? hx)
 rw[e]at this
 exact absurd this (by decide)
theorem Xgz{a b:ByteArray}(h:Bg a=true):Jp (a++tx [58]++b)=(a,b,true):=by
 have hl:(a++tx [58]++b).data.toList=a.data.toList++58::b.data.toList:=by
  rw[ByteArray.data_append,ByteArray.data_append,Array.toList_append,Array.toList_append,Nq,List.append_assoc]
  rfl
 have ha:a.data.toList.length=a.size:=Array.length_toList
 have e:H5 (a++tx [58]++b)=(a.size:Int):=by
  unfold H5
  rw[hl,Ml _ a.size]
  ·rw[List.getElem?_append_right (by omega),ha,Nat.sub_self]
   rfl
  ·intro j hj x hx
   rw[List.getElem?_append_left (by omega)]at hx
   exact Xgv h j x hx
 unfold Jp
 rw[e,if_pos (by omega),Int.toNat_natCast]
 have hz:(a++tx [58]++b).size=a.size+1+b.size:=by rw[ByteArray.size_append,ByteArray.size_append,B2];rfl
 have hb:b.data.toList.length=b.size:=Array.length_toList
 have e1:(a++tx [58]++b).extract 0 a.size=a:=by
  apply Kv
  rw[Cu,hl,List.drop_zero,List.take_left' ha]
 have e2:(a++tx [58]++b).extract (a.size+1) (a++tx [58]++b).size=b:=by
  apply Kv
  rw[Cu,List.take_of_length_le (by rw[Array.length_toList];exact Nat.le_refl _),hl,List.drop_append,List.drop_of_length_le (by omega),ha,Nat.add_sub_cancel_left]
  rfl
 rw[e1,e2]
theorem XaX{c:UInt8}{s:ByteArray}:(tx [c]++s).extract 1 (tx [c]++s).size=s:=by
 apply Kv
 rw[Cu,List.take_of_length_le (by rw[Array.length_toList];exact Nat.le_refl _),ByteArray.data_append,Array.toList_append,Nq]
 rfl
theorem XgT{c:UInt8}{s:ByteArray}:(tx [c]++s).data.toList.head?=some c:=by
 rw[ByteArray.data_append,Array.toList_append,Nq]
 rfl
theorem Xiu{c:UInt8}{s:ByteArray}:tx [c]++s≠tx []:=by
 intro e
 have:=congrArg ByteArray.size e
 rw[ByteArray.size_append,B2,B2]at this
 simp at this
theorem XeC{l:List Aj}{n:ByteArray}{i:Int}(hn:Bg n=true)(h0:0≤i)(h1:i≤1000000000):Ay l (tx [43]++(n++tx [58]++Bw i))=(Sd l n i,true):=by
 have hc:Jp ((tx [43]++(n++tx [58]++Bw i)).extract 1 (tx [43]++(n++tx [58]++Bw i)).size)=(n,Bw i,true):=by rw[XaX];exact Xgz hn
 rw[Ki Xiu XgT hc,Xgf h0 h1,if_neg (by rw[hn];simp)]
theorem app3(a b c d:ByteArray):a++b++c++d=a++(b++c++d):=by
 rw[ByteArray.append_assoc,ByteArray.append_assoc,ByteArray.append_assoc]
theorem Rq{d:Ac}(h:B0 d=true):Tg d.old_ d.steps_∧Lb d.old_ d.steps_=(d.entries_,true)∧A9 d d.entries_=true:=XcC (diskOk_iff.1 h).2.2.2.2
theorem XaC{d:Ac}(h:B0 d=true):srt d.entries_:=Xfn (Rq h).2.2
theorem Xhd{d:Ac}{n:ByteArray}(h:B0 d=true)(hp:0≤A7 d.entries_ n):Bg n=true∧0≤Cf d n:=by
 obtain⟨hi,hq⟩:=Ws (p:=fun e=>Bz e n) (rfl:A7 d.entries_ n=_) hp
 have h1:=Xe9 (Rq h).2.2 hi
 unfold Bz at hq
 rw[decide_eq_true_eq]at hq
 unfold Em at h1
 rw[XbE hi rfl,Bool.and_eq_true,Bool.and_eq_true,decide_eq_true_eq]at h1
 refine⟨by rw[←hq];exact h1.1.2,?_⟩
 unfold Cf
 rw[if_neg (by omega)]
 unfold Cg
 rw[if_neg (by omega),←gD hi]
 exact h1.2
theorem Vn{d:Ac}{n:ByteArray}(h:A7 d.entries_ n<0):Cf d n<0:=by
 unfold Cf
 rw[if_pos h]
 decide
theorem Xdw{d:Ac}{s:ByteArray}{e:List Aj}{nodes:List Bs}{r x:Int}(h:B0 d=true)(hs:Ay d.entries_ s=(e,true)):Gz ⟨nodes,e,d.old_,d.steps_++[s],r,x⟩=Sc ⟨nodes,d.entries_,d.old_,d.steps_,r,x⟩ s:=by
 rw[Vp (Vl (Rq h).1 (Rq h).2.1 (XaC h) (by rw[hs]))]
 unfold Sc
 rw[hs]
theorem XaZ{d:Ac}{name:ByteArray}{nodes:List Bs}{r x:Int}(h:B0 d=true)(hn:Bg name=true):Gz ⟨nodes,Du d.entries_ ⟨name,d.next_⟩,d.old_,d.steps_++[tx [43]++name++tx [58]++Bw d.next_],r,x⟩=Sc ⟨nodes,d.entries_,d.old_,d.steps_,r,x⟩ (tx [43]++name++tx [58]++Bw d.next_):=by
 have hr:=Hi h
 rw[Xct (XaC h),app3]
 exact Xdw h (XeC hn (by omega) (by omega))
theorem V0{d:Ac}{n:ByteArray}(h:0≤A7 d.entries_ n):Hf d (Cg d.entries_ n)=Cf d n:=by
 unfold Cf
 rw[if_neg (by omega)]
theorem XhT{l:List Aj}{n:ByteArray}(h:Do l n=true):0≤A7 l n:=by
 unfold Do at h
 exact of_decide_eq_true h
theorem Xc8{l:List Aj}{n:ByteArray}(h:Do l n=false):A7 l n<0:=by
 unfold Do at h
 have:=of_decide_eq_false h
 omega
theorem Uf{p:Nat→Bool}{k:Nat}:(List.range (k+1)).any p=((List.range k).any p||p k):=by
 rw[List.range_succ,List.any_append]
 simp
theorem Ul{old:List Aj}{steps:List ByteArray}{id:Int}{k:Nat}(hk:k≤steps.length+1)(h:true=(List.range k).any fun k=>V7 (B9 old (steps.take k)).1 id):XbH old steps id=true:=by
 obtain⟨j,hj,h1⟩:=List.any_eq_true.1 h.symm
 exact List.any_eq_true.2 ⟨j,List.mem_range.2 (by have:=List.mem_range.1 hj;omega),h1⟩
theorem P4{l:List Aj}{k:Nat}{id:Int}(hk:k<l.length):V7 (l.take (k+1)) id=(V7 (l.take k) id||decide (l[k].id_=id)):=XcS hk
theorem Xdf(l:List Aj)(s:ByteArray):(Dp l s).1.length≤l.length+1:=by
 unfold Dp
 split
 ·simp
 ·split
  ·exact Ez rfl
  ·have h1:=I6 (rfl:Dn l (Bk s).1=_)
   split
   ·have h2:=Ez (rfl:Du (Dn l (Bk s).1) ⟨(Bk s).2.1,Cg l (Bk s).1⟩=_)
    show(Du _ _).length≤_
    omega
   ·show(Dn _ _).length≤_
    omega
theorem Xfr:∀(l:List ByteArray) (now:List Aj),(B9 now l).1.length≤now.length+l.length
 |[],_=>Nat.le_refl _
 |s::l,now=>by
  have h1:=Xdf now s
  have h2:=Xfr l (Dp now s).1
  unfold B9
  split
  ·exact Nat.zero_le _
  ·rw[List.length_cons]
   omega
theorem W8{t:ByteArray}{n:Nat}(h:t.size≤n):t.extract 0 n=t:=by
 apply Kv
 rw[Cu,List.drop_zero,List.take_of_length_le (by rw[Array.length_toList];exact h)]
end
section
open Go Go.Proofs
set_option maxRecDepth 20000
set_option maxHeartbeats 4000000
def Yh:List (Nat×TyRow):=[ty3,ty9,Xc3,Xd8,Xde,XaI,Xx,XbM]
theorem Yk:By Tryz.prog Yh:=By.of (by kernel_rfl)
theorem Hs:Setup Tryz.prog Yh:=⟨Yk,mixed⟩
variable {Ah onod Fx:List Bs} {Bo Bm Bl Bn F5 F8 Gc Gb Di Da Db Dd:List (List D)} {Al Ak oent oold F3 Fr:List Aj} {Ai oste Fw:List ByteArray} {An Am oroo onex Ft Fz ob:Int} {name:ByteArray}
theorem O2{nn ne no ns:Nat}(Aq:Ah.map A5=Bo)(As:Al.map Ae=Bm)(Av:Ak.map Ae=Bl)(At:Ai.map cS=Bn)(hn:Ah.length≤4000000000)(he:Al.length≤4000000000)(ho:Ak.length≤4000000000)(hs:Ai.length≤4000000000)(hnn:nn=Ah.length)(hne:ne=Al.length)(hno:no=Ak.length)(hns:ns=Ai.length):Fn Tryz.prog 97 [.agg [.d (.row 3 Bo),.d (.row 2 Bm),.d (.row 2 Bl),.d (.row 1 Bn),I An,I Am]] [] ⟨.agg [.ref 0 0 nn,.ref 1 0 ne,.ref 2 0 no,.ref 3 0 ns,I An,I Am],[.row 3 false Bo,.row 2 false Bm,.row 2 false Bl,.row 1 false Bn],[]⟩:=by
 refine Fn.goR Hs Tryz.func97 fun P hP Q hQ=>?_
 conv=>cbv
 refine .row0 Aq fun aa z1 ai ab=>?_
 conv=>cbv
 refine .row0 As fun ac z2 aj ad=>?_
 conv=>cbv
 refine .row0 Av fun ae z3 ak af=>?_
 conv=>cbv
 refine .row0 At fun ag z4 al ah=>?_
 conv=>cbv
 obtain rfl:z1=Bo:=by rw[←ab,Aq]
 obtain rfl:z2=Bm:=by rw[←ad,As]
 obtain rfl:z3=Bl:=by rw[←af,Av]
 obtain rfl:z4=Bn:=by rw[←ah,At]
 obtain rfl:aa=nn:=by omega
 obtain rfl:ac=ne:=by omega
 obtain rfl:ae=no:=by omega
 obtain rfl:ag=ns:=by omega
 exact hQ _ _ (.of [7,9,11,13] (.inl rfl) rfl rfl rfl rfl)
theorem Uq(Aq:Ah.map A5=Bo)(As:Al.map Ae=Bm)(Av:Ak.map Ae=Bl)(At:Ai.map cS=Bn)(hn:Ah.length≤4000000000)(he:Al.length≤4000000000)(ho:Ak.length≤4000000000)(hs:Ai.length≤4000000000):Fn Tryz.prog 97 [.agg [.d (.row 3 Bo),.d (.row 2 Bm),.d (.row 2 Bl),.d (.row 1 Bn),I An,I Am]] [] ⟨.agg [.d (.row 3 Bo),.d (.row 2 Bm),.d (.row 2 Bl),.d (.row 1 Bn),I An,I Am],[],[]⟩:=by
 refine Fn.go Hs Tryz.func97 fun P hP Q hQ=>?_
 conv=>cbv
 refine .row0 Aq fun ai z1 ae aa=>?_
 conv=>cbv
 refine .row0 As fun aj z2 af ab=>?_
 conv=>cbv
 refine .row0 Av fun ak z3 ag ac=>?_
 conv=>cbv
 refine .row0 At fun al z4 ah ad=>?_
 conv=>cbv
 obtain rfl:z1=Bo:=by rw[←aa,Aq]
 obtain rfl:z2=Bm:=by rw[←ab,As]
 obtain rfl:z3=Bl:=by rw[←ac,Av]
 obtain rfl:z4=Bn:=by rw[←ad,At]
 exact hQ _ _ (.one (.inl rfl) rfl (.agg (.ref rfl (Ap Aq) rfl (.ref rfl (Ap As) rfl (.ref rfl (Ap Av) rfl (.ref rfl (Ap At) rfl (.d rfl rfl (.d rfl rfl .nil)))))) .nil))
theorem Vq(Aq:Ah.map A5=Bo)(As:Al.map Ae=Bm)(Av:Ak.map Ae=Bl)(At:Ai.map cS=Bn)(hn:Ah.length≤2000000000)(hol:Ak.length≤1000000000)(hsl:Ai.length≤1000000000)(hss:okS Ai)(hr:Gz (⟨Ah,Al,Ak,Ai,An,Am⟩:Ac)=⟨onod,oent,oold,oste,oroo,onex⟩)(Ht:onod.map A5=F5)(H2:oent.map Ae=F8)(Hy:oold.map Ae=Gc)(Hw:oste.map cS=Gb):Fn Tryz.prog 165 [.agg [.d (.row 3 Bo),.d (.row 2 Bm),.d (.row 2 Bl),.d (.row 1 Bn),I An,I Am]] [] ⟨.agg [.d (.row 3 F5),.d (.row 2 F8),.d (.row 2 Gc),.d (.row 1 Gb),I oroo,I onex],[],[]⟩:=by
 refine Fn.go Hs Tryz.func165 fun P hP Q hQ=>?_
 conv=>cbv
 refine LoopW.lp (κ:=Int×(List (List D))×Nat) Hs hP [6] [1,2] (fun(i4,ad,ae)=>[(3,.ref 7 0 ae),(4,I i4)]) (fun(i4,ad,ae)=>[(7,.row 3 false ad)])
  (fun(i4,ad,ae)=>∃(w7:List Bs),w7.map A5=ad∧ae=w7.length∧0≤i4∧i4≤Ah.length∧w7=(Ah.take i4.toNat).filter (fun x=>XbH Ak Ai x.id_)∧w7.length≤i4)
  (fun(i4,ad,ae)=>(Ah.length - i4).toNat) (0,[],0) ⟨[],rfl,rfl,by omega,by omega,by simp,by simp⟩ ⟨rfl,rfl,trivial⟩ rfl ?_
 rintro⟨i4,ad,ae⟩ J ⟨w7,ah,a6,h0,h1,hx,hxl⟩ hJ
 conv=>cbv
 refine .go Aq fun v1 a9=>?_
 conv=>cbv
 refine .lss (fun h2=>?_) fun h2=>?_
 conv=>cbv
 refine LoopW.lp (κ:=Bool×Int) Hs hP [] [1,2,3,4] (fun(b5,i6)=>[(5,B b5),(6,I i6)]) (fun(b5,i6)=>[])
  (fun(b5,i6)=>0≤i6∧i6≤Ai.length+1∧b5=(List.range i6.toNat).any (fun k=>V7 (B9 Ak (Ai.take k)).1 (Ah.getD i4.toNat ⟨0,tx [],0⟩).id_))
  (fun(b5,i6)=>(Ai.length+1 - i6).toNat) (false,0) ⟨by omega,by omega,rfl⟩ ⟨rfl,rfl,trivial⟩ rfl ?_
 rintro⟨b5,i6⟩ J1 ⟨k0,k1,hu⟩ ay
 conv=>cbv
 refine .go At fun v3 ba=>?_
 conv=>cbv
 refine .leq (fun h4=>?_) fun h4=>?_
 conv=>cbv
 cases b5
 conv=>cbv
 rcases ap:Dt Ak Ai i6 with⟨aa,az⟩
 generalize ai:aa.map Ae=a7
 have hS:B9 Ak (Ai.take i6.toNat)=(aa,az):=by rw[←Yb (by omega) (by omega)];exact ap
 have bb:aa.length≤2000000000:=by
  have:=Xfr (Ai.take i6.toNat) Ak
  rw[hS,List.length_take]at this
  simp only[]at this
  omega
 refine .dd hP (Sz Av At hol hsl hss ap ai) ?_
 conv=>cbv
 refine LoopW.lp (κ:=Bool×Int) Hs hP [] [1,2,3,4,6,7,24,25] (fun(b5,i9)=>[(5,B b5),(9,I i9)]) (fun(b5,i9)=>[])
  (fun(b5,i9)=>0≤i9∧i9≤aa.length∧b5=V7 (aa.take i9.toNat) (Ah.getD i4.toNat ⟨0,tx [],0⟩).id_)
  (fun(b5,i9)=>(aa.length - i9).toNat) (false,0) ⟨by omega,by omega,rfl⟩ ⟨rfl,rfl,trivial⟩ rfl ?_
 rintro⟨b5,i9⟩ J2 ⟨m0,m1,hb⟩ am
 conv=>cbv
 refine .go ai fun v6 bc=>?_
 conv=>cbv
 refine .lss (fun h7=>?_) fun h7=>?_
 conv=>cbv
 cases b5
 conv=>cbv
 refine .go i9.toNat ai fun al ⟨a0,a8⟩ aq=>?_
 conv=>cbv
 refine .go i4.toNat Aq fun ar ⟨au,a1,a2⟩ a3=>?_
 conv=>cbv
 have hide:(Ah.getD i4.toNat ⟨0,tx [],0⟩).id_=au:=by rw[←gD ar,←a3]
 refine .eql (fun h10=>?_) fun h10=>?_
 conv=>cbv
 refine .add fun aj aw=>?_
 conv=>cbv
 exact .go [] (true,aj) (am _ ⟨by omega,by omega,by rw[show aj.toNat=i9.toNat+1 by omega,P4 al,←aq,hide];simp only[];rw[decide_eq_true h10,Bool.or_true]⟩ mlt)
 conv=>cbv
 refine .add fun aj aw=>?_
 conv=>cbv
 exact .go [] (false,aj) (am _ ⟨by omega,by omega,by rw[show aj.toNat=i9.toNat+1 by omega,P4 al,←aq,←hb,hide];simp only[];rw[decide_eq_false h10];rfl⟩ mlt)
 conv=>cbv
 refine .add fun v8 a4=>?_
 conv=>cbv
 exact .go [] (true,v8) (am _ ⟨by omega,by omega,by rw[show v8.toNat=i9.toNat+1 by omega,P4 (show i9.toNat<aa.length by omega),←hb];rfl⟩ mlt)
 conv=>cbv
 refine .add fun v8 a4=>?_
 conv=>cbv
 exact .go [] (b5,v8) (ay _ ⟨by omega,by omega,by rw[show v8.toNat=i6.toNat+1 by omega,Uf,←hu,Bool.false_or,hS];show _=V7 aa _;rw[hb,List.take_of_length_le (by omega)]⟩ mlt)
 conv=>cbv
 refine .go i4.toNat Aq fun ab ⟨ac,af,ag⟩ ak=>?_
 conv=>cbv
 refine .one (⟨ac,af,ag⟩:Bs) ah rfl fun an z6 ax ao=>?_
 conv=>cbv
 refine .add fun v7 a5=>?_
 conv=>cbv
 have hid:(Ah.getD i4.toNat ⟨0,tx [],0⟩).id_=ac:=by rw[←gD ab,←ak]
 have hus:=Ul (show i6.toNat≤Ai.length+1 by omega) hu
 rw[hid]at hus
 exact .go [9] (v7,z6,an) (hJ _ ⟨_,ao,Q7,by omega,by omega,by rw[show v7.toNat=i4.toNat+1 by omega,I7 ab,←hx,←ak];simp only[];rw[hus];rfl,by rw[List.length_append,List.length_singleton];omega⟩ mlt)
 conv=>cbv
 cases b5
 conv=>cbv
 refine .add fun v5 bd=>?_
 conv=>cbv
 have hj:i4.toNat<Ah.length:=by omega
 have hus:XbH Ak Ai Ah[i4.toNat].id_=false:=by rw[gD hj (d:=⟨0,tx [],0⟩)];unfold XbH;rw[show Ai.length+1=i6.toNat by omega];exact hu.symm
 exact .go [7] (v5,ad,ae) (hJ _ ⟨_,ah,Q7,by omega,by omega,by rw[show v5.toNat=i4.toNat+1 by omega,I7 hj,←hx,hus];simp,by omega⟩ mlt)
 conv=>cbv
 refine .go i4.toNat Aq fun ab ⟨ac,af,ag⟩ ak=>?_
 conv=>cbv
 refine .one (⟨ac,af,ag⟩:Bs) ah rfl fun an z6 ax ao=>?_
 conv=>cbv
 refine .add fun v7 a5=>?_
 conv=>cbv
 have hid:(Ah.getD i4.toNat ⟨0,tx [],0⟩).id_=ac:=by rw[←gD ab,←ak]
 have hus:=Ul (show i6.toNat≤Ai.length+1 by omega) hu
 rw[hid]at hus
 exact .go [9] (v7,z6,an) (hJ _ ⟨_,ao,Q7,by omega,by omega,by rw[show v7.toNat=i4.toNat+1 by omega,I7 ab,←hx,←ak];simp only[];rw[hus];rfl,by rw[List.length_append,List.length_singleton];omega⟩ mlt)
 conv=>cbv
 have e:(⟨w7,Al,Ak,Ai,An,Am⟩:Ac)=Gz (⟨Ah,Al,Ak,Ai,An,Am⟩:Ac):=(by unfold Gz;dsimp only;rw[hx,List.take_of_length_le (by omega)])
 rw[hr]at e
 simp only[Ac.mk.injEq]at e
 obtain⟨rfl,rfl,rfl,rfl,rfl,rfl⟩:=e
 exact hQ _ _ (.one (.inl rfl) rfl (.agg (.ref rfl (Ap ah) (Bp ah Ht) (.d rfl (Ag As H2) (.d rfl (Ag Av Hy) (.d rfl (Ag At Hw) (.d rfl rfl (.d rfl rfl (.nil))))))) .nil))
theorem Qv(Aq:Ah.map A5=Bo)(As:Al.map Ae=Bm)(Av:Ak.map Ae=Bl)(At:Ai.map cS=Bn)(hn:Ah.length≤1000000000)(he:Al.length≤1000000000)(ho:Ak.length≤1000000000)(hs:Ai.length<1000000000)(hss:okS Ai)(a6:H0 (⟨Ah,Al,Ak,Ai,An,Am⟩:Ac))(hm:name.size≤1000000000)(hr:Ax (⟨Ah,Al,Ak,Ai,An,Am⟩:Ac) name=(⟨Fx,F3,Fr,Fw,Ft,Fz⟩,ob))(A2:Fx.map A5=Di)(A1:F3.map Ae=Da)(A3:Fr.map Ae=Db)(A0:Fw.map cS=Dd):Fn Tryz.prog 226 [.agg [.d (.row 3 Bo),.d (.row 2 Bm),.d (.row 2 Bl),.d (.row 1 Bn),I An,I Am],S name] [] ⟨.tup [.agg [.d (.row 3 Di),.d (.row 2 Da),.d (.row 2 Db),.d (.row 1 Dd),I Ft,I Fz],I ob],[],[]⟩:=by
 refine Fn.go Hs Tryz.func226 fun P hP Q hQ=>?_
 conv=>cbv
 obtain⟨n2,a7⟩:∃m,m=Ah.length:=⟨_,rfl⟩
 obtain⟨n3,a8⟩:∃m,m=Al.length:=⟨_,rfl⟩
 obtain⟨n4,a9⟩:∃m,m=Ak.length:=⟨_,rfl⟩
 obtain⟨n5,ba⟩:∃m,m=Ai.length:=⟨_,rfl⟩
 refine .ddN hP (O2 Aq As Av At (by omega) (by omega) (by omega) (by omega) a7 a8 a9 ba) rfl ?_
 conv=>cbv
 generalize aa:B0 (⟨Ah,Al,Ak,Ai,An,Am⟩:Ac)=r6
 refine .lnt hP (Rl Aq As Av At a6 aa) (.agg (.ref rfl (Ap Aq) (.ref rfl (Ap As) (.ref rfl (Ap Av) (.ref rfl (Ap At) (.d rfl (.d rfl .nil)))))) .nil) ?_
 cases r6
 conv=>cbv
 have e:((⟨Ah,Al,Ak,Ai,An,Am⟩:Ac),3)=Ax (⟨Ah,Al,Ak,Ai,An,Am⟩:Ac) name:=(by unfold Ax;rw[if_pos aa])
 rw[hr]at e
 simp only[Prod.mk.injEq,Ac.mk.injEq]at e
 obtain⟨⟨rfl,rfl,rfl,rfl,rfl,rfl⟩,rfl⟩:=e
 refine hQ _ _ ?_
 exact .many (.inl rfl) rfl rfl (.agg (.ref rfl (Ap Aq) (Bp Aq A2) (.ref rfl (Ap As) (Bp As A1) (.ref rfl (Ap Av) (Bp Av A3) (.ref rfl (Ap At) (Bp At A0) (.d rfl rfl (.d rfl rfl (.nil))))))) (.d rfl rfl (.nil)))
 conv=>cbv
 generalize ab:Bg name=r7
 refine .dd hP (Mp (by omega) ab) ?_
 cases r7
 conv=>cbv
 have e:((⟨Ah,Al,Ak,Ai,An,Am⟩:Ac),1)=Ax (⟨Ah,Al,Ak,Ai,An,Am⟩:Ac) name:=(by unfold Ax;rw[if_neg (by rw[aa];decide),if_pos ab])
 rw[hr]at e
 simp only[Prod.mk.injEq,Ac.mk.injEq]at e
 obtain⟨⟨rfl,rfl,rfl,rfl,rfl,rfl⟩,rfl⟩:=e
 refine hQ _ _ ?_
 exact .many (.inl rfl) rfl rfl (.agg (.ref rfl (Ap Aq) (Bp Aq A2) (.ref rfl (Ap As) (Bp As A1) (.ref rfl (Ap Av) (Bp Av A3) (.ref rfl (Ap At) (Bp At A0) (.d rfl rfl (.d rfl rfl (.nil))))))) (.d rfl rfl (.nil)))
 conv=>cbv
 generalize ak:Do Al name=r8
 refine .lnt hP (Of As (by omega) ak) (.ref rfl (Ap As) (.d rfl .nil)) ?_
 cases r8
 conv=>cbv
 refine .go fun v9 bl=>?_
 conv=>cbv
 refine .geq (fun h10=>?_) fun h10=>?_
 conv=>cbv
 have e:((⟨Ah,Al,Ak,Ai,An,Am⟩:Ac),4)=Ax (⟨Ah,Al,Ak,Ai,An,Am⟩:Ac) name:=(by unfold Ax;rw[if_neg (by rw[aa];decide),if_neg (by rw[ab];decide),if_neg (by have:=Xc8 ak;dsimp only;omega),if_pos (by dsimp only;omega)])
 rw[hr]at e
 simp only[Prod.mk.injEq,Ac.mk.injEq]at e
 obtain⟨⟨rfl,rfl,rfl,rfl,rfl,rfl⟩,rfl⟩:=e
 refine hQ _ _ ?_
 exact .many (.inl rfl) rfl rfl (.agg (.ref rfl (Ap Aq) (Bp Aq A2) (.ref rfl (Ap As) (Bp As A1) (.ref rfl (Ap Av) (Bp Av A3) (.ref rfl (Ap At) (Bp At A0) (.d rfl rfl (.d rfl rfl (.nil))))))) (.d rfl rfl (.nil)))
 conv=>cbv
 refine .go fun bm be=>?_
 conv=>cbv
 refine .geq (fun h12=>?_) fun h12=>?_
 conv=>cbv
 have e:((⟨Ah,Al,Ak,Ai,An,Am⟩:Ac),4)=Ax (⟨Ah,Al,Ak,Ai,An,Am⟩:Ac) name:=(by unfold Ax;rw[if_neg (by rw[aa];decide),if_neg (by rw[ab];decide),if_neg (by have:=Xc8 ak;dsimp only;omega),if_pos (by dsimp only;omega)])
 rw[hr]at e
 simp only[Prod.mk.injEq,Ac.mk.injEq]at e
 obtain⟨⟨rfl,rfl,rfl,rfl,rfl,rfl⟩,rfl⟩:=e
 refine hQ _ _ ?_
 exact .many (.inl rfl) rfl rfl (.agg (.ref rfl (Ap Aq) (Bp Aq A2) (.ref rfl (Ap As) (Bp As A1) (.ref rfl (Ap Av) (Bp Av A3) (.ref rfl (Ap At) (Bp At A0) (.d rfl rfl (.d rfl rfl (.nil))))))) (.d rfl rfl (.nil)))
 conv=>cbv
 refine .geq (fun h13=>?_) fun h13=>?_
 conv=>cbv
 have e:((⟨Ah,Al,Ak,Ai,An,Am⟩:Ac),4)=Ax (⟨Ah,Al,Ak,Ai,An,Am⟩:Ac) name:=(by unfold Ax;rw[if_neg (by rw[aa];decide),if_neg (by rw[ab];decide),if_neg (by have:=Xc8 ak;dsimp only;omega),if_pos (by dsimp only;omega)])
 rw[hr]at e
 simp only[Prod.mk.injEq,Ac.mk.injEq]at e
 obtain⟨⟨rfl,rfl,rfl,rfl,rfl,rfl⟩,rfl⟩:=e
 refine hQ _ _ ?_
 exact .many (.inl rfl) rfl rfl (.agg (.ref rfl (Ap Aq) (Bp Aq A2) (.ref rfl (Ap As) (Bp As A1) (.ref rfl (Ap Av) (Bp Av A3) (.ref rfl (Ap At) (Bp At A0) (.d rfl rfl (.d rfl rfl (.nil))))))) (.d rfl rfl (.nil)))
 conv=>cbv
 have hri:=Hi aa
 simp only[]at hri
 refine .one (⟨Am,tx [],0⟩:Bs) Aq rfl fun bf bn bb ao=>?_
 conv=>cbv
 generalize ap:Du Al (⟨name,Am⟩:Aj)=ax
 generalize aq:ax.map Ae=bg
 refine .lntD hP (Ip As (by omega) ap aq) (.ref rfl (Ap As) (.agg (.d rfl (.d rfl .nil)) .nil)) ?_
 conv=>cbv
 have hnz:=Sv ab
 refine .litL 1 fun bo ay bh=>?_
 conv=>cbv
 refine .litR 1 fun bp az bi=>?_
 conv=>cbv
 generalize al:Bw Am=bq
 refine .dd hP (Y6 (by unfold Xv;omega) al) ?_
 conv=>cbv
 have zr18:=Px al (by unfold Xv;omega)
 refine .go fun aw a0 bj=>?_
 conv=>cbv
 refine .one aw At rfl fun bk bt bc ar=>?_
 conv=>cbv
 refine .add fun bd a1=>?_
 conv=>cbv
 rcases au:Gz (⟨Ah++[(⟨Am,tx [],0⟩:Bs)],ax,Ak,Ai++[aw],An,bd⟩:Ac)with⟨ag,ah,ai,aj,am,an⟩
 generalize ac:ag.map A5=a2
 generalize ad:ah.map Ae=a3
 generalize ae:ai.map Ae=a4
 generalize af:aj.map cS=a5
 refine .lntD hP (Vq ao aq Av ar (by rw[List.length_append,List.length_singleton];omega) (by omega) (by rw[List.length_append,List.length_singleton];omega) (W7 hss (by omega)) au ac ad ae af) (.agg (.ref rfl (Ap ao) (.d rfl (.ref rfl (Ap Av) (.ref rfl (Ap ar) (.d rfl (.d rfl .nil)))))) .nil) ?_
 conv=>cbv
 have e:((⟨ag,ah,ai,aj,am,an⟩:Ac),0)=Ax (⟨Ah,Al,Ak,Ai,An,Am⟩:Ac) name:=(by unfold Ax;rw[if_neg (by rw[aa];decide),if_neg (by rw[ab];decide),if_neg (by have:=Xc8 ak;dsimp only;omega),if_neg (by dsimp only;omega)];exact congrArg (fun x:Ac=>(x,(0:Int))) (au.symm.trans (by rw[←ap,a1,show aw=tx [43]++name++tx [58]++Bw Am from(by rw[a0,az,ay,al];rfl)];exact XaZ aa ab)))
 rw[hr]at e
 simp only[Prod.mk.injEq,Ac.mk.injEq]at e
 obtain⟨⟨rfl,rfl,rfl,rfl,rfl,rfl⟩,rfl⟩:=e
 refine hQ _ _ ?_
 exact .many (.inl rfl) rfl rfl (.agg (.d rfl (Ag ac A2) (.d rfl (Ag ad A1) (.d rfl (Ag ae A3) (.d rfl (Ag af A0) (.d rfl rfl (.d rfl rfl (.nil))))))) (.d rfl rfl (.nil)))
 conv=>cbv
 have e:((⟨Ah,Al,Ak,Ai,An,Am⟩:Ac),2)=Ax (⟨Ah,Al,Ak,Ai,An,Am⟩:Ac) name:=(by unfold Ax;rw[if_neg (by rw[aa];decide),if_neg (by rw[ab];decide),if_pos (XhT ak)])
 rw[hr]at e
 simp only[Prod.mk.injEq,Ac.mk.injEq]at e
 obtain⟨⟨rfl,rfl,rfl,rfl,rfl,rfl⟩,rfl⟩:=e
 refine hQ _ _ ?_
 exact .many (.inl rfl) rfl rfl (.agg (.ref rfl (Ap Aq) (Bp Aq A2) (.ref rfl (Ap As) (Bp As A1) (.ref rfl (Ap Av) (Bp Av A3) (.ref rfl (Ap At) (Bp At A0) (.d rfl rfl (.d rfl rfl (.nil))))))) (.d rfl rfl (.nil)))
theorem C0{text:ByteArray}(Aq:Ah.map A5=Bo)(As:Al.map Ae=Bm)(Av:Ak.map Ae=Bl)(At:Ai.map cS=Bn)(hn:Ah.length≤1000000000)(he:Al.length≤1000000000)(ho:Ak.length≤1000000000)(hs:Ai.length<1000000000)(hss:okS Ai)(aj:H0 (⟨Ah,Al,Ak,Ai,An,Am⟩:Ac))(ht:text.size≤1000000000)(hr:Ao (⟨Ah,Al,Ak,Ai,An,Am⟩:Ac) name text=(⟨Fx,F3,Fr,Fw,Ft,Fz⟩,ob))(A2:Fx.map A5=Di)(A1:F3.map Ae=Da)(A3:Fr.map Ae=Db)(A0:Fw.map cS=Dd):Fn Tryz.prog 156 [.agg [.d (.row 3 Bo),.d (.row 2 Bm),.d (.row 2 Bl),.d (.row 1 Bn),I An,I Am],S name,S text] [] ⟨.tup [.agg [.d (.row 3 Di),.d (.row 2 Da),.d (.row 2 Db),.d (.row 1 Dd),I Ft,I Fz],I ob],[],[]⟩:=by
 refine Fn.go Hs Tryz.func156 fun P hP Q hQ=>?_
 conv=>cbv
 obtain⟨n2,a4⟩:∃m,m=Ah.length:=⟨_,rfl⟩
 obtain⟨n3,a5⟩:∃m,m=Al.length:=⟨_,rfl⟩
 obtain⟨n4,a6⟩:∃m,m=Ak.length:=⟨_,rfl⟩
 obtain⟨n5,a7⟩:∃m,m=Ai.length:=⟨_,rfl⟩
 refine .ddN hP (O2 Aq As Av At (by omega) (by omega) (by omega) (by omega) a4 a5 a6 a7) rfl ?_
 conv=>cbv
 generalize ah:B0 (⟨Ah,Al,Ak,Ai,An,Am⟩:Ac)=r6
 refine .lnt hP (Rl Aq As Av At aj ah) (.agg (.ref rfl (Ap Aq) (.ref rfl (Ap As) (.ref rfl (Ap Av) (.ref rfl (Ap At) (.d rfl (.d rfl .nil)))))) .nil) ?_
 cases r6
 conv=>cbv
 have e:((⟨Ah,Al,Ak,Ai,An,Am⟩:Ac),3)=Ao (⟨Ah,Al,Ak,Ai,An,Am⟩:Ac) name text:=(by unfold Ao;rw[if_pos (.inl ah)])
 rw[hr]at e
 simp only[Prod.mk.injEq,Ac.mk.injEq]at e
 obtain⟨⟨rfl,rfl,rfl,rfl,rfl,rfl⟩,rfl⟩:=e
 refine hQ _ _ ?_
 exact .many (.inl rfl) rfl rfl (.agg (.ref rfl (Ap Aq) (Bp Aq A2) (.ref rfl (Ap As) (Bp As A1) (.ref rfl (Ap Av) (Bp Av A3) (.ref rfl (Ap At) (Bp At A0) (.d rfl rfl (.d rfl rfl (.nil))))))) (.d rfl rfl (.nil)))
 conv=>cbv
 generalize ao:Do Al name=r7
 refine .lnt hP (Of As (by omega) ao) (.ref rfl (Ap As) (.d rfl .nil)) ?_
 cases r7
 conv=>cbv
 have e:((⟨Ah,Al,Ak,Ai,An,Am⟩:Ac),3)=Ao (⟨Ah,Al,Ak,Ai,An,Am⟩:Ac) name text:=(by unfold Ao;rw[if_pos (.inr (Vn (Xc8 ao)))])
 rw[hr]at e
 simp only[Prod.mk.injEq,Ac.mk.injEq]at e
 obtain⟨⟨rfl,rfl,rfl,rfl,rfl,rfl⟩,rfl⟩:=e
 refine hQ _ _ ?_
 exact .many (.inl rfl) rfl rfl (.agg (.ref rfl (Ap Aq) (Bp Aq A2) (.ref rfl (Ap As) (Bp As A1) (.ref rfl (Ap Av) (Bp Av A3) (.ref rfl (Ap At) (Bp At A0) (.d rfl rfl (.d rfl rfl (.nil))))))) (.d rfl rfl (.nil)))
 conv=>cbv
 generalize ar:Cg Al name=r8
 refine .lnt hP (Lu As (by omega) ar) (.ref rfl (Ap As) (.d rfl .nil)) ?_
 conv=>cbv
 generalize au:Gg (⟨Ah,Al,Ak,Ai,An,Am⟩:Ac) r8=r9
 refine .lnt hP (Ob Aq As Av At (by omega) au) (.agg (.ref rfl (Ap Aq) (.ref rfl (Ap As) (.ref rfl (Ap Av) (.ref rfl (Ap At) (.d rfl (.d rfl .nil)))))) (.d rfl .nil)) ?_
 conv=>cbv
 have hpl:=XhT ao
 have hk:Cf (⟨Ah,Al,Ak,Ai,An,Am⟩:Ac) name=r9:=by rw[←V0 (d:=(⟨Ah,Al,Ak,Ai,An,Am⟩:Ac)) hpl];show Gg _ (Cg Al name)=r9;rw[ar,au]
 have hb:=Gr hk
 have a8:=(Xhd ah hpl).2
 rw[hk]at a8
 simp only[]at hb
 generalize af:D4 (⟨Ah,Al,Ak,Ai,An,Am⟩:Ac)=aw
 refine .lnt hP (Xj Aq As Av At aj.1 af) (.agg (.ref rfl (Ap Aq) (.ref rfl (Ap As) (.ref rfl (Ap Av) (.ref rfl (Ap At) (.d rfl (.d rfl .nil)))))) .nil) ?_
 conv=>cbv
 have hri:=Hi ah
 simp only[af]at hri
 refine .sub fun bf ax=>?_
 conv=>cbv
 refine .go fun bg bb=>?_
 conv=>cbv
 refine .gtr (fun h13=>?_) fun h13=>?_
 conv=>cbv
 refine .go r9.toNat fun ai ay ap=>?_
 conv=>cbv
 refine .go Aq fun ae ⟨aq,aa,ak⟩ ab=>?_
 conv=>cbv
 have az:aa.size≤1000000000:=by have h9:=aj.1.2.1 _ (List.getElem_mem ae);rw[←ab]at h9;exact h9
 refine .hi fun al ag=>?_
 conv=>cbv
 have bc:al.size≤text.size:=by rw[ag,ByteArray.size_extract];omega
 refine .go fun a0 a1 bd=>?_
 conv=>cbv
 refine .go r9.toNat fun ac a2 a9=>?_
 conv=>cbv
 refine .go (⟨(Ah.getD ac ⟨0,tx [],0⟩).id_,a0,(Ah.getD ac ⟨0,tx [],0⟩).sure_⟩:Bs) Aq (by omega) (by rw[←gD (show ac<Ah.length by omega)];rfl) (show 1+1≤3 by decide) fun bh am=>?_
 conv=>cbv
 have e:((⟨Ah.set ac (⟨(Ah.getD ac ⟨0,tx [],0⟩).id_,a0,(Ah.getD ac ⟨0,tx [],0⟩).sure_⟩:Bs),Al,Ak,Ai,An,Am⟩:Ac),5)=Ao (⟨Ah,Al,Ak,Ai,An,Am⟩:Ac) name text:=(by unfold Ao;rw[if_neg (by rintro(h|h);rw[ah]at h;cases h;rw[hk]at h;omega),hk,af];dsimp only;rw[if_pos (by omega)];unfold Xia gN;dsimp only;have e9:aa=(Ah.getD ac ⟨0,tx [],0⟩).text_:=(by have h9:ai=ac:=(by omega);subst h9;rw[←gD (show ai<Ah.length by omega),←ab]);rw[←a2,a1,e9,ag,ax,show min (text.size:Int) (An - aw)=An - aw by omega])
 rw[hr]at e
 simp only[Prod.mk.injEq,Ac.mk.injEq]at e
 obtain⟨⟨rfl,rfl,rfl,rfl,rfl,rfl⟩,rfl⟩:=e
 refine hQ _ _ ?_
 exact .many (.inl rfl) rfl rfl (.agg (.ref rfl (Ap am) (Bp am A2) (.ref rfl (Ap As) (Bp As A1) (.ref rfl (Ap Av) (Bp Av A3) (.ref rfl (Ap At) (Bp At A0) (.d rfl rfl (.d rfl rfl (.nil))))))) (.d rfl rfl (.nil)))
 conv=>cbv
 refine .go r9.toNat fun ai ay ap=>?_
 conv=>cbv
 refine .go Aq fun ae ⟨aq,aa,ak⟩ ab=>?_
 conv=>cbv
 have az:aa.size≤1000000000:=by have h9:=aj.1.2.1 _ (List.getElem_mem ae);rw[←ab]at h9;exact h9
 refine .go fun al ag be=>?_
 conv=>cbv
 refine .go r9.toNat fun ad a3 ba=>?_
 conv=>cbv
 refine .go (⟨(Ah.getD ad ⟨0,tx [],0⟩).id_,al,(Ah.getD ad ⟨0,tx [],0⟩).sure_⟩:Bs) Aq (by omega) (by rw[←gD (show ad<Ah.length by omega)];rfl) (show 1+1≤3 by decide) fun bi an=>?_
 conv=>cbv
 have e:((⟨Ah.set ad (⟨(Ah.getD ad ⟨0,tx [],0⟩).id_,al,(Ah.getD ad ⟨0,tx [],0⟩).sure_⟩:Bs),Al,Ak,Ai,An,Am⟩:Ac),0)=Ao (⟨Ah,Al,Ak,Ai,An,Am⟩:Ac) name text:=(by unfold Ao;rw[if_neg (by rintro(h|h);rw[ah]at h;cases h;rw[hk]at h;omega),hk,af];dsimp only;rw[if_neg (by omega)];unfold Xia gN;dsimp only;have e9:aa=(Ah.getD ad ⟨0,tx [],0⟩).text_:=(by have h9:ai=ad:=(by omega);subst h9;rw[←gD (show ai<Ah.length by omega),←ab]);rw[←a3,ag,e9,W8 (t:=text) (by omega)])
 rw[hr]at e
 simp only[Prod.mk.injEq,Ac.mk.injEq]at e
 obtain⟨⟨rfl,rfl,rfl,rfl,rfl,rfl⟩,rfl⟩:=e
 refine hQ _ _ ?_
 exact .many (.inl rfl) rfl rfl (.agg (.ref rfl (Ap an) (Bp an A2) (.ref rfl (Ap As) (Bp As A1) (.ref rfl (Ap Av) (Bp Av A3) (.ref rfl (Ap At) (Bp At A0) (.d rfl rfl (.d rfl rfl (.nil))))))) (.d rfl rfl (.nil)))
theorem Qb(Aq:Ah.map A5=Bo)(As:Al.map Ae=Bm)(Av:Ak.map Ae=Bl)(At:Ai.map cS=Bn)(hn:Ah.length≤1000000000)(he:Al.length≤1000000000)(ho:Ak.length≤1000000000)(hs:Ai.length<1000000000)(hss:okS Ai)(an:H0 (⟨Ah,Al,Ak,Ai,An,Am⟩:Ac))(hr:Cj (⟨Ah,Al,Ak,Ai,An,Am⟩:Ac) name=(⟨Fx,F3,Fr,Fw,Ft,Fz⟩,ob))(A2:Fx.map A5=Di)(A1:F3.map Ae=Da)(A3:Fr.map Ae=Db)(A0:Fw.map cS=Dd):Fn Tryz.prog 225 [.agg [.d (.row 3 Bo),.d (.row 2 Bm),.d (.row 2 Bl),.d (.row 1 Bn),I An,I Am],S name] [] ⟨.tup [.agg [.d (.row 3 Di),.d (.row 2 Da),.d (.row 2 Db),.d (.row 1 Dd),I Ft,I Fz],I ob],[],[]⟩:=by
 refine Fn.go Hs Tryz.func225 fun P hP Q hQ=>?_
 conv=>cbv
 obtain⟨n2,ao⟩:∃m,m=Ah.length:=⟨_,rfl⟩
 obtain⟨n3,ap⟩:∃m,m=Al.length:=⟨_,rfl⟩
 obtain⟨n4,aq⟩:∃m,m=Ak.length:=⟨_,rfl⟩
 obtain⟨n5,ar⟩:∃m,m=Ai.length:=⟨_,rfl⟩
 refine .ddN hP (O2 Aq As Av At (by omega) (by omega) (by omega) (by omega) ao ap aq ar) rfl ?_
 conv=>cbv
 generalize ab:B0 (⟨Ah,Al,Ak,Ai,An,Am⟩:Ac)=r6
 refine .lnt hP (Rl Aq As Av At an ab) (.agg (.ref rfl (Ap Aq) (.ref rfl (Ap As) (.ref rfl (Ap Av) (.ref rfl (Ap At) (.d rfl (.d rfl .nil)))))) .nil) ?_
 cases r6
 conv=>cbv
 have e:((⟨Ah,Al,Ak,Ai,An,Am⟩:Ac),3)=Cj (⟨Ah,Al,Ak,Ai,An,Am⟩:Ac) name:=(by unfold Cj;rw[if_pos (.inl ab)])
 rw[hr]at e
 simp only[Prod.mk.injEq,Ac.mk.injEq]at e
 obtain⟨⟨rfl,rfl,rfl,rfl,rfl,rfl⟩,rfl⟩:=e
 refine hQ _ _ ?_
 exact .many (.inl rfl) rfl rfl (.agg (.ref rfl (Ap Aq) (Bp Aq A2) (.ref rfl (Ap As) (Bp As A1) (.ref rfl (Ap Av) (Bp Av A3) (.ref rfl (Ap At) (Bp At A0) (.d rfl rfl (.d rfl rfl (.nil))))))) (.d rfl rfl (.nil)))
 conv=>cbv
 generalize ae:Do Al name=r7
 refine .lnt hP (Of As (by omega) ae) (.ref rfl (Ap As) (.d rfl .nil)) ?_
 cases r7
 conv=>cbv
 have e:((⟨Ah,Al,Ak,Ai,An,Am⟩:Ac),3)=Cj (⟨Ah,Al,Ak,Ai,An,Am⟩:Ac) name:=(by unfold Cj;rw[if_pos (.inr (Vn (Xc8 ae)))])
 rw[hr]at e
 simp only[Prod.mk.injEq,Ac.mk.injEq]at e
 obtain⟨⟨rfl,rfl,rfl,rfl,rfl,rfl⟩,rfl⟩:=e
 refine hQ _ _ ?_
 exact .many (.inl rfl) rfl rfl (.agg (.ref rfl (Ap Aq) (Bp Aq A2) (.ref rfl (Ap As) (Bp As A1) (.ref rfl (Ap Av) (Bp Av A3) (.ref rfl (Ap At) (Bp At A0) (.d rfl rfl (.d rfl rfl (.nil))))))) (.d rfl rfl (.nil)))
 conv=>cbv
 generalize af:Cg Al name=r8
 refine .lnt hP (Lu As (by omega) af) (.ref rfl (Ap As) (.d rfl .nil)) ?_
 conv=>cbv
 generalize ag:Gg (⟨Ah,Al,Ak,Ai,An,Am⟩:Ac) r8=r9
 refine .lnt hP (Ob Aq As Av At (by omega) ag) (.agg (.ref rfl (Ap Aq) (.ref rfl (Ap As) (.ref rfl (Ap Av) (.ref rfl (Ap At) (.d rfl (.d rfl .nil)))))) (.d rfl .nil)) ?_
 conv=>cbv
 have hpl:=XhT ae
 have hk:Cf (⟨Ah,Al,Ak,Ai,An,Am⟩:Ac) name=r9:=by rw[←V0 (d:=(⟨Ah,Al,Ak,Ai,An,Am⟩:Ac)) hpl];show Gg _ (Cg Al name)=r9;rw[af,ag]
 have hb:=Gr hk
 have au:=(Xhd ab hpl).2
 rw[hk]at au
 simp only[]at hb
 refine .go r9.toNat fun ah a0 aw=>?_
 conv=>cbv
 refine .go Aq fun ax ⟨ay,ac,am⟩ ai=>?_
 conv=>cbv
 refine .go fun aj ak=>?_
 conv=>cbv
 refine .go r9.toNat fun aa al az=>?_
 conv=>cbv
 refine .go (⟨(Ah.getD aa ⟨0,tx [],0⟩).id_,(Ah.getD aa ⟨0,tx [],0⟩).text_,aj⟩:Bs) Aq (by omega) (by rw[←gD (show aa<Ah.length by omega)];rfl) (show 2+1≤3 by decide) fun a1 ad=>?_
 conv=>cbv
 have e:((⟨Ah.set aa (⟨(Ah.getD aa ⟨0,tx [],0⟩).id_,(Ah.getD aa ⟨0,tx [],0⟩).text_,aj⟩:Bs),Al,Ak,Ai,An,Am⟩:Ac),0)=Cj (⟨Ah,Al,Ak,Ai,An,Am⟩:Ac) name:=(by unfold Cj;rw[if_neg (by rintro(h|h);rw[ab]at h;cases h;rw[hk]at h;omega),hk];dsimp only;have e9:ac=(Ah.getD aa ⟨0,tx [],0⟩).text_:=(by have h9:ah=aa:=(by omega);subst h9;rw[←gD (show ah<Ah.length by omega),←ai]);rw[ak,e9,←al])
 rw[hr]at e
 simp only[Prod.mk.injEq,Ac.mk.injEq]at e
 obtain⟨⟨rfl,rfl,rfl,rfl,rfl,rfl⟩,rfl⟩:=e
 refine hQ _ _ ?_
 exact .many (.inl rfl) rfl rfl (.agg (.ref rfl (Ap ad) (Bp ad A2) (.ref rfl (Ap As) (Bp As A1) (.ref rfl (Ap Av) (Bp Av A3) (.ref rfl (Ap At) (Bp At A0) (.d rfl rfl (.d rfl rfl (.nil))))))) (.d rfl rfl (.nil)))
theorem R6(Aq:Ah.map A5=Bo)(As:Al.map Ae=Bm)(Av:Ak.map Ae=Bl)(At:Ai.map cS=Bn)(hn:Ah.length≤1000000000)(he:Al.length≤1000000000)(ho:Ak.length≤1000000000)(hs:Ai.length<1000000000)(hss:okS Ai)(ar:H0 (⟨Ah,Al,Ak,Ai,An,Am⟩:Ac))(hr:Cw (⟨Ah,Al,Ak,Ai,An,Am⟩:Ac)=⟨onod,oent,oold,oste,oroo,onex⟩)(Ht:onod.map A5=F5)(H2:oent.map Ae=F8)(Hy:oold.map Ae=Gc)(Hw:oste.map cS=Gb):Fn Tryz.prog 227 [.agg [.d (.row 3 Bo),.d (.row 2 Bm),.d (.row 2 Bl),.d (.row 1 Bn),I An,I Am]] [] ⟨.agg [.d (.row 3 F5),.d (.row 2 F8),.d (.row 2 Gc),.d (.row 1 Gb),I oroo,I onex],[],[]⟩:=by
 refine Fn.go Hs Tryz.func227 fun P hP Q hQ=>?_
 conv=>cbv
 obtain⟨n2,au⟩:∃m,m=Ah.length:=⟨_,rfl⟩
 obtain⟨n3,aw⟩:∃m,m=Al.length:=⟨_,rfl⟩
 obtain⟨n4,ax⟩:∃m,m=Ak.length:=⟨_,rfl⟩
 obtain⟨n5,ay⟩:∃m,m=Ai.length:=⟨_,rfl⟩
 refine .ddN hP (O2 Aq As Av At (by omega) (by omega) (by omega) (by omega) au aw ax ay) rfl ?_
 conv=>cbv
 generalize ai:B0 (⟨Ah,Al,Ak,Ai,An,Am⟩:Ac)=r6
 refine .lnt hP (Rl Aq As Av At ar ai) (.agg (.ref rfl (Ap Aq) (.ref rfl (Ap As) (.ref rfl (Ap Av) (.ref rfl (Ap At) (.d rfl (.d rfl .nil)))))) .nil) ?_
 cases r6
 conv=>cbv
 have e:(⟨Ah,Al,Ak,Ai,An,Am⟩:Ac)=Cw (⟨Ah,Al,Ak,Ai,An,Am⟩:Ac):=(by unfold Cw;rw[if_pos ai])
 rw[hr]at e
 simp only[Ac.mk.injEq]at e
 obtain⟨rfl,rfl,rfl,rfl,rfl,rfl⟩:=e
 exact hQ _ _ (.one (.inl rfl) rfl (.agg (.ref rfl (Ap Aq) (Bp Aq Ht) (.ref rfl (Ap As) (Bp As H2) (.ref rfl (Ap Av) (Bp Av Hy) (.ref rfl (Ap At) (Bp At Hw) (.d rfl rfl (.d rfl rfl (.nil))))))) .nil))
 conv=>cbv
 refine .sub0 As fun a0 z7 az al=>?_
 conv=>cbv
 rcases am:Gz (⟨Ah,Al,Al,[],An,Am⟩:Ac)with⟨ae,af,ag,ah,aj,ak⟩
 generalize aa:ae.map A5=an
 generalize ab:af.map Ae=ao
 generalize ac:ag.map Ae=ap
 generalize ad:ah.map cS=aq
 refine .lntD hP (Vq Aq As al rfl (by omega) (by omega) (by simp) (fun _ h=>by cases h) am aa ab ac ad) (.agg (.ref rfl (Ap Aq) (.ref rfl (Ap As) (.ref rfl (Ap al) (.ref rfl rfl (.d rfl (.d rfl .nil)))))) .nil) ?_
 conv=>cbv
 have e:(⟨ae,af,ag,ah,aj,ak⟩:Ac)=Cw (⟨Ah,Al,Ak,Ai,An,Am⟩:Ac):=(by unfold Cw;rw[if_neg (by rw[ai];decide)];dsimp only;rw[←am];exact Vp (d:=⟨Ah,Al,Al,[],An,Am⟩) trivial)
 rw[hr]at e
 simp only[Ac.mk.injEq]at e
 obtain⟨rfl,rfl,rfl,rfl,rfl,rfl⟩:=e
 exact hQ _ _ (.one (.inl rfl) rfl (.agg (.d rfl (Ag aa Ht) (.d rfl (Ag ab H2) (.d rfl (Ag ac Hy) (.d rfl (Ag ad Hw) (.d rfl rfl (.d rfl rfl (.nil))))))) .nil))
end
section
open Go Go.Proofs
set_option maxRecDepth 20000
set_option maxHeartbeats 4000000
theorem XbZ{α:Type}{f:α→Int}(h0:∀x,0≤f x):∀{l:List α} {x:α},x∈l→∀a,a+f x≤(l.map f).foldl (·+·) a
 |[],_,h,_=>by cases h
 |y::l,x,h,a=>by
  rw[List.map_cons,List.foldl_cons]
  rcases List.mem_cons.1 h with rfl|h
  ·exact XaL h0
  ·have h1:=XbZ h0 h (a+f y)
   have:=h0 y
   omega
theorem Xf0{d:Ac}{n:Bs}(h:n∈d.nodes_):(n.text_.size:Int)≤D4 d:=by
 have:=XbZ (f:=fun n:Bs=>(n.text_.size:Int)) (fun x=>by omega) h 0
 unfold D4 Xho
 omega
theorem XeI{d:Ac}{i:Int}{x:Bs}(h:H0 d)(hx:x.text_.size≤1000000000):H0 (Xia d i x):=by
 obtain⟨⟨h1,h2,h3⟩,h4⟩:=h
 refine⟨⟨by show(d.nodes_.set _ _).length≤_;rw[List.length_set];exact h1,?_,h3⟩,h4⟩
 intro n hn
 rcases List.mem_or_eq_of_mem_set hn with hn|rfl
 ·exact h2 n hn
 ·exact hx
theorem XgY{d:Ac}{i:Int}(h0:0≤i)(h1:i<d.nodes_.length):gN d i∈d.nodes_:=by
 unfold gN
 have hk:i.toNat<d.nodes_.length:=by omega
 rw[←gD hk]
 exact List.getElem_mem hk
theorem XfN{d:Ac}{s:ByteArray}(h:H0 d)(he:d.entries_.length≤1000000)(hs:s.size≤1000000000)(hl:d.steps_.length<1000000000):H0 (Sc d s):=by
 obtain⟨⟨h1,h2,h3,h4,h5,h6⟩,h7,h8⟩:=h
 obtain⟨e,b,hy⟩:∃e b,Ay d.entries_ s=(e,b):=⟨_,_,rfl⟩
 have hlen:=O4 hy
 have hok:=Wl (l:=d.entries_) h4 hs hy
 unfold Sc
 rw[hy]
 refine⟨⟨?_,?_,by show e.length≤_;omega,hok,h5,by rw[List.length_append,List.length_singleton];omega⟩,h7,W7 h8 hs⟩
 ·exact Nat.le_trans (List.length_filter_le _ _) h1
 ·intro n hn
  exact h2 n (List.mem_filter.1 hn).1
def okG(d d':Ac):Prop:=H0 d'∧d'.steps_.length≤d.steps_.length+1
theorem Kz{d:Ac}(h:H0 d):okG d d:=⟨h,Nat.le_succ _⟩
section
variable {d:Ac} {name text a b:ByteArray}
theorem Mh(h:H0 d)(hl:d.steps_.length<1000000000)(hm:name.size≤500000000):okG d (Ax d name).1:=by
 unfold Ax
 split
 ·exact Kz h
 ·rename_i hr
  have hr:=by simpa using hr
  split
  ·exact Kz h
  ·split
   ·exact Kz h
   ·split
    ·exact Kz h
    ·rename_i hc
     have hri:=Hi hr
     have hz:=Px (rfl:Bw d.next_=_) (by unfold Xv;omega)
     refine⟨XfN ?_ (by show d.entries_.length≤_;omega) ?_ hl,by show(d.steps_++[_]).length≤_;rw[List.length_append];exact Nat.le_refl _⟩
     ·obtain⟨⟨h1,h2,h3⟩,h4⟩:=h
      refine⟨⟨by show(d.nodes_++[_]).length≤_;rw[List.length_append,List.length_singleton];omega,?_,h3⟩,h4⟩
      intro n hn
      rcases List.mem_append.1 hn with hn|hn
      ·exact h2 n hn
      ·rw[List.mem_singleton.1 hn]
       exact Nat.zero_le _
     ·simp only[ByteArray.size_append,B2,List.length_singleton]
      omega
theorem Gt(h:H0 d):okG d (Ao d name text).1:=by
 unfold Ao
 split
 ·exact Kz h
 ·rename_i hr
  have hk:0≤Cf d name:=Int.not_lt.1 fun k=>hr (.inr k)
  have hr:B0 d=true:=by
   cases hc:B0 d
   ·exact absurd (.inl hc) hr
   ·rfl
  have hri:=Hi hr
  have hu:=Xf0 (XgY hk (Gr rfl).2)
  refine⟨XeI h ?_,Nat.le_succ _⟩
  show((gN d (Cf d name)).text_++text.extract 0 _).size≤_
  rw[ByteArray.size_append,ByteArray.size_extract]
  omega
theorem P5(h:H0 d):okG d (Cj d name).1:=by
 unfold Cj
 split
 ·exact Kz h
 ·rename_i hr
  have hk:0≤Cf d name:=Int.not_lt.1 fun k=>hr (.inr k)
  refine⟨XeI (i:=Cf d name) h ?_,Nat.le_succ _⟩
  show(gN d (Cf d name)).text_.size≤_
  exact h.1.2.1 _ (XgY hk (Gr rfl).2)
theorem Xgr(h:H0 d):okG d (Cw d):=by
 unfold Cw
 split
 ·exact Kz h
 ·obtain⟨⟨h1,h2,h3,h4,h5,h6⟩,h7,h8⟩:=h
  refine⟨⟨⟨Nat.le_trans (List.length_filter_le _ _) h1,fun n hn=>h2 n (List.mem_filter.1 hn).1,h3,h4,h3,Nat.zero_le _⟩,h4,fun _ hs=>by cases hs⟩,Nat.zero_le _⟩
end
end
section
open Go Go.Proofs
set_option maxRecDepth 20000
set_option maxHeartbeats 4000000
end
section
open Go Go.Proofs
set_option maxRecDepth 20000
set_option maxHeartbeats 4000000
end
section
open Go Go.Proofs
set_option maxRecDepth 20000
set_option maxHeartbeats 4000000
end
section
open Go Go.Proofs
set_option maxRecDepth 20000
set_option maxHeartbeats 4000000
end
end Go.Proofs.YtgdmjbcllgmepaaGreatDoor.Ab
