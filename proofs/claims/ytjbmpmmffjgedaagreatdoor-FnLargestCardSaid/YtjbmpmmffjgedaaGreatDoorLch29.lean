/- What functions of the program come to, for all arguments in the given bounds. -/
import Derived.Test.YtjbmpmmffjgedaaGreatDoorLch10
import Derived.Shelf.Spec.SlicesInsertGrow
import Derived.Test.YtjbmpmmffjgedaaGreatDoorLZ10
set_option linter.unusedVariables false
set_option linter.unusedSimpArgs false
namespace Go.Proofs.YtjbmpmmffjgedaaGreatDoor.Ab
section
open Go Go.Proofs
set_option maxRecDepth 20000
set_option maxHeartbeats 4000000
def XbV:List (Nat×TyRow):=[ty3,ty9,Xax,XaE,ty48,ty76]
theorem XaH:B3 Tryz.prog XbV:=B3.of (by kernel_rfl)
theorem Xg8:Setup Tryz.prog XbV:=⟨XaH,mixed⟩
def B8(v s r:Int):Ac×Bool:=if(1≤v∧v≤2)∧(1≤s∧s≤20)∧(1≤r∧r≤50)then(⟨v,s,r,0,0,[],0,false,0⟩,true)else(⟨0,0,0,0,0,[],0,false,0⟩,false)
theorem Qf{v s r:Int}{w:Ac}{b:Bool}(e:B8 v s r=(w,b)):b=decide ((1≤v∧v≤2)∧(1≤s∧s≤20)∧(1≤r∧r≤50)):=by
 unfold B8 at e
 split at e
 ·rw[decide_eq_true (by assumption)];exact(congrArg Prod.snd e).symm
 ·rw[decide_eq_false (by assumption)];exact(congrArg Prod.snd e).symm
theorem XaW{v:Int}{s:Int}{r:Int}{oaver:Int}{oastr:Int}{oarol:Int}{oabas:Int}{oalin:Int}{oaoff:List Int}{xoaoff:List (List D)}{oaend:Int}{oaope:Bool}{oacod:Int}{ob:Bool}(hr:B8 v s r=(⟨oaver,oastr,oarol,oabas,oalin,oaoff,oaend,oaope,oacod⟩,ob))(hoaoff:oaoff.map cI=xoaoff):Fn Tryz.prog 63 [I v,I s,I r] [] ⟨.tup [.agg [I oaver,I oastr,I oarol,I oabas,I oalin,.d (.row 1 xoaoff),I oaend,B oaope,I oacod],B ob],[],[]⟩:=by
 refine Fn.go Xg8 Tryz.func63 fun P hP Q hQ=>?_
 conv=>cbv
 generalize aa:A4 v 1 2=r1
 refine .dd hP (Dj aa) ?_
 cases r1
 simp only[A4,decide_eq_true_eq,decide_eq_false_iff_not]at aa
 conv=>cbv
 have e:((⟨0,0,0,0,0,[],0,false,0⟩:Ac),false)=B8 v s r:=(by unfold B8;rw[if_neg (by omega)])
 rw[hr]at e
 simp only[Prod.mk.injEq,Ac.mk.injEq]at e
 obtain⟨⟨rfl,rfl,rfl,rfl,rfl,rfl,rfl,rfl,rfl⟩,rfl⟩:=e
 refine hQ _ _ ?_
 exact .many (.inl rfl) rfl rfl (.agg (.d rfl rfl (.d rfl rfl (.d rfl rfl (.d rfl rfl (.d rfl rfl (.ref rfl rfl (by rw[←hoaoff];rfl) (.d rfl rfl (.d rfl rfl (.d rfl rfl (.nil)))))))))) (.d rfl rfl (.nil)))
 simp only[A4,decide_eq_true_eq,decide_eq_false_iff_not]at aa
 conv=>cbv
 generalize ab:A4 s 1 20=r2
 refine .dd hP (Dj ab) ?_
 cases r2
 simp only[A4,decide_eq_true_eq,decide_eq_false_iff_not]at ab
 conv=>cbv
 have e:((⟨0,0,0,0,0,[],0,false,0⟩:Ac),false)=B8 v s r:=(by unfold B8;rw[if_neg (by omega)])
 rw[hr]at e
 simp only[Prod.mk.injEq,Ac.mk.injEq]at e
 obtain⟨⟨rfl,rfl,rfl,rfl,rfl,rfl,rfl,rfl,rfl⟩,rfl⟩:=e
 refine hQ _ _ ?_
 exact .many (.inl rfl) rfl rfl (.agg (.d rfl rfl (.d rfl rfl (.d rfl rfl (.d rfl rfl (.d rfl rfl (.ref rfl rfl (by rw[←hoaoff];rfl) (.d rfl rfl (.d rfl rfl (.d rfl rfl (.nil)))))))))) (.d rfl rfl (.nil)))
 simp only[A4,decide_eq_true_eq,decide_eq_false_iff_not]at ab
 conv=>cbv
 generalize ac:A4 r 1 50=r3
 refine .dd hP (Dj ac) ?_
 cases r3
 simp only[A4,decide_eq_true_eq,decide_eq_false_iff_not]at ac
 conv=>cbv
 have e:((⟨0,0,0,0,0,[],0,false,0⟩:Ac),false)=B8 v s r:=(by unfold B8;rw[if_neg (by omega)])
 rw[hr]at e
 simp only[Prod.mk.injEq,Ac.mk.injEq]at e
 obtain⟨⟨rfl,rfl,rfl,rfl,rfl,rfl,rfl,rfl,rfl⟩,rfl⟩:=e
 refine hQ _ _ ?_
 exact .many (.inl rfl) rfl rfl (.agg (.d rfl rfl (.d rfl rfl (.d rfl rfl (.d rfl rfl (.d rfl rfl (.ref rfl rfl (by rw[←hoaoff];rfl) (.d rfl rfl (.d rfl rfl (.d rfl rfl (.nil)))))))))) (.d rfl rfl (.nil)))
 simp only[A4,decide_eq_true_eq,decide_eq_false_iff_not]at ac
 conv=>cbv
 have e:((⟨v,s,r,0,0,[],0,false,0⟩:Ac),true)=B8 v s r:=(by unfold B8;rw[if_pos (by omega)])
 rw[hr]at e
 simp only[Prod.mk.injEq,Ac.mk.injEq]at e
 obtain⟨⟨rfl,rfl,rfl,rfl,rfl,rfl,rfl,rfl,rfl⟩,rfl⟩:=e
 refine hQ _ _ ?_
 exact .many (.inl rfl) rfl rfl (.agg (.d rfl rfl (.d rfl rfl (.d rfl rfl (.d rfl rfl (.d rfl rfl (.ref rfl rfl (by rw[←hoaoff];rfl) (.d rfl rfl (.d rfl rfl (.d rfl rfl (.nil)))))))))) (.d rfl rfl (.nil)))
end
section
open Go Go.Proofs
set_option maxRecDepth 20000
set_option maxHeartbeats 4000000
open Go.Lib
open Go.RowKit
end
section
open Go Go.Proofs
set_option maxRecDepth 20000
set_option maxHeartbeats 4000000
def Zs:List (Nat×TyRow):=[ty3,ty5,ty9,Xg4,XgU,Xax]
theorem Zi:B3 Tryz.prog Zs:=B3.of (by kernel_rfl)
theorem Qy:Setup Tryz.prog Zs:=⟨Zi,mixed⟩
open Go.RowKit
def Xe(x:Nat):Bool:=decide (97≤x∧x≤122∨48≤x∧x≤57∨x=46∨x=45)
def Bl(t:ByteArray):Bool:=t.data.toList.all (fun c=>Xe c.toNat)&&decide (1≤t.size∧t.size≤20)
theorem Kr{t:ByteArray}{j:Nat}(hj:j<t.size):t.data.toList[j]? =some t[j]:=by
 rw[Array.getElem?_toList]
 exact Array.getElem?_eq_getElem hj
theorem Xfu{t:ByteArray}{j:Nat}(hj:j<t.size)(h:Xe (t[j]).toNat=false):false=Bl t:=by
 symm
 unfold Bl
 rw[Bool.and_eq_false_iff]
 left
 rw[Bool.eq_false_iff]
 intro ha
 have:=List.all_eq_true.1 ha t[j] (List.mem_of_getElem? (Kr hj))
 rw[h]at this
 cases this
theorem Up{t:ByteArray}{b:Bool}(h:∀(j:Nat) (hj:j<t.size),Xe (t[j]).toNat=true)(hb:b=decide (1≤t.size∧t.size≤20)):b=Bl t:=by
 unfold Bl
 rw[List.all_eq_true.2,hb,Bool.true_and]
 intro c hc
 obtain⟨j,hj⟩:=List.getElem?_of_mem hc
 have hl:j<t.size:=by
  have:=(List.getElem?_eq_some_iff.1 hj).1
  rwa[Array.length_toList]at this
 rw[Kr hl]at hj
 rw[←Option.some.inj hj]
 exact h j hl
theorem Rz{t:ByteArray}(h:Bl t=true):1≤t.size∧t.size≤20:=by
 unfold Bl at h
 rw[Bool.and_eq_true,decide_eq_true_eq]at h
 exact h.2
theorem Sf:∀(l m:List UInt8) (acc:Nat),Lib.decFrom acc (l++m)=(Lib.decFrom acc l).bind fun a=>Lib.decFrom a m
 |[],_,_=>rfl
 |c::l,m,acc=>by
  simp only[List.cons_append,Lib.decFrom]
  cases Lib.digitVal c with
  |none=>rfl
  |some d=>exact Sf l m _
theorem Tb{n:Nat}(h:n<10):Lib.digitVal (UInt8.ofNat (48+n))=some n:=by
 have e:(UInt8.ofNat (48+n)).toNat=48+n:=by rw[UInt8.toNat_ofNat',Nat.mod_eq_of_lt (by omega)]
 unfold Lib.digitVal
 rw[e,if_pos (by omega)]
 congr 1
 omega
theorem XcM(u:Nat):Lib.decFrom 0 (Lib.decDigits u)=some u:=by
 induction u using Nat.strongRecOn with
 |_ u ih=>
  by_cases h:u<10
  ·rw[Lib.decDigits,dif_pos h]
   simp only[Lib.decFrom,Tb h]
   congr 1
   omega
  ·rw[Lib.decDigits,dif_neg h,Sf,ih (u/10) (by omega)]
   simp only[Option.bind_some,Lib.decFrom,Tb (show u% 10<10 by omega)]
   congr 1
   omega
def Bd(t:ByteArray):Int×Bool:=match Lib.decFrom 0 t.data.toList with
 |some n=>if n≤1000000000∧Cr (n:Int)=t then((n:Int),true)else(0,false)
 |none=>(0,false)
theorem Wb{t:ByteArray}{m:Nat}(h:Lib.decFrom 0 t.data.toList=some m):Bd t=if m≤1000000000∧Cr (m:Int)=t then((m:Int),true)else(0,false):=by
 unfold Bd
 rw[h]
theorem XgJ{t:ByteArray}{j:Nat}(hj:j<t.size)(h:¬(48≤(t[j]).toNat∧(t[j]).toNat≤57)):(0,false)=Bd t:=by
 unfold Bd
 split
 ·rename_i n hn
  obtain⟨d,hd⟩:=Lib.digit_of_decFrom _ _ _ hn j _ (Kr hj)
  unfold Lib.digitVal at hd
  rw[if_neg h]at hd
  cases hd
 ·rfl
theorem Xgp{n:Int}{t:ByteArray}(e:Cr n=t)(h0:0≤n)(h:n≤1000000000):1≤t.size∧t.size≤10:=by
 rw[←e]
 unfold Cr Lib.itoa
 rw[Bo,if_neg (by omega)]
 exact G5 9 n.toNat (by omega)
theorem XgB{t:ByteArray}(h:10<t.size):(0,false)=Bd t:=by
 unfold Bd
 split
 ·rename_i n hn
  rw[if_neg]
  rintro⟨h1,h2⟩
  have:=Xgp h2 (by omega) (by omega)
  omega
 ·rfl
theorem Xgm{n:Int}(h0:0≤n)(h:n≤1000000000):Bd (Cr n)=(n,true):=by
 have e:Lib.decFrom 0 (Cr n).data.toList=some n.toNat:=by
  unfold Cr Lib.itoa
  rw[Tk,if_neg (by omega)]
  exact XcM _
 rw[Wb e,if_pos ⟨by omega,by rw[Int.toNat_of_nonneg h0]⟩,Int.toNat_of_nonneg h0]
theorem Ii{name:ByteArray}{o:Bool}(hs:name.size≤1000000000)(hr:Bl name=o):Fn Tryz.prog 265 [S name] [] ⟨B o,[],[]⟩:=by
 refine Fn.go Qy Tryz.func265 fun P hP Q hQ=>?_
 conv=>cbv
 refine LoopW.lp (κ:=Int) Qy hP [] [0] (fun i3=>[(3,I i3)]) (fun i3=>[])
  (fun i3=>0≤i3∧i3≤name.size∧∀(j:Nat) (hj:j<name.size),j<i3.toNat→Xe (name[j]).toNat=true)
  (fun i3=>(name.size - i3).toNat) (0) ⟨by omega,by omega,fun j _ h=>by simp at h⟩ ⟨rfl,trivial⟩ rfl ?_
 rintro i3 J ⟨h0,h1,hb⟩ hJ
 conv=>cbv
 refine .go fun v1 ae=>?_
 conv=>cbv
 refine .lss (fun h2=>?_) fun h2=>?_
 conv=>cbv
 refine .go i3.toNat fun hjv3 v3 ad bv3=>?_
 conv=>cbv
 refine .id fun v4 af=>?_
 conv=>cbv
 generalize aa:A4 v4 97 122=r5
 refine .dd hP (Dj aa) ?_
 cases r5
 simp only[A4,decide_eq_true_eq,decide_eq_false_iff_not]at aa
 conv=>cbv
 generalize ab:A4 v4 48 57=r6
 refine .dd hP (Dj ab) ?_
 cases r6
 simp only[A4,decide_eq_true_eq,decide_eq_false_iff_not]at ab
 conv=>cbv
 refine .neq (fun h7=>?_) fun h7=>?_
 conv=>cbv
 refine .neq (fun h8=>?_) fun h8=>?_
 conv=>cbv
 have e:false=Bl name:=(by exact Xfu (show i3.toNat<name.size by omega) (by unfold Xe;rw[decide_eq_false_iff_not];omega))
 rw[hr]at e
 subst e
 exact hQ _ _ (.b rfl rfl)
 conv=>cbv
 refine .add fun v9 ag=>?_
 conv=>cbv
 exact .go [] (v9) (hJ _ ⟨by omega,by omega,fun j hj h=>if e:j=i3.toNat then by subst e;unfold Xe;rw[decide_eq_true_eq];omega else hb j hj (by omega)⟩ mlt)
 conv=>cbv
 refine .add fun v8 ah=>?_
 conv=>cbv
 exact .go [] (v8) (hJ _ ⟨by omega,by omega,fun j hj h=>if e:j=i3.toNat then by subst e;unfold Xe;rw[decide_eq_true_eq];omega else hb j hj (by omega)⟩ mlt)
 simp only[A4,decide_eq_true_eq,decide_eq_false_iff_not]at ab
 conv=>cbv
 refine .add fun v7 ai=>?_
 conv=>cbv
 exact .go [] (v7) (hJ _ ⟨by omega,by omega,fun j hj h=>if e:j=i3.toNat then by subst e;unfold Xe;rw[decide_eq_true_eq];omega else hb j hj (by omega)⟩ mlt)
 simp only[A4,decide_eq_true_eq,decide_eq_false_iff_not]at aa
 conv=>cbv
 refine .add fun v6 aj=>?_
 conv=>cbv
 exact .go [] (v6) (hJ _ ⟨by omega,by omega,fun j hj h=>if e:j=i3.toNat then by subst e;unfold Xe;rw[decide_eq_true_eq];omega else hb j hj (by omega)⟩ mlt)
 conv=>cbv
 refine .go fun v3 ad=>?_
 conv=>cbv
 generalize ac:A4 v3 1 20=r4
 refine .dd hP (Dj ac) ?_
 cases r4
 simp only[A4,decide_eq_true_eq,decide_eq_false_iff_not]at ac
 conv=>cbv
 have e:false=Bl name:=(by exact Up (fun j hj=>hb j hj (by omega)) (by symm;rw[decide_eq_false_iff_not];omega))
 rw[hr]at e
 subst e
 exact hQ _ _ (.b rfl rfl)
 simp only[A4,decide_eq_true_eq,decide_eq_false_iff_not]at ac
 conv=>cbv
 have e:true=Bl name:=(by exact Up (fun j hj=>hb j hj (by omega)) (by symm;rw[decide_eq_true_eq];omega))
 rw[hr]at e
 subst e
 exact hQ _ _ (.b rfl rfl)
theorem Oe{text:ByteArray}{oa:Int}{ob:Bool}(hs:text.size≤1000000000)(hr:Bd text=(oa,ob)):Fn Tryz.prog 304 [S text] [] ⟨.tup [I oa,B ob],[],[]⟩:=by
 refine Fn.go Qy Tryz.func304 fun P hP Q hQ=>?_
 conv=>cbv
 refine .go fun v1 aj=>?_
 conv=>cbv
 refine .gtr (fun h2=>?_) fun h2=>?_
 conv=>cbv
 have e:(0,false)=Bd text:=(by exact XgB (by omega))
 rw[hr]at e
 simp only[Prod.mk.injEq]at e
 obtain⟨rfl,rfl⟩:=e
 refine hQ _ _ ?_
 exact .many (.inl rfl) rfl rfl (.d rfl rfl (.d rfl rfl (.nil)))
 conv=>cbv
 refine LoopW.lp (κ:=Int×Int) Qy hP [] [0] (fun(i4,i5)=>[(4,I i4),(5,I i5)]) (fun(i4,i5)=>[])
  (fun(i4,i5)=>0≤i5∧i5≤text.size∧∃m:Nat,i4=m∧Lib.decFrom 0 (text.data.toList.take i5.toNat)=some m∧m<10^i5.toNat)
  (fun(i4,i5)=>(text.size - i5).toNat) (0,0) ⟨by omega,by omega,0,rfl,rfl,by simp⟩ ⟨rfl,rfl,trivial⟩ rfl ?_
 rintro⟨i4,i5⟩ J ⟨h0,h1,m,hm,hd,hlt⟩ hJ
 have hp:=Nat.pow_le_pow_right (n:=10) (by decide) (show i5.toNat≤10 by omega)
 have ac:(10:Nat)^10=10000000000:=by decide
 rw[ac]at hp
 conv=>cbv
 refine .go fun v3 ak=>?_
 conv=>cbv
 refine .lss (fun h4=>?_) fun h4=>?_
 conv=>cbv
 refine .go i5.toNat fun hjv5 v5 al bv5=>?_
 conv=>cbv
 refine .lss (fun h6=>?_) fun h6=>?_
 conv=>cbv
 have e:(0,false)=Bd text:=(by exact XgJ (show i5.toNat<text.size by omega) (by omega))
 rw[hr]at e
 simp only[Prod.mk.injEq]at e
 obtain⟨rfl,rfl⟩:=e
 refine hQ _ _ ?_
 exact .many (.inl rfl) rfl rfl (.d rfl rfl (.d rfl rfl (.nil)))
 conv=>cbv
 refine .go i5.toNat fun hjv7 v7 am bv7=>?_
 conv=>cbv
 refine .gtr (fun h8=>?_) fun h8=>?_
 conv=>cbv
 have e:(0,false)=Bd text:=(by exact XgJ (show i5.toNat<text.size by omega) (by omega))
 rw[hr]at e
 simp only[Prod.mk.injEq]at e
 obtain⟨rfl,rfl⟩:=e
 refine hQ _ _ ?_
 exact .many (.inl rfl) rfl rfl (.d rfl rfl (.d rfl rfl (.nil)))
 conv=>cbv
 refine .mul fun v9 an=>?_
 conv=>cbv
 refine .go i5.toNat fun hjv10 ao ae bv10=>?_
 conv=>cbv
 refine .id fun ap af=>?_
 conv=>cbv
 refine .add fun aq ag=>?_
 conv=>cbv
 refine .sub fun ad ah=>?_
 conv=>cbv
 refine .add fun aa ai=>?_
 conv=>cbv
 have hdt:=Lib.decFrom_take _ _ _ _ _ ((text[i5.toNat]).toNat - 48) hd (Kr (show i5.toNat<text.size by omega)) (by unfold Lib.digitVal;rw[if_pos (by omega)])
 exact .go [] (ad,aa) (hJ _ ⟨by omega,by omega,m*10+((text[i5.toNat]).toNat - 48),by omega,by rw[show aa.toNat=i5.toNat+1 by omega];exact hdt,by rw[show aa.toNat=i5.toNat+1 by omega,Nat.pow_succ];omega⟩ mlt)
 conv=>cbv
 refine .gtr (fun h5=>?_) fun h5=>?_
 conv=>cbv
 have e:(0,false)=Bd text:=(by rw[List.take_of_length_le (by rw[Array.length_toList];show text.size≤_;omega)]at hd;rw[Wb hd,if_neg (by omega)])
 rw[hr]at e
 simp only[Prod.mk.injEq]at e
 obtain⟨rfl,rfl⟩:=e
 refine hQ _ _ ?_
 exact .many (.inl rfl) rfl rfl (.d rfl rfl (.d rfl rfl (.nil)))
 conv=>cbv
 generalize ab:Cr i4=r6
 refine .dd hP (Ss (by unfold XbA;omega) ab) ?_
 conv=>cbv
 refine .neq (fun h7=>?_) fun h7=>?_
 conv=>cbv
 have e:(0,false)=Bd text:=(by rw[List.take_of_length_le (by rw[Array.length_toList];show text.size≤_;omega)]at hd;rw[Wb hd,if_neg];rintro⟨_,h⟩;exact h7 (by rw[←ab,hm];exact h))
 rw[hr]at e
 simp only[Prod.mk.injEq]at e
 obtain⟨rfl,rfl⟩:=e
 refine hQ _ _ ?_
 exact .many (.inl rfl) rfl rfl (.d rfl rfl (.d rfl rfl (.nil)))
 conv=>cbv
 have e:(i4,true)=Bd text:=(by rw[List.take_of_length_le (by rw[Array.length_toList];show text.size≤_;omega)]at hd;rw[Wb hd,if_pos ⟨by omega,by rw[←hm,ab];exact h7⟩,hm])
 rw[hr]at e
 simp only[Prod.mk.injEq]at e
 obtain⟨rfl,rfl⟩:=e
 refine hQ _ _ ?_
 exact .many (.inl rfl) rfl rfl (.d rfl rfl (.d rfl rfl (.nil)))
def Ke(s:ByteArray):Int:=Lib.indexByte s.data.toList 58
def Lm(s:ByteArray):ByteArray×ByteArray×Bool:=if 0≤Ke s then(s.extract 0 (Ke s).toNat,s.extract ((Ke s).toNat+1) s.size,true)else(s,tx [],false)
theorem Qo(c:UInt8):∀l:List UInt8,-1≤Lib.indexByte l c∧Lib.indexByte l c<l.length
 |[]=>by simp[Lib.indexByte]
 |b::l=>by
  have:=Qo c l
  unfold Lib.indexByte
  rw[List.length_cons]
  split
  ·omega
  ·split
   ·omega
   ·omega
theorem XcI{s:ByteArray}{i:Int}(e:Ke s=i): -1≤i∧i<s.size:=by
 rw[←e]
 exact Qo 58 s.data.toList
end
section
open Go Go.Proofs
set_option maxRecDepth 20000
set_option maxHeartbeats 4000000
def Nr{α:Type}(l:List α)(i:Int)(m:List α):List α:=l.take i.toNat++m++l.drop i.toNat
def Ps{α:Type}(l:List α)(i j:Int):List α:=l.eraseIdx i.toNat
def Rh(e:Ag)(name:ByteArray):Bool:=!(ltB e.name_ name||decide (e.name_=name))
def C6(l:List Ag)(name:ByteArray):Int:=Z8 (fun e=>Rh e name) l
def Xad(l:List Ag)(name:ByteArray)(id:Int):List Ag:=
 if 0≤A1 l name then l.set (A1 l name).toNat ⟨(l.getD (A1 l name).toNat ⟨tx [],0⟩).name_,id⟩
 else Nr l (if C6 l name<0 then l.length else C6 l name) [⟨name,id⟩]
def Ie(l:List Ag)(name:ByteArray):List Ag×Bool:=
 if A1 l name<0∨Bl name=false then([],false)else(Ps l (A1 l name) (A1 l name+1),true)
def Bb(l:List Ag)(step:ByteArray):List Ag×Bool:=
 if step=tx []then([],false)else
 let nm:=(Lm (step.extract 1 step.size)).1
 let rest:=(Lm (step.extract 1 step.size)).2.1
 let has:=(Lm (step.extract 1 step.size)).2.2
 if step.data.toList.head?=some 43 then
  (if has=false∨(Bd rest).2=false∨Bl nm=false then([],false)else(Xad l nm (Bd rest).1,true))
 else if step.data.toList.head?=some 45 then Ie l (step.extract 1 step.size)
 else if step.data.toList.head?=some 62 then
  (if has=false∨(Ie l nm).2=false∨Bl rest=false∨nm=rest then([],false)else(Xad (Ie l nm).1 rest (B6 l nm),true))
 else([],false)
theorem Q4{t:ByteArray}(h:0<t.size):t.data.toList.head?=some t[0]:=by
 rw[List.head?_eq_getElem?]
 exact Kr h
theorem XbD{t:ByteArray}(h:t≠tx []):0<t.size:=by
 rcases Nat.eq_zero_or_pos t.size with h0|h0
 ·exfalso
  apply h
  have hl:t.data.toList.length=t.size:=Array.length_toList
  rw[h0]at hl
  have h1:=List.eq_nil_of_length_eq_zero hl
  apply ByteArray.ext
  exact Array.toList_inj.1 (by rw[h1];rfl)
 ·exact h0
theorem u8_eq{b:UInt8}{v:Int}{n:Nat}(hv:v=(b.toNat:Int))(h:v=(n:Int))(hn:n<256):b=UInt8.ofNat n:=by
 apply UInt8.toNat_inj.1
 rw[UInt8.toNat_ofNat',Nat.mod_eq_of_lt (by omega)]
 omega
theorem u8_ne{b:UInt8}{v:Int}{n:Nat}(hv:v=(b.toNat:Int))(h:v≠(n:Int))(hn:n<256):b≠UInt8.ofNat n:=by
 rintro rfl
 apply h
 rw[hv,UInt8.toNat_ofNat',Nat.mod_eq_of_lt (by omega)]
section
variable {l:List Ag} {step a b:ByteArray} {c:Bool}
theorem Xgv(h:step=tx []):Bb l step=([],false):=by
 unfold Bb
 rw[if_pos h]
theorem Zq(h:step≠tx [])(hh:step.data.toList.head?=some 43)(hc:Lm (step.extract 1 step.size)=(a,b,c)):Bb l step=if c=false∨(Bd b).2=false∨Bl a=false then([],false)else(Xad l a (Bd b).1,true):=by
 unfold Bb
 rw[if_neg h,hc,if_pos hh]
theorem U1(h:step≠tx [])(hh:step.data.toList.head?=some 45):Bb l step=Ie l (step.extract 1 step.size):=by
 unfold Bb
 rw[if_neg h,if_neg (by rw[hh];decide),if_pos hh]
theorem Zb(h:step≠tx [])(hh:step.data.toList.head?=some 62)(hc:Lm (step.extract 1 step.size)=(a,b,c)):Bb l step=if c=false∨(Ie l a).2=false∨Bl b=false∨a=b then([],false)else(Xad (Ie l a).1 b (B6 l a),true):=by
 unfold Bb
 rw[if_neg h,hc,if_neg (by rw[hh];decide),if_neg (by rw[hh];decide),if_pos hh]
theorem XdM{x:UInt8}(h:step≠tx [])(hh:step.data.toList.head?=some x)(h1:x≠43)(h2:x≠45)(h3:x≠62):Bb l step=([],false):=by
 unfold Bb
 have k:∀y,x≠y→¬step.data.toList.head?=some y:=fun y hy e=>hy (by rw[hh]at e;exact Option.some.inj e)
 rw[if_neg h,if_neg (k _ h1),if_neg (k _ h2),if_neg (k _ h3)]
end
theorem XgY{s a b:ByteArray}{c:Bool}(e:Lm s=(a,b,c)):a.size≤s.size∧b.size≤s.size:=by
 unfold Lm at e
 split at e
 ·simp only[Prod.mk.injEq]at e
  obtain⟨rfl,rfl,rfl⟩:=e
  rw[ByteArray.size_extract,ByteArray.size_extract]
  omega
 ·simp only[Prod.mk.injEq]at e
  obtain⟨rfl,rfl,rfl⟩:=e
  exact⟨Nat.le_refl _,by rw[Bo];exact Nat.zero_le _⟩
theorem Xn{l a:List Ag}{n:ByteArray}{b:Bool}(e:Ie l n=(a,b)):a.length≤l.length:=by
 unfold Ie at e
 split at e
 ·simp only[Prod.mk.injEq]at e
  rw[←e.1]
  exact Nat.zero_le _
 ·simp only[Prod.mk.injEq]at e
  rw[←e.1]
  unfold Ps
  rw[List.length_eraseIdx]
  split<;>omega
theorem XbN{l a:List Ag}{n:ByteArray}{i:Int}(e:Xad l n i=a):a.length≤l.length+1:=by
 rw[←e]
 unfold Xad Nr
 split
 ·rw[List.length_set];omega
 ·simp only[List.length_append,List.length_take,List.length_drop,List.length_cons,List.length_nil]
  omega
theorem Te{l a:List Ag}{s:ByteArray}{b:Bool}(e:Bb l s=(a,b)):a.length≤l.length+1:=by
 unfold Bb at e
 have h0:∀{b:Bool},(([]:List Ag),false)=(a,b)→a.length≤l.length+1:=fun h=>by
  simp only[Prod.mk.injEq]at h
  rw[←h.1];exact Nat.zero_le _
 split at e
 ·exact h0 e
 ·dsimp only at e
  split at e
  ·split at e
   ·exact h0 e
   ·simp only[Prod.mk.injEq]at e
    exact XbN e.1
  ·split at e
   ·have:=Xn e;omega
   ·split at e
    ·split at e
     ·exact h0 e
     ·simp only[Prod.mk.injEq]at e
      have h1:=XbN e.1
      have h2:=Xn (l:=l) (n:=(Lm (s.extract 1 s.size)).1) (a:=(Ie l (Lm (s.extract 1 s.size)).1).1) (b:=(Ie l (Lm (s.extract 1 s.size)).1).2) rfl
      omega
    ·exact h0 e
end
section
open Go Go.Proofs
set_option maxRecDepth 20000
set_option maxHeartbeats 4000000
theorem XcT{a b:ByteArray}:a.toList=b.toList↔a=b:=⟨fun e=>Ox e,fun e=>by rw[e]⟩
theorem AggW.eSI{a c:ByteArray}{b d:Int}{K:Bool→Prop}(h1:a=c∧b=d→K true)(h2:¬(a=c∧b=d)→K false):AggW [.str,.int] [.d (.sc (.string a)),.d (.sc (.int .i64 b))] [.d (.sc (.string c)),.d (.sc (.int .i64 d))] K:=by
 by_cases h:a=c∧b=d
 ·refine⟨true,?_,h1 h⟩
  simp[Mt,Xhv,h.1,h.2]
 ·refine⟨false,?_,h2 h⟩
  simp only[Mt,Xhv,if_true,Option.bind_some,Option.map_some,Option.some.injEq,Bool.and_true]
  simpa[Bool.and_eq_false_iff,XcT]using h
instance decEntry:DecidableEq Ag:=fun a b=>match a,b with
 |⟨n,i⟩,⟨m,j⟩=>decidable_of_iff (n=m∧i=j) (by simp)
def okL(l:List Ag):Prop:=∀e∈l,e.name_.size≤1000000000
def okS(l:List ByteArray):Prop:=∀s∈l,s.size≤1000000000
def Hz(d:Aa):Prop:=okD d∧okL d.old_∧okS d.steps_
def Gf(d:Aa):Int:=XhT (fun n:B5=>(n.text_.size:Int)) d.nodes_
def nd(d:Aa)(i:Nat):B5:=d.nodes_.getD i ⟨0,tx [],0⟩
def Ht(d:Aa)(i:Nat):Bool:=decide ((0<i→(nd d (i - 1)).id_<(nd d i).id_)∧(1≤(nd d i).id_∧(nd d i).id_≤d.next_ - 1)∧0≤(nd d i).sure_∧(nd d i).sure_≤(nd d i).text_.size)
def Iz(d:Aa):Bool:=(List.range d.nodes_.length).all (Ht d)&&decide (d.nodes_.length≤64)
def en(l:List Ag)(i:Nat):Ag:=l.getD i ⟨tx [],0⟩
def H4(d:Aa)(l:List Ag)(i:Nat):Bool:=(decide (i=0)|| !(ltB (en l i).name_ (en l (i - 1)).name_||decide ((en l i).name_=(en l (i - 1)).name_)))&&Bl (en l i).name_&&decide (0≤Iw d (en l i).id_)
def Bs(d:Aa)(l:List Ag):Bool:=(List.range l.length).all (H4 d l)&&decide (l.length≤16)
theorem Y5{p:Nat→Bool}{n:Nat}(h:∀i,i<n→p i=true):(List.range n).all p=true:=List.all_eq_true.2 fun i hi=>h i (List.mem_range.1 hi)
theorem Yj{p:Nat→Bool}{n i:Nat}(hi:i<n)(h:p i=false):(List.range n).all p=false:=by
 rw[Bool.eq_false_iff]
 intro ha
 have:=List.all_eq_true.1 ha i (List.mem_range.2 hi)
 rw[h]at this
 cases this
theorem Q9{d:Aa}{i:Nat}(hi:i<d.nodes_.length)(h:Ht d i=false):false=Iz d:=by unfold Iz;rw[Yj hi h];rfl
theorem XeA{d:Aa}{b:Bool}(h:∀i,i<d.nodes_.length→Ht d i=true)(hb:b=decide (d.nodes_.length≤64)):b=Iz d:=by unfold Iz;rw[Y5 h,hb];rfl
theorem Xa4{d:Aa}{l:List Ag}{i:Nat}(hi:i<l.length)(h:H4 d l i=false):false=Bs d l:=by unfold Bs;rw[Yj hi h];rfl
theorem Xcb{d:Aa}{l:List Ag}{b:Bool}(h:∀i,i<l.length→H4 d l i=true)(hb:b=decide (l.length≤16)):b=Bs d l:=by unfold Bs;rw[Y5 h,hb];rfl
theorem Xbz{d:Aa}{l:List Ag}(h:Bs d l=true):l.length≤16:=by
 unfold Bs at h
 rw[Bool.and_eq_true,decide_eq_true_eq]at h
 exact h.2
theorem Xh2{d:Aa}{k:Nat}{x:B5}(hk:k<d.nodes_.length)(h:x=d.nodes_[k]):nd d k=x:=by rw[h,gD hk];rfl
theorem Xef{l:List Ag}{k:Nat}{x:Ag}(hk:k<l.length)(h:x=l[k]):en l k=x:=by rw[h,gD hk];rfl
def Gt(d:Aa):List Ag→List ByteArray→Bool
 |now,[]=>Bs d now&&N7 now d.entries_
 |now,s::ss=>Bs d now&&(Bb now s).2&&Gt d (Bb now s).1 ss
def Bp(d:Aa):Bool:=B4 d.room_&&C0 d.next_ 1 1000000000&&Iz d&&decide (Gf d≤d.room_)&&Gt d d.old_ d.steps_
theorem Xd3{l:List Ag}{n:ByteArray}{i:Int}(h:okL l)(hn:n.size≤1000000000):okL (Xad l n i):=by
 intro e he
 unfold Xad Nr at he
 split at he
 ·rename_i h0
  have hlt:=(M7 (rfl:A1 l n=_)).2
  rcases List.mem_or_eq_of_mem_set he with he|rfl
  ·exact h e he
  ·have hk:(A1 l n).toNat<l.length:=by omega
   show(l.getD (A1 l n).toNat ⟨tx [],0⟩).name_.size≤_
   rw[←gD hk]
   exact h _ (List.getElem_mem hk)
 ·simp only[List.append_assoc,List.mem_append,List.mem_cons,List.not_mem_nil,or_false,List.cons_append,List.nil_append]at he
  rcases he with he|rfl|he
  ·exact h e (List.mem_of_mem_take he)
  ·exact hn
  ·exact h e (List.mem_of_mem_drop he)
theorem Xco{l a:List Ag}{n:ByteArray}{b:Bool}(h:okL l)(e:Ie l n=(a,b)):okL a:=by
 unfold Ie Ps at e
 split at e
 ·simp only[Prod.mk.injEq]at e
  rw[←e.1];intro x hx;cases hx
 ·simp only[Prod.mk.injEq]at e
  rw[←e.1]
  intro x hx
  exact h x (List.mem_of_mem_eraseIdx hx)
theorem Xbu{l a:List Ag}{s:ByteArray}{b:Bool}(h:okL l)(hs:s.size≤1000000000)(e:Bb l s=(a,b)):okL a:=by
 have h0:∀{b:Bool},(([]:List Ag),false)=(a,b)→okL a:=fun h=>by
  simp only[Prod.mk.injEq]at h
  rw[←h.1];intro x hx;cases hx
 have hz:(s.extract 1 s.size).size≤s.size:=by rw[ByteArray.size_extract];omega
 obtain⟨x,y,c,hc⟩:∃x y c,Lm (s.extract 1 s.size)=(x,y,c):=⟨_,_,_,rfl⟩
 have hcb:=XgY hc
 unfold Bb at e
 rw[hc]at e
 split at e
 ·exact h0 e
 ·dsimp only at e
  split at e
  ·split at e
   ·exact h0 e
   ·simp only[Prod.mk.injEq]at e
    rw[←e.1]
    exact Xd3 h (by omega)
  ·split at e
   ·exact Xco h e
   ·split at e
    ·split at e
     ·exact h0 e
     ·simp only[Prod.mk.injEq]at e
      rw[←e.1]
      exact Xd3 (Xco h (b:=(Ie l x).2) rfl) (by omega)
    ·exact h0 e
end
section
open Go Go.Proofs
set_option maxRecDepth 20000
set_option maxHeartbeats 4000000
def Rw:List (Nat×TyRow):=[ty3,ty9,Xg4,XgU,Xbj,XcB,Xc0]
theorem Zp:B3 Tryz.prog Rw:=B3.of (by kernel_rfl)
theorem Ib:Setup Tryz.prog Rw:=⟨Zp,mixed⟩
theorem Kj:∀a b:List UInt8,Op.bytesLess a b=true→Op.bytesLess b a=false
 |_,[],h=>by simp[Op.bytesLess]at h
 |[],_::_,_=>by simp[Op.bytesLess]
 |a::x,b::y,h=>by
  simp only[Op.bytesLess,Bool.or_eq_true,decide_eq_true_eq,Bool.and_eq_true,beq_iff_eq]at h
  simp only[Op.bytesLess,Bool.or_eq_false_iff,decide_eq_false_iff_not,Bool.and_eq_false_iff,beq_eq_false_iff_ne]
  rcases h with h|⟨h1,h2⟩
  ·exact⟨fun h3=>absurd (UInt8.lt_trans h h3) (UInt8.lt_irrefl _),.inl fun e=>by subst e;exact UInt8.lt_irrefl _ h⟩
  ·subst h1
   exact⟨UInt8.lt_irrefl _,.inr (Kj x y h2)⟩
theorem Rm:∀a b:List UInt8,Op.bytesLess a b=false→a≠b→Op.bytesLess b a=true
 |[],[],_,h=>absurd rfl h
 |[],_::_,h,_=>by simp[Op.bytesLess]at h
 |_::_,[],_,_=>by simp[Op.bytesLess]
 |a::x,b::y,h,hn=>by
  simp only[Op.bytesLess,Bool.or_eq_false_iff,decide_eq_false_iff_not,Bool.and_eq_false_iff,beq_eq_false_iff_ne]at h
  simp only[Op.bytesLess,Bool.or_eq_true,decide_eq_true_eq,Bool.and_eq_true,beq_iff_eq]
  by_cases e:a=b
  ·subst e
   right
   refine⟨rfl,Rm x y (h.2.resolve_left fun h=>h rfl) fun e=>hn (by rw[e])⟩
  ·left
   exact(UInt8.lt_or_lt_of_ne e).resolve_left h.1
theorem Xal(a b:ByteArray):(!(ltB a b))=(ltB b a||decide (b=a)):=by
 unfold ltB
 cases h:Op.bytesLess a.toList b.toList with
 |true=>
  rw[Kj _ _ h]
  have:¬b=a:=by
   rintro rfl
   have:=Kj _ _ h
   rw[h]at this
   cases this
  rw[decide_eq_false this];rfl
 |false=>
  by_cases e:b=a
  ·rw[decide_eq_true e,Bool.or_true];rfl
  ·rw[Rm _ _ h fun e2=>e (Ox e2.symm),decide_eq_false e];rfl
def Gh(d:Aa)(l:List Ag):Bool:=Bs d l
def Je(a b:List Ag):Bool:=N7 a b
def Ck(l:List Ag)(name:ByteArray):List Ag:=l.filter fun x=>!decide (x.name_=name)
def Ou(e:Ag):List Ag→Bool→List Ag
 |[],done=>if done=true then[]else[e]
 |x::l,done=>(if done=false∧ltB x.name_ e.name_=false then[e]else[])++((if x.name_=e.name_ then[]else[x])++Ou e l (done|| !(ltB x.name_ e.name_)))
def Ci(l:List Ag)(e:Ag):List Ag:=Ou e l false
theorem Ge{e x:Ag}{l:List Ag}{i:Nat}{b:Bool}{w:List Ag}{r:List Ag}(hi:i<l.length)(hx:x=l[i])(h:w++Ou e (l.drop i) b=r):
  w++((if b=false∧ltB x.name_ e.name_=false then[e]else[])++((if x.name_=e.name_ then[]else[x])++Ou e (l.drop (i+1)) (b|| !(ltB x.name_ e.name_))))=r:=by
 rw[List.drop_eq_getElem_cons hi,←hx]at h
 exact h
variable {Aj:List B5} {Bk Bh Bg Bi xl xo:List (List D)} {An Ao l:List Ag} {Al:List ByteArray} {As Aq:Int} {o:Bool}
theorem Wy{o:Int}(Av:Aj.map A5=Bk)(At:An.map Ad=Bh)(Ax:Ao.map Ad=Bg)(Ay:Al.map cS=Bi)(hd:okD ⟨Aj,An,Ao,Al,As,Aq⟩)(hr:Gf (⟨Aj,An,Ao,Al,As,Aq⟩:Aa)=o):Fn Tryz.prog 225 [.agg [.d (.row 3 Bk),.d (.row 2 Bh),.d (.row 2 Bg),.d (.row 1 Bi),I As,I Aq]] [] ⟨I o,[],[]⟩:=by
 refine Fn.go Ib Tryz.func225 fun P hP Q hQ=>?_
 conv=>cbv
 refine LoopW.lp (κ:=Int×Int) Ib hP [] [1] (fun(i3,i4)=>[(3,I i3),(4,I i4)]) (fun(i3,i4)=>[])
  (fun(i3,i4)=>0≤i4∧i4≤Aj.length∧i3=XhT (fun n:B5=>(n.text_.size:Int)) (Aj.take i4.toNat)∧0≤i3∧i3≤1000000000*i4)
  (fun(i3,i4)=>(Aj.length - i4).toNat) (0,0) ⟨by omega,by omega,rfl,by omega,by omega⟩ ⟨rfl,rfl,trivial⟩ rfl ?_
 rintro⟨i3,i4⟩ J ⟨h0,h1,hx,hx0,hx1⟩ hJ
 have ag:Aj.length≤1000000000:=hd.1
 have ac:∀n∈Aj,n.text_.size≤1000000000:=hd.2.1
 conv=>cbv
 refine .go Av fun v1 ah=>?_
 conv=>cbv
 refine .lss (fun h2=>?_) fun h2=>?_
 conv=>cbv
 refine .go i4.toNat Av fun aa ⟨af,ad,ae⟩ ab=>?_
 conv=>cbv
 have hz:=ac _ (List.getElem_mem aa)
 rw[←ab]at hz
 simp only[]at hz
 refine .go fun v4 ai=>?_
 conv=>cbv
 refine .add fun v5 aj=>?_
 conv=>cbv
 refine .add fun v6 ak=>?_
 conv=>cbv
 exact .go [] (v5,v6) (hJ _ ⟨by omega,by omega,by rw[show v6.toNat=i4.toNat+1 by omega,XdD aa,←hx,←ab];simp only[];omega,by omega,by omega⟩ mlt)
 conv=>cbv
 have e:i3=Gf (⟨Aj,An,Ao,Al,As,Aq⟩:Aa):=(by unfold Gf;rw[hx,List.take_of_length_le (by omega)])
 rw[hr]at e
 subst e
 exact hQ _ _ (.i rfl rfl)
theorem K7:Setup Tryz.prog ((3000004,E7 Tryz.prog 3000004)::Rw):=(Setup.mark 3000004 Ib)
theorem Xu{list:List Ag}{xlist:List (List D)}(Av:Aj.map A5=Bk)(At:An.map Ad=Bh)(Ax:Ao.map Ad=Bg)(Ay:Al.map cS=Bi)(hlist:list.map Ad=xlist)(hd:okD ⟨Aj,An,Ao,Al,As,Aq⟩)(hl:okL list)(hln:list.length≤1000000000)(hr:Gh (⟨Aj,An,Ao,Al,As,Aq⟩:Aa) list=o):Fn Tryz.prog 262 [.agg [.d (.row 3 Bk),.d (.row 2 Bh),.d (.row 2 Bg),.d (.row 1 Bi),I As,I Aq],.d (.row 2 xlist)] [] ⟨B o,[],[]⟩:=by
 refine Fn.go K7 Tryz.func262 fun P hP Q hQ=>?_
 conv=>cbv
 refine LoopW.lp (κ:=Int) K7 hP [] [1,2] (fun i5=>[(5,I i5)]) (fun i5=>[])
  (fun i5=>0≤i5∧i5≤list.length∧∀j:Nat,j<i5.toNat→H4 (⟨Aj,An,Ao,Al,As,Aq⟩:Aa) list j=true)
  (fun i5=>(list.length - i5).toNat) (0) ⟨by omega,by omega,fun j h=>by simp at h⟩ ⟨rfl,trivial⟩ rfl ?_
 rintro i5 J ⟨h0,h1,hb⟩ hJ
 conv=>cbv
 refine .go hlist fun v1 a1=>?_
 conv=>cbv
 refine .lss (fun h2=>?_) fun h2=>?_
 conv=>cbv
 refine .go i5.toNat hlist fun aa ⟨ab,am⟩ aj=>?_
 conv=>cbv
 have hnd:=Xef aa aj
 have hzn:ab.size≤1000000000:=by have:=hl _ (List.getElem_mem aa);rw[←aj]at this;exact this
 generalize ag:Bl ab=r4
 refine .dd hP (Ii (by omega) ag) ?_
 cases r4
 conv=>cbv
 refine .go2 (by kernel_rfl) ?_
 conv=>cbv
 have e:false=Gh (⟨Aj,An,Ao,Al,As,Aq⟩:Aa) list:=(by exact Xa4 (d:=(⟨Aj,An,Ao,Al,As,Aq⟩:Aa)) aa (by unfold H4;rw[hnd];simp only[];rw[ag,Bool.and_false];rfl))
 rw[hr]at e
 subst e
 exact hQ _ _ (.b rfl rfl)
 conv=>cbv
 refine .go i5.toNat hlist fun az ⟨ae,ac⟩ an=>?_
 conv=>cbv
 generalize ao:Ez (⟨Aj,An,Ao,Al,As,Aq⟩:Aa) ac=r6
 refine .dd hP (Kb Av At Ax Ay (by have:=hd.1;simp only[]at this;omega) ao) ?_
 conv=>cbv
 obtain⟨rfl,rfl⟩:ae=ab∧ac=am:=by have:=an.trans aj.symm;rw[Ag.mk.injEq]at this;exact this
 have af:Iw (⟨Aj,An,Ao,Al,As,Aq⟩:Aa) ac=r6:=ao
 refine .lss (fun h7=>?_) fun h7=>?_
 conv=>cbv
 refine .go2 (by kernel_rfl) ?_
 conv=>cbv
 have e:false=Gh (⟨Aj,An,Ao,Al,As,Aq⟩:Aa) list:=(by exact Xa4 (d:=(⟨Aj,An,Ao,Al,As,Aq⟩:Aa)) aa (by unfold H4;rw[hnd];simp only[];rw[af,decide_eq_false (show¬0≤r6 by omega),Bool.and_false]))
 rw[hr]at e
 subst e
 exact hQ _ _ (.b rfl rfl)
 conv=>cbv
 refine .gtr (fun h8=>?_) fun h8=>?_
 conv=>cbv
 refine .sub fun v9 ar=>?_
 conv=>cbv
 refine .go v9.toNat hlist fun ak ⟨ah,au⟩ ap=>?_
 conv=>cbv
 refine .go i5.toNat hlist fun aw ⟨ad,al⟩ aq=>?_
 conv=>cbv
 obtain⟨rfl,rfl⟩:ad=ae∧al=ac:=by have:=aq.trans an.symm;rw[Ag.mk.injEq]at this;exact this
 have hpd:=Xef ak ap
 rw[show v9.toNat=i5.toNat - 1 by omega]at hpd
 have hgq:=(Xal ah ad).symm
 refine .geq fun ax ai=>?_
 conv=>cbv
 refine .go2 (by kernel_rfl) ?_
 conv=>cbv
 cases ax
 conv=>cbv
 refine .add fun ay a0=>?_
 conv=>cbv
 exact .go [] (ay) (hJ _ ⟨by omega,by omega,fun j h=>if e:j=i5.toNat then by subst e;unfold H4;rw[hnd,hpd];simp only[];rw[hgq,←ai,ag,af,decide_eq_true (show 0≤r6 by omega),decide_eq_false (show¬i5.toNat=0 by omega)];rfl else hb j (by omega)⟩ mlt)
 conv=>cbv
 have e:false=Gh (⟨Aj,An,Ao,Al,As,Aq⟩:Aa) list:=(by exact Xa4 (d:=(⟨Aj,An,Ao,Al,As,Aq⟩:Aa)) aa (by unfold H4;rw[hnd];simp only[];rw[hpd];simp only[];rw[hgq,←ai,decide_eq_false (show¬i5.toNat=0 by omega)];rfl))
 rw[hr]at e
 subst e
 exact hQ _ _ (.b rfl rfl)
 conv=>cbv
 refine .go2 (by kernel_rfl) ?_
 conv=>cbv
 refine .add fun v9 ar=>?_
 conv=>cbv
 exact .go [] (v9) (hJ _ ⟨by omega,by omega,fun j h=>if e:j=i5.toNat then by subst e;unfold H4;rw[hnd];simp only[];rw[ag,af,decide_eq_true (show 0≤r6 by omega),decide_eq_true (show i5.toNat=0 by omega)];rfl else hb j (by omega)⟩ mlt)
 conv=>cbv
 refine .go hlist fun v3 a2=>?_
 conv=>cbv
 refine .leq (fun h4=>?_) fun h4=>?_
 conv=>cbv
 have e:true=Gh (⟨Aj,An,Ao,Al,As,Aq⟩:Aa) list:=(by exact Xcb (l:=list) (fun j hj=>hb j (by omega)) (by symm;rw[decide_eq_true_eq];omega))
 rw[hr]at e
 subst e
 exact hQ _ _ (.b rfl rfl)
 conv=>cbv
 have e:false=Gh (⟨Aj,An,Ao,Al,As,Aq⟩:Aa) list:=(by exact Xcb (l:=list) (fun j hj=>hb j (by omega)) (by symm;rw[decide_eq_false_iff_not];omega))
 rw[hr]at e
 subst e
 exact hQ _ _ (.b rfl rfl)
theorem Xd6{a:List Ag}{xa:List (List D)}{b:List Ag}{xb:List (List D)}(ha:a.map Ad=xa)(hb:b.map Ad=xb)(ai:a.length<2^40)(hr:Je a b=o):Fn Tryz.prog 263 [.d (.row 2 xa),.d (.row 2 xb)] [] ⟨B o,[],[]⟩:=by
 refine Fn.go Ib Tryz.func263 fun P hP Q hQ=>?_
 conv=>cbv
 refine .go ha fun v1 aj=>?_
 conv=>cbv
 refine .go hb fun v2 ak=>?_
 conv=>cbv
 refine .neq (fun h3=>?_) fun h3=>?_
 conv=>cbv
 have e:false=Je a b:=(by unfold Je N7;symm;rw[decide_eq_false_iff_not];intro h;subst h;omega)
 rw[hr]at e
 subst e
 exact hQ _ _ (.b rfl rfl)
 conv=>cbv
 refine LoopW.lp (κ:=Int) Ib hP [] [0,1] (fun i5=>[(5,I i5)]) (fun i5=>[])
  (fun i5=>0≤i5∧i5≤a.length∧∀(j:Nat) (p:j<a.length) (q:j<b.length),j<i5.toNat→a[j]=b[j])
  (fun i5=>(a.length - i5).toNat) (0) ⟨by omega,by omega,fun j p q h=>by simp at h⟩ ⟨rfl,trivial⟩ rfl ?_
 rintro i5 J ⟨h0,h1,hs⟩ hJ
 conv=>cbv
 refine .go ha fun v4 al=>?_
 conv=>cbv
 refine .lss (fun h5=>?_) fun h5=>?_
 conv=>cbv
 refine .go i5.toNat ha fun ae ⟨ac,af⟩ aa=>?_
 conv=>cbv
 refine .go i5.toNat hb fun ag ⟨ad,ah⟩ ab=>?_
 conv=>cbv
 refine .eSI (fun h8=>?_) fun h8=>?_
 conv=>cbv
 refine .add fun v9 am=>?_
 conv=>cbv
 exact .go [] (v9) (hJ _ ⟨by omega,by omega,fun j p q h=>if e:j=i5.toNat then by subst e;rw[←aa,←ab,Ag.mk.injEq];exact h8 else hs j p q (by omega)⟩ mlt)
 conv=>cbv
 have e:false=Je a b:=(by unfold Je N7;symm;rw[decide_eq_false_iff_not];intro h;subst h;have:=aa.trans ab.symm;rw[Ag.mk.injEq]at this;exact h8 this)
 rw[hr]at e
 subst e
 exact hQ _ _ (.b rfl rfl)
 conv=>cbv
 have e:true=Je a b:=(by unfold Je N7;symm;rw[decide_eq_true_eq];exact List.ext_getElem (show a.length=b.length by omega) fun j p q=>hs j p q (by omega))
 rw[hr]at e
 subst e
 exact hQ _ _ (.b rfl rfl)
theorem N5{name:ByteArray}{o:List Ag}(hl:l.map Ad=xl)(hn:l.length≤4000000000)(hr:Ck l name=o)(ho:o.map Ad=xo):Fn Tryz.prog 266 [.d (.row 2 xl),S name] [] ⟨.d (.row 2 xo),[],[]⟩:=by
 refine Fn.go Ib Tryz.func266 fun P hP Q hQ=>?_
 conv=>cbv
 refine LoopW.lp (κ:=Int×(List (List D))×Nat) Ib hP [1] [0,1] (fun(i6,aa,ab)=>[(5,.ref 2 0 ab),(6,I i6)]) (fun(i6,aa,ab)=>[(2,.row 2 false aa)])
  (fun(i6,aa,ab)=>∃(w2:List Ag),w2.map Ad=aa∧ab=w2.length∧0≤i6∧i6≤l.length∧w2=(l.take i6.toNat).filter (fun x=>!decide (x.name_=name))∧w2.length≤i6)
  (fun(i6,aa,ab)=>(l.length - i6).toNat) (0,[],0) ⟨[],rfl,rfl,by omega,by omega,rfl,by simp⟩ ⟨rfl,rfl,trivial⟩ rfl ?_
 rintro⟨i6,aa,ab⟩ J ⟨w2,ac,al,h0,h1,hx,hxl⟩ hJ
 conv=>cbv
 refine .go hl fun v1 ap=>?_
 conv=>cbv
 refine .lss (fun h2=>?_) fun h2=>?_
 conv=>cbv
 refine .go i6.toNat hl fun ad ⟨ah,am⟩ ae=>?_
 conv=>cbv
 refine .neq (fun h4=>?_) fun h4=>?_
 conv=>cbv
 refine .go i6.toNat hl fun an ⟨af,ag⟩ ai=>?_
 conv=>cbv
 refine .one (⟨af,ag⟩:Ag) ac rfl fun aj z6 ao ak=>?_
 conv=>cbv
 refine .add fun v7 aq=>?_
 conv=>cbv
 exact .go [4] (v7,z6,aj) (hJ _ ⟨_,ak,Em,by omega,by omega,by rw[show v7.toNat=i6.toNat+1 by omega,Ey ad,←hx,←ae];simp only[];rw[decide_eq_false h4,ai,←ae];rfl,by rw[List.length_append,List.length_singleton];omega⟩ mlt)
 conv=>cbv
 refine .add fun v5 ar=>?_
 conv=>cbv
 exact .go [2] (v5,aa,ab) (hJ _ ⟨_,ac,Em,by omega,by omega,by rw[show v5.toNat=i6.toNat+1 by omega,Ey ad,←hx,←ae];simp only[];rw[decide_eq_true h4];simp,by omega⟩ mlt)
 conv=>cbv
 have e:w2=Ck l name:=(by unfold Ck;rw[hx,List.take_of_length_le (by omega)])
 rw[hr]at e
 subst e
 exact hQ _ _ (.r rfl rfl (by rw[←ac,List.length_map];first|omega|(simp;omega)) (by rw[←ac,←ho]))
theorem Ig{enam:ByteArray}{eid:Int}{o:List Ag}(hl:l.map Ad=xl)(hn:l.length≤4000000000)(hr:Ci l (⟨enam,eid⟩:Ag)=o)(ho:o.map Ad=xo):Fn Tryz.prog 267 [.d (.row 2 xl),.agg [S enam,I eid]] [] ⟨.d (.row 2 xo),[],[]⟩:=by
 refine Fn.go Ib Tryz.func267 fun P hP Q hQ=>?_
 conv=>cbv
 refine LoopW.lp (κ:=Bool×Int×(List (List D))×Nat) Ib hP [2] [0,3] (fun(b6,i7,ad,ae)=>[(5,.ref 3 0 ae),(6,B b6),(7,I i7)]) (fun(b6,i7,ad,ae)=>[(3,.row 2 false ad)])
  (fun(b6,i7,ad,ae)=>∃(w3:List Ag),w3.map Ad=ad∧ae=w3.length∧0≤i7∧i7≤l.length∧w3++Ou (⟨enam,eid⟩:Ag) (l.drop i7.toNat) b6=Ci l (⟨enam,eid⟩:Ag)∧w3.length≤2*i7)
  (fun(b6,i7,ad,ae)=>(l.length - i7).toNat) (false,0,[],0) ⟨[],rfl,rfl,by omega,by omega,rfl,by simp⟩ ⟨rfl,rfl,rfl,trivial⟩ rfl ?_
 rintro⟨b6,i7,ad,ae⟩ J ⟨w3,af,a9,h0,h1,hx,hxl⟩ hJ
 conv=>cbv
 refine .go hl fun v1 bj=>?_
 conv=>cbv
 refine .lss (fun h2=>?_) fun h2=>?_
 conv=>cbv
 cases b6
 conv=>cbv
 refine .go i7.toNat hl fun aq ⟨ac,ak⟩ ab=>?_
 conv=>cbv
 refine .geq fun b4 al=>?_
 conv=>cbv
 cases b4
 conv=>cbv
 refine .go i7.toNat hl fun ar ⟨aa,ag⟩ am=>?_
 conv=>cbv
 obtain⟨rfl,rfl⟩:aa=ac∧ag=ak:=by have:=am.trans ab.symm;rw[Ag.mk.injEq]at this;exact this
 refine .neq (fun h6=>?_) fun h6=>?_
 conv=>cbv
 refine .go i7.toNat hl fun ba ⟨ah,an⟩ az=>?_
 conv=>cbv
 obtain⟨rfl,rfl⟩:ah=aa∧an=ag:=by have:=az.trans am.symm;rw[Ag.mk.injEq]at this;exact this
 refine .one (⟨ah,an⟩:Ag) af rfl fun a0 z8 bb a1=>?_
 conv=>cbv
 refine .add fun v9 bk=>?_
 conv=>cbv
 have hlt:ltB ah enam=true:=by simpa using al
 have hps:=Ge (show i7.toNat<l.length by omega) ab hx
 simp only[]at hps
 rw[hlt,if_neg (by simp),if_neg h6,List.nil_append,←List.append_assoc]at hps
 exact .go [5] (false,v9,z8,a0) (hJ _ ⟨_,a1,Em,by omega,by omega,by rw[show v9.toNat=i7.toNat+1 by omega];exact hps,by first|omega|(simp;omega)⟩ mlt)
 conv=>cbv
 refine .add fun v7 a2=>?_
 conv=>cbv
 have hlt:ltB aa enam=true:=by simpa using al
 have hps:=Ge (show i7.toNat<l.length by omega) ab hx
 simp only[]at hps
 rw[hlt,if_neg (by simp),if_pos h6,List.nil_append,List.nil_append]at hps
 exact .go [3] (false,v7,ad,ae) (hJ _ ⟨_,af,Em,by omega,by omega,by rw[show v7.toNat=i7.toNat+1 by omega];exact hps,by first|omega|(simp;omega)⟩ mlt)
 conv=>cbv
 refine .one (⟨enam,eid⟩:Ag) af rfl fun a3 z5 bc au=>?_
 conv=>cbv
 refine .go i7.toNat hl fun bd ⟨ai,ao⟩ aw=>?_
 conv=>cbv
 obtain⟨rfl,rfl⟩:ai=ac∧ao=ak:=by have:=aw.trans ab.symm;rw[Ag.mk.injEq]at this;exact this
 refine .neq (fun h7=>?_) fun h7=>?_
 conv=>cbv
 refine .go i7.toNat hl fun be ⟨aj,ap⟩ a4=>?_
 conv=>cbv
 obtain⟨rfl,rfl⟩:aj=ai∧ap=ao:=by have:=a4.trans aw.symm;rw[Ag.mk.injEq]at this;exact this
 refine .one (⟨aj,ap⟩:Ag) au rfl fun a5 z9 bf a6=>?_
 conv=>cbv
 refine .add fun ax bg=>?_
 conv=>cbv
 have hlt:ltB aj enam=false:=by simpa using al
 have hps:=Ge (show i7.toNat<l.length by omega) ab hx
 simp only[]at hps
 rw[hlt,if_pos (by simp),if_neg h7,←List.append_assoc,←List.append_assoc]at hps
 exact .go [7] (true,ax,z9,a5) (hJ _ ⟨_,a6,Em,by omega,by omega,by rw[show ax.toNat=i7.toNat+1 by omega];exact hps,by first|omega|(simp;omega)⟩ mlt)
 conv=>cbv
 refine .add fun v8 bl=>?_
 conv=>cbv
 have hlt:ltB ai enam=false:=by simpa using al
 have hps:=Ge (show i7.toNat<l.length by omega) ab hx
 simp only[]at hps
 rw[hlt,if_pos (by simp),if_pos h7,List.nil_append,←List.append_assoc]at hps
 exact .go [5] (true,v8,z5,a3) (hJ _ ⟨_,au,Em,by omega,by omega,by rw[show v8.toNat=i7.toNat+1 by omega];exact hps,by first|omega|(simp;omega)⟩ mlt)
 conv=>cbv
 refine .go i7.toNat hl fun aq ⟨ac,ak⟩ ab=>?_
 conv=>cbv
 refine .neq (fun h4=>?_) fun h4=>?_
 conv=>cbv
 refine .go i7.toNat hl fun ar ⟨aa,ag⟩ am=>?_
 conv=>cbv
 obtain⟨rfl,rfl⟩:aa=ac∧ag=ak:=by have:=am.trans ab.symm;rw[Ag.mk.injEq]at this;exact this
 refine .one (⟨aa,ag⟩:Ag) af rfl fun a7 z6 bh a8=>?_
 conv=>cbv
 refine .add fun v7 a2=>?_
 conv=>cbv
 have hps:=Ge (show i7.toNat<l.length by omega) ab hx
 simp only[]at hps
 rw[if_neg (by simp),if_neg h4,List.nil_append,←List.append_assoc]at hps
 exact .go [5] (true,v7,z6,a7) (hJ _ ⟨_,a8,Em,by omega,by omega,by rw[show v7.toNat=i7.toNat+1 by omega];exact hps,by first|omega|(simp;omega)⟩ mlt)
 conv=>cbv
 refine .add fun v5 bm=>?_
 conv=>cbv
 have hps:=Ge (show i7.toNat<l.length by omega) ab hx
 simp only[]at hps
 rw[if_neg (by simp),if_pos h4,List.nil_append,List.nil_append]at hps
 exact .go [3] (true,v5,ad,ae) (hJ _ ⟨_,af,Em,by omega,by omega,by rw[show v5.toNat=i7.toNat+1 by omega];exact hps,by first|omega|(simp;omega)⟩ mlt)
 conv=>cbv
 cases b6
 conv=>cbv
 refine .one (⟨enam,eid⟩:Ag) af rfl fun bn z3 bi ay=>?_
 conv=>cbv
 have e:(w3++[(⟨enam,eid⟩:Ag)])=Ci l (⟨enam,eid⟩:Ag):=(by rw[List.drop_of_length_le (by omega)]at hx;exact hx)
 rw[hr]at e
 subst e
 exact hQ _ _ (.r rfl rfl (by rw[←ay,List.length_map];first|omega|(simp;omega)) (by rw[←ay,←ho]))
 conv=>cbv
 have e:w3=Ci l (⟨enam,eid⟩:Ag):=(by rw[List.drop_of_length_le (by omega)]at hx;simpa[Ou]using hx)
 rw[hr]at e
 subst e
 exact hQ _ _ (.r rfl rfl (by rw[←af,List.length_map];first|omega|(simp;omega)) (by rw[←af,←ho]))
end
section
open Go Go.Proofs
set_option maxRecDepth 20000
set_option maxHeartbeats 4000000
theorem diskOk_iff{d:Aa}:Bp d=true↔(0≤d.room_∧d.room_≤1000000000)∧(1≤d.next_∧d.next_≤1000000000)∧Iz d=true∧Gf d≤d.room_∧Gt d d.old_ d.steps_=true:=by
 unfold Bp B4 C0
 simp only[Bool.and_eq_true,decide_eq_true_eq,and_assoc]
theorem Fl{d:Aa}(h:¬Bp d=true):false=Bp d:=by
 symm
 rw[Bool.eq_false_iff]
 exact h
theorem Xdl{d:Aa}{now:List Ag}{l:List ByteArray}(h:Bs d now=false):Gt d now l=false:=by
 cases l with
 |nil=>unfold Gt;rw[h];rfl
 |cons=>unfold Gt;rw[h];rfl
def Kp:List Ag→List ByteArray→List Ag×Bool
 |now,[]=>(now,true)
 |now,s::ss=>if(Bb now s).2=false then([],false)else Kp (Bb now s).1 ss
end
section
open Go Go.Proofs
set_option maxRecDepth 20000
set_option maxHeartbeats 4000000
def Sg:List (Nat×TyRow):=[ty3,ty5,ty9]
theorem X8:B3 Tryz.prog Sg:=B3.of (by kernel_rfl)
theorem XgG:Setup Tryz.prog Sg:=⟨X8,mixed⟩
theorem Kw{a b:ByteArray}(h:a.data.toList=b.data.toList):a=b:=ByteArray.ext (Array.toList_inj.1 h)
theorem C8(s:ByteArray)(a b:Nat):(s.extract a b).data.toList=(s.data.toList.take b).drop a:=by
 rw[ByteArray.data_extract,Array.toList_extract,List.extract_eq_take_drop,List.drop_take]
theorem Li{c:UInt8}:∀(l:List UInt8) (k:Nat),l[k]? =some c→(∀j,j<k→∀x,l[j]? =some x→x≠c)→Lib.indexByte l c=k
 |[],k,h,_=>by simp at h
 |b::l,0,h,_=>by
  simp at h
  simp[Lib.indexByte,h]
 |b::l,k+1,h,hb=>by
  have h0:=hb 0 (by omega) b rfl
  have ih:=Li l k (by simpa using h) (fun j hj x hx=>hb (j+1) (by omega) x (by simpa using hx))
  unfold Lib.indexByte
  rw[if_neg (by simpa using h0),ih,if_neg (by simp)]
  omega
theorem Qc{c:UInt8}:∀(l:List UInt8),(∀(j:Nat) x,l[j]? =some x→x≠c)→Lib.indexByte l c= -1
 |[],_=>rfl
 |b::l,hb=>by
  have h0:=hb 0 b rfl
  have ih:=Qc l (fun j x hx=>hb (j+1) x (by simpa using hx))
  unfold Lib.indexByte
  rw[if_neg (by simpa using h0),ih,if_pos (by rfl)]
theorem u8_58{x:UInt8}:x≠58↔x.toNat≠58:=⟨fun h e=>h (UInt8.toNat_inj.1 e),fun h e=>h (by rw[e];rfl)⟩
theorem Xb0{s:ByteArray}{j:Nat}{x:UInt8}(h:(s.extract 1 s.size).data.toList[j]? =some x):∃hj:j+1<s.size,s[j+1]=x:=by
 rw[C8,List.getElem?_drop,List.take_of_length_le (by rw[Array.length_toList];exact Nat.le_refl _)]at h
 have hl:1+j<s.size:=by
  have:=(List.getElem?_eq_some_iff.1 h).1
  rwa[Array.length_toList]at this
 refine⟨by omega,?_⟩
 rw[show 1+j=j+1 by omega,Kr (show j+1<s.size by omega)]at h
 exact Option.some.inj h
theorem Pf{s:ByteArray}{i:Nat}(h1:1≤i)(hi:i<s.size)(h:(s[i]).toNat=58)(hb:∀j,1≤j→j<i→∀hj:j<s.size,(s[j]).toNat≠58):Lm (s.extract 1 s.size)=(s.extract 1 i,s.extract (i+1) s.size,true):=by
 obtain⟨k,rfl⟩:∃k,i=k+1:=⟨i - 1,by omega⟩
 have hsz:(s.extract 1 s.size).size=s.size - 1:=by rw[ByteArray.size_extract];omega
 have e:Ke (s.extract 1 s.size)=(k:Int):=by
  refine Li _ k ?_ ?_
  ·rw[C8,List.getElem?_drop,List.take_of_length_le (by rw[Array.length_toList];exact Nat.le_refl _),show 1+k=k+1 by omega,Kr hi]
   exact congrArg some (UInt8.toNat_inj.1 h)
  ·intro j hj x hx
   obtain⟨aa,rfl⟩:=Xb0 hx
   exact u8_58.2 (hb (j+1) (by omega) (by omega) aa)
 unfold Lm
 rw[e,if_pos (by omega),Int.toNat_natCast,hsz]
 have a1:(s.extract 1 s.size).extract 0 k=s.extract 1 (k+1):=by
  apply Kw
  rw[C8,C8,C8,List.drop_zero,List.take_of_length_le (l:=s.data.toList) (by rw[Array.length_toList];exact Nat.le_refl _),List.drop_take,Nat.add_sub_cancel]
 have a2:(s.extract 1 s.size).extract (k+1) (s.size - 1)=s.extract (k+1+1) s.size:=by
  apply Kw
  rw[C8,C8,C8,List.take_of_length_le (l:=s.data.toList) (by rw[Array.length_toList];exact Nat.le_refl _),List.take_of_length_le (by rw[List.length_drop,Array.length_toList];exact Nat.le_refl _),List.drop_drop]
  congr 1
  omega
 rw[a1,a2]
theorem Xgn{s:ByteArray}(hb:∀j,1≤j→∀hj:j<s.size,(s[j]).toNat≠58):(Lm (s.extract 1 s.size)).2.2=false:=by
 have e:Ke (s.extract 1 s.size)= -1:=by
  refine Qc _ ?_
  intro j x hx
  obtain⟨aa,rfl⟩:=Xb0 hx
  exact u8_58.2 (hb (j+1) (by omega) aa)
 unfold Lm
 rw[e,if_neg (by omega)]
def Be(s:ByteArray):ByteArray×ByteArray×Int×Bool:=
 if s.size<2∨(s.data.toList.head?≠some 43∧s.data.toList.head?≠some 45∧s.data.toList.head?≠some 62)then(tx [],tx [],0,false)
 else if s.data.toList.head?=some 45 then(s.extract 1 s.size,tx [],0,true)
 else if(Lm (s.extract 1 s.size)).2.2=false then(tx [],tx [],0,false)
 else if s.data.toList.head?=some 62 then((Lm (s.extract 1 s.size)).1,(Lm (s.extract 1 s.size)).2.1,0,Bl (Lm (s.extract 1 s.size)).2.1&& !decide ((Lm (s.extract 1 s.size)).1=(Lm (s.extract 1 s.size)).2.1))
 else((Lm (s.extract 1 s.size)).1,tx [],(Bd (Lm (s.extract 1 s.size)).2.1).1,(Bd (Lm (s.extract 1 s.size)).2.1).2&&Bl (Lm (s.extract 1 s.size)).1)
theorem H3{s:ByteArray}{v:Int}{n:Nat}(h0:0<s.size)(hv:v=((s[0]).toNat:Int))(h:v≠(n:Int))(hn:n<256):s.data.toList.head?≠some (UInt8.ofNat n):=by
 rw[Q4 h0]
 intro e
 exact u8_ne hv h hn (Option.some.inj e)
theorem Hd{s:ByteArray}{v:Int}{n:Nat}(h0:0<s.size)(hv:v=((s[0]).toNat:Int))(h:v=(n:Int))(hn:n<256):s.data.toList.head?=some (UInt8.ofNat n):=(Q4 h0).trans (congrArg some (u8_eq hv h hn))
section
variable {s a b:ByteArray}
theorem Vf(h:s.size<2∨(s.data.toList.head?≠some 43∧s.data.toList.head?≠some 45∧s.data.toList.head?≠some 62)):(tx [],tx [],0,false)=Be s:=by unfold Be;rw[if_pos h]
theorem Yg(h2:2≤s.size)(h:s.data.toList.head?=some 45):(s.extract 1 s.size,tx [],0,true)=Be s:=by
 unfold Be
 rw[if_neg (by rw[h];rintro(h|h);omega;exact h.2.1 rfl),if_pos h]
theorem W2(h2:2≤s.size)(hh:s.data.toList.head?=some 43∨s.data.toList.head?=some 45∨s.data.toList.head?=some 62)(h45:s.data.toList.head?≠some 45)(hc:(Lm (s.extract 1 s.size)).2.2=false):(tx [],tx [],0,false)=Be s:=by
 unfold Be
 rw[if_neg (by rintro(h|⟨k1,k2,k3⟩);omega;rcases hh with h|h|h;exact k1 h;exact k2 h;exact k3 h),if_neg h45,if_pos hc]
theorem Rd(h2:2≤s.size)(h:s.data.toList.head?=some 62)(hc:Lm (s.extract 1 s.size)=(a,b,true)):Be s=(a,b,0,Bl b&& !decide (a=b)):=by
 unfold Be
 rw[if_neg (by rw[h];rintro(h|h);omega;exact h.2.2 rfl),if_neg (by rw[h];decide),hc,if_neg (by simp),if_pos h]
theorem Q2(h2:2≤s.size)(h:s.data.toList.head?=some 43)(hc:Lm (s.extract 1 s.size)=(a,b,true)):Be s=(a,tx [],(Bd b).1,(Bd b).2&&Bl a):=by
 unfold Be
 rw[if_neg (by rw[h];rintro(h|h);omega;exact h.1 rfl),if_neg (by rw[h];decide),hc,if_neg (by simp),if_neg (by rw[h];decide)]
end
theorem Kz:Setup Tryz.prog ((3000009,E7 Tryz.prog 3000009)::((3000012,E7 Tryz.prog 3000012)::((1000026,E7 Tryz.prog 1000026)::Sg))):=(Setup.mark 3000009 (Setup.mark 3000012 (Setup.mark 1000026 XgG)))
theorem Y8{step:ByteArray}{oa:ByteArray}{ob:ByteArray}{oc:Int}{od:Bool}(hs:step.size≤1000000000)(hr:Be step=(oa,ob,oc,od)):Fn Tryz.prog 264 [S step] [] ⟨.tup [S oa,S ob,I oc,B od],[],[]⟩:=by
 refine Fn.go Kz Tryz.func264 fun P hP Q hQ=>?_
 conv=>cbv
 refine JoinW.jn (κ:=Unit) Kz hP [] [0] (fun()=>[]) (fun()=>[])
  (fun()=>2≤step.size∧(step.data.toList.head?=some 43∨step.data.toList.head?=some 45∨step.data.toList.head?=some 62)) (fun Jj hJj=>?_) ?_
 conv=>cbv
 refine .go fun v1 an=>?_
 conv=>cbv
 refine .lss (fun h2=>?_) fun h2=>?_
 conv=>cbv
 have e:((tx []),(tx []),0,false)=Be step:=(by exact Vf (.inl (by omega)))
 rw[hr]at e
 simp only[Prod.mk.injEq]at e
 obtain⟨rfl,rfl,rfl,rfl⟩:=e
 refine hQ _ _ ?_
 exact .many (.inl rfl) rfl rfl (.d rfl rfl (.d rfl rfl (.d rfl rfl (.d rfl rfl (.nil)))))
 conv=>cbv
 refine .go 0 fun hjv3 v3 aw bv3=>?_
 conv=>cbv
 refine .neq (fun h4=>?_) fun h4=>?_
 conv=>cbv
 refine .go 0 fun hjv5 v5 ax bv5=>?_
 conv=>cbv
 refine .neq (fun h6=>?_) fun h6=>?_
 conv=>cbv
 refine .go 0 fun hjv7 v7 ac bv7=>?_
 conv=>cbv
 refine .neq (fun h8=>?_) fun h8=>?_
 conv=>cbv
 have e:((tx []),(tx []),0,false)=Be step:=(by exact Vf (.inr ⟨(H3 (n:=43) (show 0<step.size by omega) aw (by omega) (by decide)),(H3 (n:=45) (show 0<step.size by omega) ax (by omega) (by decide)),(H3 (n:=62) (show 0<step.size by omega) ac (by omega) (by decide))⟩))
 rw[hr]at e
 simp only[Prod.mk.injEq]at e
 obtain⟨rfl,rfl,rfl,rfl⟩:=e
 refine hQ _ _ ?_
 exact .many (.inl rfl) rfl rfl (.d rfl rfl (.d rfl rfl (.d rfl rfl (.d rfl rfl (.nil)))))
 conv=>cbv
 exact .go [] (()) (hJj _ ⟨by omega,.inr (.inr (Hd (n:=62) (show 0<step.size by omega) ac (by omega) (by decide)))⟩)
 conv=>cbv
 exact .go [] (()) (hJj _ ⟨by omega,.inr (.inl (Hd (n:=45) (show 0<step.size by omega) ax (by omega) (by decide)))⟩)
 conv=>cbv
 exact .go [] (()) (hJj _ ⟨by omega,.inl (Hd (n:=43) (show 0<step.size by omega) aw (by omega) (by decide))⟩)
 rintro⟨⟩ ⟨ag,hh0⟩
 conv=>cbv
 refine .go 0 fun hjv1 v1 an bv1=>?_
 conv=>cbv
 refine .eql (fun h2=>?_) fun h2=>?_
 conv=>cbv
 refine .lo fun s3 be=>?_
 conv=>cbv
 have e:(s3,(tx []),0,true)=Be step:=(by rw[be];exact Yg ag (Hd (n:=45) (show 0<step.size by omega) an (by omega) (by decide)))
 rw[hr]at e
 simp only[Prod.mk.injEq]at e
 obtain⟨rfl,rfl,rfl,rfl⟩:=e
 refine hQ _ _ ?_
 exact .many (.inl rfl) rfl rfl (.d rfl rfl (.d rfl rfl (.d rfl rfl (.d rfl rfl (.nil)))))
 conv=>cbv
 refine LoopW.lp (κ:=Int) Kz hP [] [0] (fun i6=>[(6,I i6)]) (fun i6=>[])
  (fun i6=>1≤i6∧i6≤step.size∧∀j,1≤j→j<i6.toNat→∀hj:j<step.size,(step[j]).toNat≠58)
  (fun i6=>(step.size - i6).toNat) (1) ⟨by omega,by omega,fun j h1 h2=>by omega⟩ ⟨rfl,trivial⟩ rfl ?_
 rintro i6 J1 ⟨h0,h1,hb⟩ bf
 conv=>cbv
 refine .go fun v3 aw=>?_
 conv=>cbv
 refine .lss (fun h4=>?_) fun h4=>?_
 conv=>cbv
 refine .go i6.toNat fun hjv5 v5 ax bv5=>?_
 conv=>cbv
 refine .eql (fun h6=>?_) fun h6=>?_
 conv=>cbv
 refine .go 0 fun hjv7 v7 ac bv7=>?_
 conv=>cbv
 refine .eql (fun h8=>?_) fun h8=>?_
 conv=>cbv
 refine .lohi fun s9 ay=>?_
 conv=>cbv
 refine .add fun az bh=>?_
 conv=>cbv
 refine .lo fun a0 ao=>?_
 conv=>cbv
 refine .add fun a1 bi=>?_
 conv=>cbv
 refine .lo fun ah ad=>?_
 conv=>cbv
 have a6:ah.size≤step.size:=by rw[ad,ByteArray.size_extract];omega
 generalize aa:Bl ah=a2
 refine .dd hP (Ii (by omega) aa) ?_
 cases a2
 conv=>cbv
 refine .go2 (by kernel_rfl) ?_
 conv=>cbv
 have e:(s9,a0,0,false)=Be step:=(by have hm:=Rd ag (Hd (n:=62) (show 0<step.size by omega) ac (by omega) (by decide)) (Pf (s:=step) (i:=i6.toNat) (by omega) (by omega) (by omega) hb);have ai:ah=step.extract (i6.toNat+1) step.size:=(by rw[ad,show a1.toNat=i6.toNat+1 by omega]);rw[ai]at aa;rw[hm,ay,ao,aa,show az.toNat=i6.toNat+1 by omega];rfl)
 rw[hr]at e
 simp only[Prod.mk.injEq]at e
 obtain⟨rfl,rfl,rfl,rfl⟩:=e
 refine hQ _ _ ?_
 exact .many (.inl rfl) rfl rfl (.d rfl rfl (.d rfl rfl (.d rfl rfl (.d rfl rfl (.nil)))))
 conv=>cbv
 refine .lohi fun a3 ae=>?_
 conv=>cbv
 refine .add fun a7 bj=>?_
 conv=>cbv
 refine .lo fun bo au=>?_
 conv=>cbv
 refine .neq (fun h18=>?_) fun h18=>?_
 conv=>cbv
 refine .go2 (by kernel_rfl) ?_
 conv=>cbv
 have e:(s9,a0,0,true)=Be step:=(by have hm:=Rd ag (Hd (n:=62) (show 0<step.size by omega) ac (by omega) (by decide)) (Pf (s:=step) (i:=i6.toNat) (by omega) (by omega) (by omega) hb);have ai:ah=step.extract (i6.toNat+1) step.size:=(by rw[ad,show a1.toNat=i6.toNat+1 by omega]);rw[ai]at aa;rw[hm,ay,ao,aa,show az.toNat=i6.toNat+1 by omega,decide_eq_false (show¬step.extract 1 i6.toNat=step.extract (i6.toNat+1) step.size from fun e=>h18 (by rw[ae,au,show a7.toNat=i6.toNat+1 by omega];exact e))];rfl)
 rw[hr]at e
 simp only[Prod.mk.injEq]at e
 obtain⟨rfl,rfl,rfl,rfl⟩:=e
 refine hQ _ _ ?_
 exact .many (.inl rfl) rfl rfl (.d rfl rfl (.d rfl rfl (.d rfl rfl (.d rfl rfl (.nil)))))
 conv=>cbv
 refine .go2 (by kernel_rfl) ?_
 conv=>cbv
 have e:(s9,a0,0,false)=Be step:=(by have hm:=Rd ag (Hd (n:=62) (show 0<step.size by omega) ac (by omega) (by decide)) (Pf (s:=step) (i:=i6.toNat) (by omega) (by omega) (by omega) hb);have ai:ah=step.extract (i6.toNat+1) step.size:=(by rw[ad,show a1.toNat=i6.toNat+1 by omega]);rw[ai]at aa;rw[hm,ay,ao,aa,show az.toNat=i6.toNat+1 by omega,decide_eq_true (show step.extract 1 i6.toNat=step.extract (i6.toNat+1) step.size from by rw[ae,au,show a7.toNat=i6.toNat+1 by omega]at h18;exact h18)];rfl)
 rw[hr]at e
 simp only[Prod.mk.injEq]at e
 obtain⟨rfl,rfl,rfl,rfl⟩:=e
 refine hQ _ _ ?_
 exact .many (.inl rfl) rfl rfl (.d rfl rfl (.d rfl rfl (.d rfl rfl (.d rfl rfl (.nil)))))
 conv=>cbv
 refine .go i6.toNat fun hjv9 v9 a8 bv9=>?_
 conv=>cbv
 refine .eql (fun h10=>?_) fun h10=>?_
 conv=>cbv
 refine .add fun a4 bk=>?_
 conv=>cbv
 refine .lo fun af aj=>?_
 conv=>cbv
 have bl:af.size≤step.size:=by rw[aj,ByteArray.size_extract];omega
 rcases ab:Bd af with⟨ap,a9⟩
 refine .dd hP (Oe (by omega) ab) ?_
 conv=>cbv
 refine .lohi fun a5 aq=>?_
 conv=>cbv
 cases a9
 conv=>cbv
 refine .go2 (by kernel_rfl) ?_
 conv=>cbv
 have e:(a5,(tx []),ap,false)=Be step:=(by have hm:=Q2 ag (hh0.elim id fun h=>h.elim (fun h=>absurd h (H3 (n:=45) (show 0<step.size by omega) an (by omega) (by decide))) fun h=>absurd h (H3 (n:=62) (show 0<step.size by omega) ac (by omega) (by decide))) (Pf (s:=step) (i:=i6.toNat) (by omega) (by omega) (by omega) hb);have ak:af=step.extract (i6.toNat+1) step.size:=(by rw[aj,show a4.toNat=i6.toNat+1 by omega]);rw[ak]at ab;rw[hm,aq,ab];rfl)
 rw[hr]at e
 simp only[Prod.mk.injEq]at e
 obtain⟨rfl,rfl,rfl,rfl⟩:=e
 refine hQ _ _ ?_
 exact .many (.inl rfl) rfl rfl (.d rfl rfl (.d rfl rfl (.d rfl rfl (.d rfl rfl (.nil)))))
 conv=>cbv
 refine .lohi fun a3 ae=>?_
 conv=>cbv
 have bm:a3.size≤step.size:=by rw[ae,ByteArray.size_extract];omega
 generalize al:Bl a3=bg
 refine .dd hP (Ii (by omega) al) ?_
 cases bg
 conv=>cbv
 refine .go2 (by kernel_rfl) ?_
 conv=>cbv
 have e:(a5,(tx []),ap,false)=Be step:=(by have hm:=Q2 ag (hh0.elim id fun h=>h.elim (fun h=>absurd h (H3 (n:=45) (show 0<step.size by omega) an (by omega) (by decide))) fun h=>absurd h (H3 (n:=62) (show 0<step.size by omega) ac (by omega) (by decide))) (Pf (s:=step) (i:=i6.toNat) (by omega) (by omega) (by omega) hb);have ak:af=step.extract (i6.toNat+1) step.size:=(by rw[aj,show a4.toNat=i6.toNat+1 by omega]);rw[ak]at ab;rw[ae]at al;have am:=(show Bl (step.extract 1 i6.toNat)=_ from al);rw[hm,aq,ab,am];rfl)
 rw[hr]at e
 simp only[Prod.mk.injEq]at e
 obtain⟨rfl,rfl,rfl,rfl⟩:=e
 refine hQ _ _ ?_
 exact .many (.inl rfl) rfl rfl (.d rfl rfl (.d rfl rfl (.d rfl rfl (.d rfl rfl (.nil)))))
 conv=>cbv
 refine .go2 (by kernel_rfl) ?_
 conv=>cbv
 have e:(a5,(tx []),ap,true)=Be step:=(by have hm:=Q2 ag (hh0.elim id fun h=>h.elim (fun h=>absurd h (H3 (n:=45) (show 0<step.size by omega) an (by omega) (by decide))) fun h=>absurd h (H3 (n:=62) (show 0<step.size by omega) ac (by omega) (by decide))) (Pf (s:=step) (i:=i6.toNat) (by omega) (by omega) (by omega) hb);have ak:af=step.extract (i6.toNat+1) step.size:=(by rw[aj,show a4.toNat=i6.toNat+1 by omega]);rw[ak]at ab;rw[ae]at al;have am:=(show Bl (step.extract 1 i6.toNat)=_ from al);rw[hm,aq,ab,am];rfl)
 rw[hr]at e
 simp only[Prod.mk.injEq]at e
 obtain⟨rfl,rfl,rfl,rfl⟩:=e
 refine hQ _ _ ?_
 exact .many (.inl rfl) rfl rfl (.d rfl rfl (.d rfl rfl (.d rfl rfl (.d rfl rfl (.nil)))))
 exfalso;omega
 conv=>cbv
 refine .go i6.toNat fun hjv7 v7 ac bv7=>?_
 conv=>cbv
 refine .eql (fun h8=>?_) fun h8=>?_
 conv=>cbv
 refine .add fun v9 a8=>?_
 conv=>cbv
 refine .lo fun ba bb=>?_
 conv=>cbv
 have bn:ba.size≤step.size:=by rw[bb,ByteArray.size_extract];omega
 rcases bc:Bd ba with⟨ar,bd⟩
 refine .dd hP (Oe (by omega) bc) ?_
 conv=>cbv
 refine .lohi fun af aj=>?_
 conv=>cbv
 cases bd
 conv=>cbv
 refine .go2 (by kernel_rfl) ?_
 conv=>cbv
 have e:(af,(tx []),ar,false)=Be step:=(by exfalso;omega)
 rw[hr]at e
 simp only[Prod.mk.injEq]at e
 obtain⟨rfl,rfl,rfl,rfl⟩:=e
 refine hQ _ _ ?_
 exact .many (.inl rfl) rfl rfl (.d rfl rfl (.d rfl rfl (.d rfl rfl (.d rfl rfl (.nil)))))
 conv=>cbv
 refine .lohi fun ah ad=>?_
 conv=>cbv
 have a6:ah.size≤step.size:=by rw[ad,ByteArray.size_extract];omega
 generalize aa:Bl ah=a2
 refine .dd hP (Ii (by omega) aa) ?_
 cases a2
 conv=>cbv
 refine .go2 (by kernel_rfl) ?_
 conv=>cbv
 have e:(af,(tx []),ar,false)=Be step:=(by exfalso;omega)
 rw[hr]at e
 simp only[Prod.mk.injEq]at e
 obtain⟨rfl,rfl,rfl,rfl⟩:=e
 refine hQ _ _ ?_
 exact .many (.inl rfl) rfl rfl (.d rfl rfl (.d rfl rfl (.d rfl rfl (.d rfl rfl (.nil)))))
 conv=>cbv
 refine .go2 (by kernel_rfl) ?_
 conv=>cbv
 have e:(af,(tx []),ar,true)=Be step:=(by exfalso;omega)
 rw[hr]at e
 simp only[Prod.mk.injEq]at e
 obtain⟨rfl,rfl,rfl,rfl⟩:=e
 refine hQ _ _ ?_
 exact .many (.inl rfl) rfl rfl (.d rfl rfl (.d rfl rfl (.d rfl rfl (.d rfl rfl (.nil)))))
 conv=>cbv
 refine .add fun v9 a8=>?_
 conv=>cbv
 exact .go [] (v9) (bf _ ⟨by omega,by omega,fun j k1 k2 hj=>if e:j=i6.toNat then by subst e;omega else hb j k1 (by omega) hj⟩ mlt)
 conv=>cbv
 have e:((tx []),(tx []),0,false)=Be step:=(by exact W2 ag hh0 (H3 (n:=45) (show 0<step.size by omega) an (by omega) (by decide)) (Xgn fun j k1 hj=>hb j k1 (by omega) hj))
 rw[hr]at e
 simp only[Prod.mk.injEq]at e
 obtain⟨rfl,rfl,rfl,rfl⟩:=e
 refine hQ _ _ ?_
 exact .many (.inl rfl) rfl rfl (.d rfl rfl (.d rfl rfl (.d rfl rfl (.d rfl rfl (.nil)))))
end
section
open Go Go.Proofs
set_option maxRecDepth 20000
set_option maxHeartbeats 4000000
def Ze:List (Nat×TyRow):=[ty3,ty5,ty9,XgU,Xax,Xc0]
theorem Y4:B3 Tryz.prog Ze:=B3.of (by kernel_rfl)
theorem XbL:Setup Tryz.prog Ze:=⟨Y4,mixed⟩
def Do(l:List Ag)(s:ByteArray):List Ag×Bool:=
 if(Be s).2.2.2=false∨Bl (Be s).1=false∨(s.data.toList.head?≠some 43∧Dg l (Be s).1=false)then([],false)
 else if s.data.toList.head?=some 43 then(Ci l ⟨(Be s).1,(Be s).2.2.1⟩,true)
 else if s.data.toList.head?=some 62 then(Ci (Ck l (Be s).1) ⟨(Be s).2.1,B6 l (Be s).1⟩,true)
 else(Ck l (Be s).1,true)
def B0:List Ag→List ByteArray→List Ag×Bool
 |now,[]=>(now,true)
 |now,s::ss=>if(Do now s).2=false then([],false)else B0 (Do now s).1 ss
def Cf(old:List Ag)(steps:List ByteArray)(n:Int):List Ag×Bool:=B0 old (steps.take (E4 n 0 steps.length).toNat)
theorem Z1{s a b:ByteArray}{c:Int}{d:Bool}(e:Be s=(a,b,c,d)):(a.size≤s.size∧b.size≤s.size)∧(d=true→2≤s.size∧(s.data.toList.head?=some 43∨s.data.toList.head?=some 45∨s.data.toList.head?=some 62)):=by
 have hz:(s.extract 1 s.size).size≤s.size:=by rw[ByteArray.size_extract];omega
 obtain⟨x,y,z,hc⟩:∃x y z,Lm (s.extract 1 s.size)=(x,y,z):=⟨_,_,_,rfl⟩
 have hcb:=XgY hc
 have h0:(tx []).size≤s.size:=by rw[Bo];exact Nat.zero_le _
 unfold Be at e
 rw[hc]at e
 by_cases h1:s.size<2∨(s.data.toList.head?≠some 43∧s.data.toList.head?≠some 45∧s.data.toList.head?≠some 62)
 ·rw[if_pos h1]at e
  simp only[Prod.mk.injEq]at e
  obtain⟨rfl,rfl,rfl,rfl⟩:=e
  exact⟨⟨h0,h0⟩,fun h=>by cases h⟩
 ·rw[if_neg h1]at e
  have hd:2≤s.size∧(s.data.toList.head?=some 43∨s.data.toList.head?=some 45∨s.data.toList.head?=some 62):=by
   refine⟨by omega,?_⟩
   by_cases k1:s.data.toList.head?=some 43
   ·exact .inl k1
   ·by_cases k2:s.data.toList.head?=some 45
    ·exact .inr (.inl k2)
    ·by_cases k3:s.data.toList.head?=some 62
     ·exact .inr (.inr k3)
     ·exact absurd (.inr ⟨k1,k2,k3⟩) h1
  refine⟨?_,fun _=>hd⟩
  split at e
  ·simp only[Prod.mk.injEq]at e
   obtain⟨rfl,rfl,_⟩:=e
   exact⟨hz,h0⟩
  ·split at e
   ·simp only[Prod.mk.injEq]at e
    obtain⟨rfl,rfl,_⟩:=e
    exact⟨h0,h0⟩
   ·split at e
    ·simp only[Prod.mk.injEq]at e
     obtain⟨rfl,rfl,_⟩:=e
     exact⟨by omega,by omega⟩
    ·simp only[Prod.mk.injEq]at e
     obtain⟨rfl,rfl,_⟩:=e
     exact⟨by omega,h0⟩
theorem Ys(e:Ag):∀(l:List Ag) (b:Bool),(Ou e l b).length≤l.length+(if b=true then 0 else 1)
 |[],b=>by cases b<;>simp[Ou]
 |x::l,b=>by
  have ih:=Ys e l (b|| !(ltB x.name_ e.name_))
  unfold Ou
  rw[List.length_append,List.length_append,List.length_cons]
  cases b<;>cases h:ltB x.name_ e.name_<;>simp only[h,Bool.not_true,Bool.not_false,Bool.or_true,Bool.or_false,Bool.true_or,if_true,Bool.false_eq_true,if_false,true_and,false_and,reduceCtorEq]at ih⊢<;>split<;>simp<;>omega
theorem C4{l o:List Ag}{e:Ag}(h:Ci l e=o):o.length≤l.length+1:=by
 rw[←h]
 exact Ys e l false
theorem Ew{l o:List Ag}{n:ByteArray}(h:Ck l n=o):o.length≤l.length:=by
 rw[←h]
 exact List.length_filter_le _ _
theorem XhV{s:ByteArray}{n:Nat}(h:0<s.size)(e:s.data.toList.head?=some (UInt8.ofNat n))(hn:n<256):(s[0]).toNat=n:=by
 rw[Q4 h]at e
 rw[Option.some.inj e,UInt8.toNat_ofNat',Nat.mod_eq_of_lt (by omega)]
section
variable {l:List Ag} {s a b:ByteArray} {c:Int} {d:Bool}
theorem Dz(e:Be s=(a,b,c,d))(h:d=false∨Bl a=false∨(s.data.toList.head?≠some 43∧Dg l a=false)):Do l s=([],false):=by
 unfold Do
 rw[e,if_pos h]
theorem Pg(e:Be s=(a,b,c,true))(hn:Bl a=true)(h:s.data.toList.head?=some 43):Do l s=(Ci l ⟨a,c⟩,true):=by
 unfold Do
 rw[e,if_neg (by rw[hn,h];simp),if_pos h]
theorem Pi(e:Be s=(a,b,c,true))(hn:Bl a=true)(hh:Dg l a=true)(h:s.data.toList.head?=some 62):Do l s=(Ci (Ck l a) ⟨b,B6 l a⟩,true):=by
 unfold Do
 rw[e,if_neg (by rw[hn,hh];simp),if_neg (by rw[h];decide),if_pos h]
theorem Ni(e:Be s=(a,b,c,true))(hn:Bl a=true)(hh:Dg l a=true)(h:s.data.toList.head?=some 45):Do l s=(Ck l a,true):=by
 unfold Do
 rw[e,if_neg (by rw[hn,hh];simp),if_neg (by rw[h];decide),if_neg (by rw[h];decide)]
end
theorem To{old:List Ag}{xold:List (List D)}{steps:List ByteArray}{xsteps:List (List D)}{n:Int}{oa:List Ag}{xoa:List (List D)}{ob:Bool}(hold:old.map Ad=xold)(hsteps:steps.map cS=xsteps)(hol:old.length≤1000000000)(hsl:steps.length≤1000000000)(hss:okS steps)(hr:Cf old steps n=(oa,ob))(hoa:oa.map Ad=xoa):Fn Tryz.prog 212 [.d (.row 2 xold),.d (.row 1 xsteps),I n] [] ⟨.tup [.d (.row 2 xoa),B ob],[],[]⟩:=by
 refine Fn.go XbL Tryz.func212 fun P hP Q hQ=>?_
 conv=>cbv
 refine .row0 hold fun da z1 c3 bq=>?_
 conv=>cbv
 refine .go hsteps fun v2 cg=>?_
 conv=>cbv
 generalize bn:E4 n 0 v2=r3
 refine .dd hP (Z4 bn) ?_
 conv=>cbv
 have hbr:0≤r3∧r3≤steps.length:=by rw[←bn];unfold E4;split<;>(try split)<;>omega
 refine .frz 2 [8] rfl rfl (by rw[←bq,List.length_map];first|omega|(simp;omega)) ?_
 refine LoopW.lp (κ:=(List (List D))×Int) XbL hP [] [1,2] (fun(aj,i9)=>[(8,.d (.row 2 aj)),(9,I i9)]) (fun(aj,i9)=>[])
  (fun(aj,i9)=>∃(u8:List Ag),u8.map Ad=aj∧0≤i9∧i9≤r3∧Cf old steps n=B0 u8 ((steps.take r3.toNat).drop i9.toNat)∧u8.length≤old.length+i9)
  (fun(aj,i9)=>(r3 - i9).toNat) (z1,0) ⟨old,bq,by omega,by omega,by unfold Cf;rw[←cg,bn];rfl,by omega⟩ ⟨rfl,rfl,trivial⟩ rfl ?_
 rintro⟨aj,i9⟩ J ⟨u8,ab,h0,h1,hio,hun⟩ hJ
 conv=>cbv
 refine .lss (fun h4=>?_) fun h4=>?_
 conv=>cbv
 refine .go i9.toNat hsteps fun bs e5 aa=>?_
 conv=>cbv
 have db:e5.size≤1000000000:=aa▸hss _ (List.getElem_mem bs)
 have hdc:(steps.take r3.toNat).drop i9.toNat=e5::(steps.take r3.toNat).drop (i9.toNat+1):=by rw[List.drop_eq_getElem_cons (by rw[List.length_take];omega),List.getElem_take,←aa]
 rw[hdc]at hio
 rcases am:Be e5 with⟨ag,bf,bg,cj⟩
 refine .dd hP (Y8 (by omega) am) ?_
 conv=>cbv
 have hlf:=Z1 am
 cases cj
 conv=>cbv
 have e:([],false)=Cf old steps n:=(by rw[hio];show _=(if(Do u8 e5).2=false then _ else _);rw[Dz am (.inl rfl)];rfl)
 rw[hr]at e
 simp only[Prod.mk.injEq]at e
 obtain⟨rfl,rfl⟩:=e
 refine hQ _ _ ?_
 exact .many (.inl rfl) rfl rfl (.ref rfl rfl (by rw[←hoa];rfl) (.d rfl rfl (.nil)))
 conv=>cbv
 obtain⟨h2z,hh0⟩:=hlf.2 rfl
 have h00:0<e5.size:=by omega
 have hh1:(e5[0]).toNat=43∨(e5[0]).toNat=45∨(e5[0]).toNat=62:=hh0.imp (fun h=>XhV h00 h (by decide)) fun h=>h.imp (fun h=>XhV h00 h (by decide)) fun h=>XhV h00 h (by decide)
 generalize az:Bl ag=r7
 refine .dd hP (Ii (by omega) az) ?_
 cases r7
 conv=>cbv
 have e:([],false)=Cf old steps n:=(by rw[hio];show _=(if(Do u8 e5).2=false then _ else _);rw[Dz am (.inr (.inl az))];rfl)
 rw[hr]at e
 simp only[Prod.mk.injEq]at e
 obtain⟨rfl,rfl⟩:=e
 refine hQ _ _ ?_
 exact .many (.inl rfl) rfl rfl (.ref rfl rfl (by rw[←hoa];rfl) (.d rfl rfl (.nil)))
 conv=>cbv
 refine .go i9.toNat hsteps fun c4 e8 ck=>?_
 conv=>cbv
 obtain rfl:e5=e8:=aa.trans ck.symm
 refine .go 0 fun hjv9 v9 bt bv9=>?_
 conv=>cbv
 refine .neq (fun h10=>?_) fun h10=>?_
 conv=>cbv
 generalize aw:Dg u8 ag=cm
 refine .dd hP (Gy ab (by omega) aw) ?_
 cases cm
 conv=>cbv
 have e:([],false)=Cf old steps n:=(by rw[hio];show _=(if(Do u8 e5).2=false then _ else _);rw[Dz am (.inr (.inr ⟨(H3 (n:=43) h00 bt (by omega) (by decide)),aw⟩))];rfl)
 rw[hr]at e
 simp only[Prod.mk.injEq]at e
 obtain⟨rfl,rfl⟩:=e
 refine hQ _ _ ?_
 exact .many (.inl rfl) rfl rfl (.ref rfl rfl (by rw[←hoa];rfl) (.d rfl rfl (.nil)))
 conv=>cbv
 refine .go i9.toNat hsteps fun cn co bu=>?_
 conv=>cbv
 obtain rfl:e5=co:=aa.trans bu.symm
 refine .go 0 fun hjv13 dc bv bv13=>?_
 conv=>cbv
 refine .eql (fun h14=>?_) fun h14=>?_
 conv=>cbv
 generalize bi:B6 u8 ag=bw
 refine .dd hP (Ga ab (by omega) bi) ?_
 conv=>cbv
 refine .go i9.toNat hsteps fun cp cq bz=>?_
 conv=>cbv
 obtain rfl:e5=cq:=aa.trans bz.symm
 refine .go 0 fun hjv17 de c5 bv17=>?_
 conv=>cbv
 refine .neq (fun h18=>?_) fun h18=>?_
 conv=>cbv
 generalize a0:Ck u8 ag=b0
 have hln19:=Ew a0
 generalize a1:b0.map Ad=b1
 refine .dd hP (N5 ab (by omega) a0 a1) ?_
 conv=>cbv
 refine .go i9.toNat hsteps fun cr ct b2=>?_
 conv=>cbv
 obtain rfl:e5=ct:=aa.trans b2.symm
 refine .go 0 fun hjv21 al ax bv21=>?_
 conv=>cbv
 refine .neq (fun h22=>?_) fun h22=>?_
 conv=>cbv
 generalize a2:Ci b0 (⟨bf,bw⟩:Ag)=cu
 have hln23:=C4 a2
 generalize bj:cu.map Ad=b3
 refine .dd hP (Ig a1 (by omega) a2 bj) ?_
 conv=>cbv
 refine .add fun b4 c6=>?_
 conv=>cbv
 exact .go [] (b3,b4) (hJ _ ⟨_,bj,by omega,by omega,by rw[hio,show b4.toNat=i9.toNat+1 by omega];show(if(Do u8 e5).2=false then _ else _)=_;rw[Pi am az aw (Hd (n:=62) h00 bv (by omega) (by decide)),a0,bi,a2];rfl,by omega⟩ mlt)
 conv=>cbv
 refine .add fun au a3=>?_
 conv=>cbv
 exact .go [] (b1,au) (hJ _ ⟨_,a1,by omega,by omega,by exfalso;omega,by exfalso;omega⟩ mlt)
 conv=>cbv
 refine .go i9.toNat hsteps fun a4 a5 an=>?_
 conv=>cbv
 obtain rfl:e5=a5:=aa.trans an.symm
 refine .go 0 fun hjv20 bh ay bv20=>?_
 conv=>cbv
 refine .neq (fun h21=>?_) fun h21=>?_
 conv=>cbv
 generalize ac:Ci u8 (⟨ag,bw⟩:Ag)=a6
 have hln22:=C4 ac
 generalize ad:a6.map Ad=ao
 refine .dd hP (Ig ab (by omega) ac ad) ?_
 conv=>cbv
 refine .add fun au a3=>?_
 conv=>cbv
 exact .go [] (ao,au) (hJ _ ⟨_,ad,by omega,by omega,by exfalso;omega,by exfalso;omega⟩ mlt)
 conv=>cbv
 refine .add fun ah ap=>?_
 conv=>cbv
 exact .go [] (aj,ah) (hJ _ ⟨_,ab,by omega,by omega,by exfalso;omega,by exfalso;omega⟩ mlt)
 conv=>cbv
 refine .go i9.toNat hsteps fun bo bp a7=>?_
 conv=>cbv
 obtain rfl:e5=bp:=aa.trans a7.symm
 refine .go 0 fun hjv16 cv b5 bv16=>?_
 conv=>cbv
 refine .neq (fun h17=>?_) fun h17=>?_
 conv=>cbv
 generalize ak:Ck u8 ag=a8
 have hln18:=Ew ak
 generalize ai:a8.map Ad=a9
 refine .dd hP (N5 ab (by omega) ak ai) ?_
 conv=>cbv
 refine .go i9.toNat hsteps fun a4 a5 an=>?_
 conv=>cbv
 obtain rfl:e5=a5:=aa.trans an.symm
 refine .go 0 fun hjv20 bh ay bv20=>?_
 conv=>cbv
 refine .neq (fun h21=>?_) fun h21=>?_
 conv=>cbv
 generalize ac:Ci a8 (⟨bf,bg⟩:Ag)=a6
 have hln22:=C4 ac
 generalize ad:a6.map Ad=ao
 refine .dd hP (Ig ai (by omega) ac ad) ?_
 conv=>cbv
 refine .add fun au a3=>?_
 conv=>cbv
 exact .go [] (ao,au) (hJ _ ⟨_,ad,by omega,by omega,by exfalso;omega,by exfalso;omega⟩ mlt)
 conv=>cbv
 refine .add fun ah ap=>?_
 conv=>cbv
 exact .go [] (a9,ah) (hJ _ ⟨_,ai,by omega,by omega,by rw[hio,show ah.toNat=i9.toNat+1 by omega];show(if(Do u8 e5).2=false then _ else _)=_;rw[Ni am az aw (Hd (n:=45) h00 ay (by omega) (by decide)),ak];rfl,by omega⟩ mlt)
 conv=>cbv
 refine .go i9.toNat hsteps fun ba bb aq=>?_
 conv=>cbv
 obtain rfl:e5=bb:=aa.trans aq.symm
 refine .go 0 fun hjv19 b6 bk bv19=>?_
 conv=>cbv
 refine .neq (fun h20=>?_) fun h20=>?_
 conv=>cbv
 generalize ae:Ci u8 (⟨ag,bg⟩:Ag)=bc
 have hln21:=C4 ae
 generalize af:bc.map Ad=ar
 refine .dd hP (Ig ab (by omega) ae af) ?_
 conv=>cbv
 refine .add fun ah ap=>?_
 conv=>cbv
 exact .go [] (ar,ah) (hJ _ ⟨_,af,by omega,by omega,by exfalso;omega,by exfalso;omega⟩ mlt)
 conv=>cbv
 refine .add fun al ax=>?_
 conv=>cbv
 exact .go [] (aj,al) (hJ _ ⟨_,ab,by omega,by omega,by exfalso;omega,by exfalso;omega⟩ mlt)
 conv=>cbv
 refine .go i9.toNat hsteps fun cw cx b7=>?_
 conv=>cbv
 obtain rfl:e5=cx:=aa.trans b7.symm
 refine .go 0 fun hjv12 df c7 bv12=>?_
 conv=>cbv
 refine .eql (fun h13=>?_) fun h13=>?_
 conv=>cbv
 generalize b8:B6 u8 ag=b9
 refine .dd hP (Ga ab (by omega) b8) ?_
 conv=>cbv
 refine .go i9.toNat hsteps fun bo bp a7=>?_
 conv=>cbv
 obtain rfl:e5=bp:=aa.trans a7.symm
 refine .go 0 fun hjv16 cv b5 bv16=>?_
 conv=>cbv
 refine .neq (fun h17=>?_) fun h17=>?_
 conv=>cbv
 generalize ak:Ck u8 ag=a8
 have hln18:=Ew ak
 generalize ai:a8.map Ad=a9
 refine .dd hP (N5 ab (by omega) ak ai) ?_
 conv=>cbv
 refine .go i9.toNat hsteps fun a4 a5 an=>?_
 conv=>cbv
 obtain rfl:e5=a5:=aa.trans an.symm
 refine .go 0 fun hjv20 bh ay bv20=>?_
 conv=>cbv
 refine .neq (fun h21=>?_) fun h21=>?_
 conv=>cbv
 generalize ac:Ci a8 (⟨bf,b9⟩:Ag)=a6
 have hln22:=C4 ac
 generalize ad:a6.map Ad=ao
 refine .dd hP (Ig ai (by omega) ac ad) ?_
 conv=>cbv
 refine .add fun au a3=>?_
 conv=>cbv
 exact .go [] (ao,au) (hJ _ ⟨_,ad,by omega,by omega,by exfalso;omega,by exfalso;omega⟩ mlt)
 conv=>cbv
 refine .add fun ah ap=>?_
 conv=>cbv
 exact .go [] (a9,ah) (hJ _ ⟨_,ai,by omega,by omega,by exfalso;omega,by exfalso;omega⟩ mlt)
 conv=>cbv
 refine .go i9.toNat hsteps fun ba bb aq=>?_
 conv=>cbv
 obtain rfl:e5=bb:=aa.trans aq.symm
 refine .go 0 fun hjv19 b6 bk bv19=>?_
 conv=>cbv
 refine .neq (fun h20=>?_) fun h20=>?_
 conv=>cbv
 generalize ae:Ci u8 (⟨ag,b9⟩:Ag)=bc
 have hln21:=C4 ae
 generalize af:bc.map Ad=ar
 refine .dd hP (Ig ab (by omega) ae af) ?_
 conv=>cbv
 refine .add fun ah ap=>?_
 conv=>cbv
 exact .go [] (ar,ah) (hJ _ ⟨_,af,by omega,by omega,by exfalso;omega,by exfalso;omega⟩ mlt)
 conv=>cbv
 refine .add fun al ax=>?_
 conv=>cbv
 exact .go [] (aj,al) (hJ _ ⟨_,ab,by omega,by omega,by exfalso;omega,by exfalso;omega⟩ mlt)
 conv=>cbv
 refine .go i9.toNat hsteps fun cy cz ca=>?_
 conv=>cbv
 obtain rfl:e5=cz:=aa.trans ca.symm
 refine .go 0 fun hjv15 dg c8 bv15=>?_
 conv=>cbv
 refine .neq (fun h16=>?_) fun h16=>?_
 conv=>cbv
 generalize bl:Ck u8 ag=cc
 have hln17:=Ew bl
 generalize bd:cc.map Ad=cd
 refine .dd hP (N5 ab (by omega) bl bd) ?_
 conv=>cbv
 refine .go i9.toNat hsteps fun ba bb aq=>?_
 conv=>cbv
 obtain rfl:e5=bb:=aa.trans aq.symm
 refine .go 0 fun hjv19 b6 bk bv19=>?_
 conv=>cbv
 refine .neq (fun h20=>?_) fun h20=>?_
 conv=>cbv
 generalize ae:Ci cc (⟨bf,bg⟩:Ag)=bc
 have hln21:=C4 ae
 generalize af:bc.map Ad=ar
 refine .dd hP (Ig bd (by omega) ae af) ?_
 conv=>cbv
 refine .add fun ah ap=>?_
 conv=>cbv
 exact .go [] (ar,ah) (hJ _ ⟨_,af,by omega,by omega,by exfalso;omega,by exfalso;omega⟩ mlt)
 conv=>cbv
 refine .add fun al ax=>?_
 conv=>cbv
 exact .go [] (cd,al) (hJ _ ⟨_,bd,by omega,by omega,by exfalso;omega,by exfalso;omega⟩ mlt)
 conv=>cbv
 refine .go i9.toNat hsteps fun c0 c1 ce=>?_
 conv=>cbv
 obtain rfl:e5=c1:=aa.trans ce.symm
 refine .go 0 fun hjv18 dh c9 bv18=>?_
 conv=>cbv
 refine .neq (fun h19=>?_) fun h19=>?_
 conv=>cbv
 generalize be:Ci u8 (⟨ag,bg⟩:Ag)=c2
 have hln20:=C4 be
 generalize bm:c2.map Ad=cf
 refine .dd hP (Ig ab (by omega) be bm) ?_
 conv=>cbv
 refine .add fun al ax=>?_
 conv=>cbv
 exact .go [] (cf,al) (hJ _ ⟨_,bm,by omega,by omega,by rw[hio,show al.toNat=i9.toNat+1 by omega];show(if(Do u8 e5).2=false then _ else _)=_;rw[Pg am az (Hd (n:=43) h00 bt (by omega) (by decide)),be];rfl,by omega⟩ mlt)
 conv=>cbv
 refine .add fun bh ay=>?_
 conv=>cbv
 exact .go [] (aj,bh) (hJ _ ⟨_,ab,by omega,by omega,by exfalso;omega,by exfalso;omega⟩ mlt)
 conv=>cbv
 have e:(u8,true)=Cf old steps n:=(by rw[hio,List.drop_of_length_le (by rw[List.length_take];omega)];rfl)
 rw[hr]at e
 simp only[Prod.mk.injEq]at e
 obtain⟨rfl,rfl⟩:=e
 refine hQ _ _ ?_
 exact .many (.inl rfl) rfl rfl (.d rfl (Aw ab hoa) (.d rfl rfl (.nil)))
end
section
open Go Go.Proofs
set_option maxRecDepth 20000
set_option maxHeartbeats 4000000
def Th:List (Nat×TyRow):=[ty3,ty9,Xg4,XgU,Xax,Xbj,XcB]
theorem X4:B3 Tryz.prog Th:=B3.of (by kernel_rfl)
theorem Xgc:Setup Tryz.prog Th:=⟨X4,mixed⟩
theorem Z0(a:List UInt8):Op.bytesLess a a=false:=by
 cases h:Op.bytesLess a a with
 |false=>rfl
 |true=>have:=Kj a a h;rw[h]at this;cases this
theorem Tj:∀a b c:List UInt8,Op.bytesLess a b=true→Op.bytesLess b c=true→Op.bytesLess a c=true
 |_,[],_,h,_=>by simp[Op.bytesLess]at h
 |_,_::_,[],_,h=>by simp[Op.bytesLess]at h
 |[],_::_,_::_,_,_=>by simp[Op.bytesLess]
 |a::x,b::y,c::z,h1,h2=>by
  simp only[Op.bytesLess,Bool.or_eq_true,decide_eq_true_eq,Bool.and_eq_true,beq_iff_eq]at h1 h2⊢
  rcases h1 with h1|⟨rfl,h1⟩
  ·rcases h2 with h2|⟨rfl,h2⟩
   ·exact .inl (UInt8.lt_trans h1 h2)
   ·exact .inl h1
  ·rcases h2 with h2|⟨rfl,h2⟩
   ·exact .inl h2
   ·exact .inr ⟨rfl,Tj x y z h1 h2⟩
theorem U0(a:ByteArray):ltB a a=false:=Z0 _
theorem Z3{a b c:ByteArray}(h:ltB a b=true)(k:ltB b c=true):ltB a c=true:=Tj _ _ _ h k
theorem Xds{a b:ByteArray}(h:ltB a b=true):a≠b:=by
 rintro rfl
 rw[U0]at h
 cases h
theorem XhB{a b:ByteArray}(h:ltB a b=false)(hn:a≠b):ltB b a=true:=by
 have:=Xal a b
 rw[h]at this
 simp only[Bool.not_false,Bool.true_eq,Bool.or_eq_true,decide_eq_true_eq]at this
 exact this.resolve_right fun e=>hn e.symm
def srt(l:List Ag):Prop:=l.Pairwise fun a b=>ltB a.name_ b.name_=true
theorem Yf{α:Type}{p:α→Bool}{x:α}{l:List α}:Z8 p (x::l)=if p x=true then 0 else if Z8 p l<0 then -1 else Z8 p l+1:=by
 unfold Z8
 rw[List.findIdx_cons]
 cases hp:p x with
 |true=>simp
 |false=>
  simp only[List.length_cons,cond_false,Bool.false_eq_true,if_false]
  by_cases h:l.findIdx p<l.length
  ·rw[if_pos (show l.findIdx p+1<l.length+1 by omega),if_pos h,if_neg (show¬(l.findIdx p:Int)<0 by omega)]
   omega
  ·rw[if_neg (show¬l.findIdx p+1<l.length+1 by omega),if_neg h,if_pos (by decide)]
theorem Me{x:Ag}{l:List Ag}{n:ByteArray}:A1 (x::l) n=if x.name_=n then 0 else if A1 l n<0 then -1 else A1 l n+1:=by
 show Z8 (fun e=>Bv e n) (x::l)=_
 rw[Yf]
 unfold Bv
 simp only[decide_eq_true_eq]
 rfl
theorem Wd{l:List Ag}{n:ByteArray}: -1≤A1 l n:=(M7 rfl).1
theorem Xgt{l:List Ag}{n:ByteArray}(h:∀x∈l,x.name_≠n):A1 l n<0:=by
 have hb:=Wd (l:=l) (n:=n)
 rcases Int.lt_or_le (A1 l n) 0 with k|k
 ·exact k
 ·obtain⟨hi,hp⟩:=Xcl (p:=fun e=>Bv e n) (rfl:A1 l n=_) k
  unfold Bv at hp
  rw[decide_eq_true_eq]at hp
  exact absurd hp (h _ (List.getElem_mem hi))
theorem V2{l:List Ag}{n:ByteArray}{i k:Int}(h:A1 l n=k)(hk:0≤k):Xad l n i=l.set k.toNat ⟨(l.getD k.toNat ⟨tx [],0⟩).name_,i⟩:=by
 subst h
 exact if_pos hk
theorem Oc{l:List Ag}{n:ByteArray}{i k:Int}(h:A1 l n<0)(hk:C6 l n=k):Xad l n i=Nr l (if k<0 then l.length else k) [⟨n,i⟩]:=by
 subst hk
 exact if_neg (by omega)
theorem XeZ{x:Ag}{l:List Ag}{n:ByteArray}{i:Int}:Xad (x::l) n i=if x.name_=n then⟨n,i⟩::l else if A1 l n<0∧Rh x n=true then⟨n,i⟩::x::l else x::Xad l n i:=by
 have hb:=Wd (l:=l) (n:=n)
 by_cases hx:x.name_=n
 ·rw[if_pos hx,V2 (k:=0) (by rw[Me,if_pos hx]) (by decide)]
  simp[hx]
 ·rw[if_neg hx]
  by_cases hp:A1 l n<0
  ·have hpc:A1 (x::l) n<0:=by rw[Me,if_neg hx,if_pos hp];decide
   have hc:C6 (x::l) n=if Rh x n=true then 0 else if C6 l n<0 then -1 else C6 l n+1:=Yf (p:=fun e=>Rh e n)
   by_cases h1:Rh x n=true
   ·rw[if_pos ⟨hp,h1⟩,Oc hpc (k:=0) (by rw[hc,if_pos h1]),if_neg (by decide)]
    simp[Nr]
   ·rw[if_neg (fun h=>h1 h.2)]
    by_cases h2:C6 l n<0
    ·rw[Oc hpc (k:=-1) (by rw[hc,if_neg h1,if_pos h2]),if_pos (by decide),Oc hp rfl,if_pos h2]
     simp[Nr]
    ·rw[Oc hpc (by rw[hc,if_neg h1,if_neg h2]),if_neg (by omega),Oc hp rfl,if_neg h2]
     unfold Nr
     rw[show(C6 l n+1).toNat=(C6 l n).toNat+1 by omega]
     simp
  ·rw[if_neg (fun h=>hp h.1),V2 (k:=A1 l n+1) (by rw[Me,if_neg hx,if_neg hp]) (by omega),V2 (l:=l) rfl (by omega),show(A1 l n+1).toNat=(A1 l n).toNat+1 by omega]
   simp
theorem Ph{e:Ag}:∀{l:List Ag},(∀x∈l,x.name_≠e.name_)→Ou e l true=l
 |[],_=>rfl
 |x::l,h=>by
  unfold Ou
  rw[if_neg (by simp),if_neg (h x List.mem_cons_self),Bool.true_or,Ph fun y hy=>h y (List.mem_cons_of_mem _ hy)]
  rfl
theorem Yn{n:ByteArray}{i:Int}:∀{l:List Ag},srt l→Ci l ⟨n,i⟩=Xad l n i
 |[],_=>rfl
 |x::l,h=>by
  have hs:=List.pairwise_cons.1 h
  have ih:=Yn (n:=n) (i:=i) hs.2
  unfold Ci at ih⊢
  rw[XeZ]
  unfold Ou
  by_cases hx:x.name_=n
  ·rw[if_pos hx,hx,U0,if_pos ⟨rfl,rfl⟩,if_pos rfl,Bool.not_false,Bool.or_true,Ph (fun y hy e=>by
    have:=hs.1 y hy
    rw[hx]at this
    exact Xds this e.symm)]
   rfl
  ·rw[if_neg hx,if_neg hx]
   cases hl:ltB x.name_ n with
   |true=>
    rw[if_neg (by simp),if_neg (by unfold Rh;rw[hl];simp),Bool.not_true,Bool.or_false,ih]
    rfl
   |false=>
    have hg:=XhB hl hx
    have hne:∀y∈l,y.name_≠n:=fun y hy e=>Xds (Z3 hg (hs.1 y hy)) e.symm
    rw[if_pos ⟨rfl,rfl⟩,if_pos ⟨Xgt hne,by unfold Rh;rw[hl,decide_eq_false hx];rfl⟩,Bool.not_false,Bool.or_true,Ph hne]
    rfl
theorem Sw{n:ByteArray}:∀{l:List Ag},srt l→0≤A1 l n→Ck l n=l.eraseIdx (A1 l n).toNat
 |[],_,h=>by
  exfalso
  have:A1 [] n= -1:=rfl
  omega
 |x::l,h,hp=>by
  have hs:=List.pairwise_cons.1 h
  have hb:=Wd (l:=l) (n:=n)
  rw[Me]at hp⊢
  unfold Ck
  rw[List.filter_cons]
  by_cases hx:x.name_=n
  ·rw[if_pos hx,decide_eq_true hx]
   have:l.filter (fun x=>!decide (x.name_=n))=l:=by
    rw[List.filter_eq_self]
    intro y hy
    rw[decide_eq_false]
    ·rfl
    ·rintro rfl
     exact Xds (hs.1 y hy) hx
   simp[this]
  ·rw[if_neg hx]at hp⊢
   rw[decide_eq_false hx]
   by_cases h2:A1 l n<0
   ·rw[if_pos h2]at hp;omega
   ·rw[if_neg h2,show(A1 l n+1).toNat=(A1 l n).toNat+1 by omega,List.eraseIdx_cons_succ,←Sw hs.2 (by omega)]
    rfl
theorem XeV{d:Aa}{l:List Ag}(h:Bs d l=true){i:Nat}(hi:i<l.length):H4 d l i=true:=by
 unfold Bs at h
 rw[Bool.and_eq_true]at h
 exact List.all_eq_true.1 h.1 i (List.mem_range.2 hi)
theorem Xe3{d:Aa}{l:List Ag}(h:Bs d l=true){i:Nat}(hi:i+1<l.length):ltB l[i].name_ l[i+1].name_=true:=by
 have h1:=XeV h hi
 unfold H4 at h1
 rw[Xef hi rfl,show i+1 - 1=i by omega,Xef (show i<l.length by omega) rfl,decide_eq_false (show¬i+1=0 by omega),Bool.false_or,←Xal]at h1
 simp only[Bool.not_not,Bool.and_eq_true]at h1
 exact h1.1.1
theorem Xep{d:Aa}{l:List Ag}(h:Bs d l=true):srt l:=by
 have key:∀(k i:Nat) (hk:i+1+k<l.length),ltB l[i].name_ l[i+1+k].name_=true:=by
  intro k
  induction k with
  |zero=>intro i hk;exact Xe3 h hk
  |succ k ih=>intro i hk;exact Z3 (ih i (by omega)) (Xe3 h (i:=i+1+k) (by omega))
 refine List.pairwise_iff_getElem.2 fun i j hi hj hij=>?_
 have:=key (j - i - 1) i (by omega)
 simpa only[show i+1+(j - i - 1)=j by omega]using this
theorem Xcd{l:List Ag}{n:ByteArray}(h:srt l):srt (Ck l n):=List.Pairwise.filter _ h
theorem R9{l:List Ag}{s:ByteArray}(h:srt l):Do l s=Bb l s:=by
 by_cases hne:s=tx []
 ·subst hne
  rw[Xgv rfl]
  exact Dz (a:=tx []) (b:=tx []) (c:=0) (d:=false) rfl (.inl rfl)
 have hp:=XbD hne
 have hhd:=Q4 hp
 obtain⟨a,b,c,hc⟩:∃a b c,Lm (s.extract 1 s.size)=(a,b,c):=⟨_,_,_,rfl⟩
 have hlt2:c=true→2≤s.size:=by
  rintro rfl
  unfold Lm at hc
  split at hc
  ·rename_i h0
   have:=(XcI (rfl:Ke (s.extract 1 s.size)=_)).2
   rw[ByteArray.size_extract]at this
   omega
  ·simp at hc
 by_cases h43:s.data.toList.head?=some 43
 ·rw[Zq hne h43 hc]
  cases c with
  |false=>
   rw[if_pos (.inl rfl)]
   by_cases aa:s.size<2
   ·exact Dz (Vf (.inl aa)).symm (.inl rfl)
   ·exact Dz (W2 (by omega) (.inl h43) (by rw[h43];decide) (by rw[hc])).symm (.inl rfl)
  |true=>
   have hm:=Q2 (hlt2 rfl) h43 hc
   cases hr:(Bd b).2 with
   |false=>rw[if_pos (.inr (.inl rfl))];exact Dz hm (.inl (by rw[hr];rfl))
   |true=>
    cases hn:Bl a with
    |false=>rw[if_pos (.inr (.inr rfl))];exact Dz hm (.inr (.inl hn))
    |true=>
     rw[if_neg (by simp)]
     rw[hr,hn]at hm
     rw[Pg hm hn h43,Yn h]
 ·by_cases h45:s.data.toList.head?=some 45
  ·rw[U1 hne h45]
   by_cases aa:s.size<2
   ·have e:s.extract 1 s.size=tx []:=by
     apply Kw
     rw[C8,List.drop_of_length_le (by rw[List.length_take,Array.length_toList];show min _ s.size≤1;omega)]
     rfl
    rw[Dz (Vf (.inl aa)).symm (.inl rfl),e]
    unfold Ie
    rw[if_pos (.inr (by decide))]
   ·have hm:=(Yg (by omega) h45).symm
    unfold Ie
    by_cases hpl:A1 l (s.extract 1 s.size)<0
    ·rw[if_pos (.inl hpl)]
     exact Dz hm (.inr (.inr ⟨h43,by unfold Dg;rw[decide_eq_false_iff_not];omega⟩))
    ·cases hn:Bl (s.extract 1 s.size)with
     |false=>rw[if_pos (.inr rfl)];exact Dz hm (.inr (.inl hn))
     |true=>
      rw[if_neg (by rintro(k|k);exact hpl k;cases k),Ni hm hn (by unfold Dg;rw[decide_eq_true_eq];omega) h45,Sw h (by omega)]
      rfl
  ·by_cases h62:s.data.toList.head?=some 62
   ·rw[Zb hne h62 hc]
    cases c with
    |false=>
     rw[if_pos (.inl rfl)]
     by_cases aa:s.size<2
     ·exact Dz (Vf (.inl aa)).symm (.inl rfl)
     ·exact Dz (W2 (by omega) (.inr (.inr h62)) h45 (by rw[hc])).symm (.inl rfl)
    |true=>
     have hm:=Rd (hlt2 rfl) h62 hc
     cases hnb:Bl b with
     |false=>rw[if_pos (.inr (.inr (.inl rfl)))];exact Dz hm (.inl (by rw[hnb];rfl))
     |true=>
      by_cases hab:a=b
      ·rw[if_pos (.inr (.inr (.inr hab)))];exact Dz hm (.inl (by rw[hnb,decide_eq_true hab];rfl))
      ·rw[hnb,decide_eq_false hab]at hm
       by_cases hpl:A1 l a<0
       ·have hd:Ie l a=([],false):=by unfold Ie;rw[if_pos (.inl hpl)]
        rw[hd,if_pos (.inr (.inl rfl))]
        exact Dz hm (.inr (.inr ⟨h43,by unfold Dg;rw[decide_eq_false_iff_not];omega⟩))
       ·cases hn:Bl a with
        |false=>
         have hd:Ie l a=([],false):=by unfold Ie;rw[if_pos (.inr hn)]
         rw[hd,if_pos (.inr (.inl rfl))]
         exact Dz hm (.inr (.inl hn))
        |true=>
         have hd:Ie l a=(Ck l a,true):=by unfold Ie;rw[if_neg (by rw[hn];rintro(k|k);exact hpl k;cases k),Sw h (by omega)];rfl
         rw[hd,if_neg (by simp;exact hab),Pi hm hn (by unfold Dg;rw[decide_eq_true_eq];omega) h62,Yn (Xcd h)]
   ·rw[XdM hne hhd (fun e=>h43 (by rw[hhd,e])) (fun e=>h45 (by rw[hhd,e])) (fun e=>h62 (by rw[hhd,e]))]
    exact Dz (Vf (.inr ⟨h43,h45,h62⟩)).symm (.inl rfl)
def Xi(d:Aa)(k:Nat):Bool:=if(B0 d.old_ (d.steps_.take k)).2=true then Gt d (B0 d.old_ (d.steps_.take k)).1 (d.steps_.drop k)else false
theorem Xck{s:ByteArray}:∀(l:List ByteArray) (now:List Ag),B0 now (l++[s])=if(B0 now l).2=true then(if(Do (B0 now l).1 s).2=false then([],false)else Do (B0 now l).1 s)else([],false)
 |[],now=>by
  show(if(Do now s).2=false then _ else B0 (Do now s).1 [])=if true=true then _ else _
  rw[if_pos rfl]
  cases h:Do now s with
  |mk x b=>cases b<;>simp[B0,h]
 |y::l,now=>by
  show(if(Do now y).2=false then _ else B0 (Do now y).1 (l++[s]))=if(if(Do now y).2=false then _ else B0 (Do now y).1 l).2=true then _ else _
  by_cases h:(Do now y).2=false
  ·rw[if_pos h,if_pos h,if_neg (by decide)]
  ·rw[if_neg h,if_neg h,Xck l]
   have e:B0 now (y::l)=B0 (Do now y).1 l:=if_neg h
   rw[e]
theorem Xci{d:Aa}{k:Nat}{x:List Ag}(hk:k<d.steps_.length)(h:B0 d.old_ (d.steps_.take k)=(x,true))(hr:Bs d x=true):B0 d.old_ (d.steps_.take (k+1))=if(Bb x d.steps_[k]).2=false then([],false)else Bb x d.steps_[k]:=by
 rw[List.take_succ_eq_append_getElem hk,Xck,h,if_pos rfl,R9 (Xep hr)]
theorem Xc3{d:Aa}{k:Nat}{x:List Ag}(hk:k<d.steps_.length)(h:B0 d.old_ (d.steps_.take k)=(x,true))(hr:Bs d x=true):Xi d (k+1)=Xi d k:=by
 obtain⟨y,b,hy⟩:∃y b,Bb x d.steps_[k]=(y,b):=⟨_,_,rfl⟩
 unfold Xi
 rw[Xci hk h hr,h,if_pos (show(x,true).2=true from rfl),List.drop_eq_getElem_cons hk]
 show _=(Bs d x&&(Bb x d.steps_[k]).2&&Gt d (Bb x d.steps_[k]).1 _)
 rw[hr,hy]
 cases b<;>rfl
theorem R7{old:List Ag}{steps:List ByteArray}{k:Int}(h0:0≤k)(h1:k≤steps.length):Cf old steps k=B0 old (steps.take k.toNat):=by
 unfold Cf
 rw[show E4 k 0 steps.length=k from by unfold E4;split<;>(try split)<;>(try split)<;>omega]
def XfR(d:Aa)(k:Nat):Prop:=Gt d d.old_ d.steps_=Xi d k∧okL (B0 d.old_ (d.steps_.take k)).1∧(B0 d.old_ (d.steps_.take k)).1.length≤1000000000
theorem Xdc{d:Aa}(hd:Hz d):XfR d 0:=⟨rfl,hd.2.1,hd.1.2.2.2.2.1⟩
theorem XcG{d:Aa}(hd:Hz d){k:Nat}{x:List Ag}(hq:XfR d k)(hk:k<d.steps_.length)(h:B0 d.old_ (d.steps_.take k)=(x,true))(hr:Bs d x=true):XfR d (k+1):=by
 obtain⟨h1,h2,h3⟩:=hq
 have hx:=Xbz hr
 rw[h]at h2 h3
 refine⟨by rw[h1,Xc3 hk h hr],?_⟩
 rw[Xci hk h hr]
 obtain⟨y,b,hy⟩:∃y b,Bb x d.steps_[k]=(y,b):=⟨_,_,rfl⟩
 have hl:=Te hy
 have ho:=Xbu h2 (hd.2.2 _ (List.getElem_mem hk)) hy
 rw[hy]
 cases b
 ·exact⟨fun e he=>(by cases he),Nat.zero_le _⟩
 ·exact⟨ho,by show y.length≤_;omega⟩
theorem Lr:Setup Tryz.prog ((3000007,E7 Tryz.prog 3000007)::((3000001,E7 Tryz.prog 3000001)::Th)):=(Setup.mark 3000007 (Setup.mark 3000001 Xgc))
theorem Hn{Aj:List B5}{Bk:List (List D)}{An:List Ag}{Bh:List (List D)}{Ao:List Ag}{Bg:List (List D)}{Al:List ByteArray}{Bi:List (List D)}{As:Int}{Aq:Int}{o:Bool}(Av:Aj.map A5=Bk)(At:An.map Ad=Bh)(Ax:Ao.map Ad=Bg)(Ay:Al.map cS=Bi)(ac:Hz ⟨Aj,An,Ao,Al,As,Aq⟩)(hr:Bp (⟨Aj,An,Ao,Al,As,Aq⟩:Aa)=o):Fn Tryz.prog 211 [.agg [.d (.row 3 Bk),.d (.row 2 Bh),.d (.row 2 Bg),.d (.row 1 Bi),I As,I Aq]] [] ⟨B o,[],[]⟩:=by
 refine Fn.go Lr Tryz.func211 fun P hP Q hQ=>?_
 conv=>cbv
 refine .go Av fun v1 bg=>?_
 conv=>cbv
 have hdo:Ao.length≤1000000000:=ac.1.2.2.2.2.1
 have hds:Al.length≤1000000000:=ac.1.2.2.2.2.2
 refine .gtr (fun h2=>?_) fun h2=>?_
 conv=>cbv
 refine .go2 (by kernel_rfl) ?_
 conv=>cbv
 have e:false=Bp (⟨Aj,An,Ao,Al,As,Aq⟩:Aa):=(by exact Fl fun h=>by rw[diskOk_iff]at h;have:=h.2.2.1;unfold Iz at this;rw[decide_eq_false (by simp only[];omega),Bool.and_false]at this;cases this)
 rw[hr]at e
 subst e
 exact hQ _ _ (.b rfl rfl)
 conv=>cbv
 generalize af:A4 As 0 1000000000=r3
 refine .dd hP (Dj af) ?_
 cases r3
 simp only[A4,decide_eq_true_eq,decide_eq_false_iff_not]at af
 conv=>cbv
 refine .go2 (by kernel_rfl) ?_
 conv=>cbv
 have e:false=Bp (⟨Aj,An,Ao,Al,As,Aq⟩:Aa):=(by exact Fl fun h=>by rw[diskOk_iff]at h;exact af h.1)
 rw[hr]at e
 subst e
 exact hQ _ _ (.b rfl rfl)
 simp only[A4,decide_eq_true_eq,decide_eq_false_iff_not]at af
 conv=>cbv
 generalize ag:A4 Aq 1 1000000000=r4
 refine .dd hP (Dj ag) ?_
 cases r4
 simp only[A4,decide_eq_true_eq,decide_eq_false_iff_not]at ag
 conv=>cbv
 refine .go2 (by kernel_rfl) ?_
 conv=>cbv
 have e:false=Bp (⟨Aj,An,Ao,Al,As,Aq⟩:Aa):=(by exact Fl fun h=>by rw[diskOk_iff]at h;exact ag h.2.1)
 rw[hr]at e
 subst e
 exact hQ _ _ (.b rfl rfl)
 simp only[A4,decide_eq_true_eq,decide_eq_false_iff_not]at ag
 conv=>cbv
 generalize aq:Gf (⟨Aj,An,Ao,Al,As,Aq⟩:Aa)=r5
 refine .dd hP (Wy Av At Ax Ay ac.1 aq) ?_
 conv=>cbv
 refine .gtr (fun h6=>?_) fun h6=>?_
 conv=>cbv
 refine .go2 (by kernel_rfl) ?_
 conv=>cbv
 have e:false=Bp (⟨Aj,An,Ao,Al,As,Aq⟩:Aa):=(by exact Fl fun h=>by rw[diskOk_iff]at h;have:=h.2.2.2.1;rw[aq]at this;simp only[]at this;omega)
 rw[hr]at e
 subst e
 exact hQ _ _ (.b rfl rfl)
 conv=>cbv
 refine .go2 (by kernel_rfl) ?_
 conv=>cbv
 refine LoopW.lp (κ:=Int) Lr hP [] [1] (fun i3=>[(3,I i3)]) (fun i3=>[])
  (fun i3=>0≤i3∧i3≤Aj.length∧∀j:Nat,j<i3.toNat→Ht (⟨Aj,An,Ao,Al,As,Aq⟩:Aa) j=true)
  (fun i3=>(Aj.length - i3).toNat) (0) ⟨by omega,by omega,fun j h=>by simp at h⟩ ⟨rfl,trivial⟩ rfl ?_
 rintro i3 J ⟨h0,h1,hb⟩ hJ
 have bh:Aj.length≤1000000000:=ac.1.1
 conv=>cbv
 refine .go Av fun v7 bi=>?_
 conv=>cbv
 refine .lss (fun h8=>?_) fun h8=>?_
 conv=>cbv
 refine .go i3.toNat Av fun ad ⟨aw,a3,ah⟩ a4=>?_
 conv=>cbv
 refine .sub fun a5 be=>?_
 conv=>cbv
 have hnd:=Xh2 (d:=(⟨Aj,An,Ao,Al,As,Aq⟩:Aa)) ad a4
 generalize ab:A4 aw 1 a5=a6
 refine .dd hP (Dj ab) ?_
 cases a6
 simp only[A4,decide_eq_true_eq,decide_eq_false_iff_not]at ab
 conv=>cbv
 refine .go2 (by kernel_rfl) ?_
 conv=>cbv
 have e:false=Bp (⟨Aj,An,Ao,Al,As,Aq⟩:Aa):=(by exact Fl fun h=>by rw[diskOk_iff]at h;have h3:=h.2.2.1;rw[←Q9 (d:=(⟨Aj,An,Ao,Al,As,Aq⟩:Aa)) ad (by unfold Ht;rw[decide_eq_false_iff_not,hnd];simp only[];omega)]at h3;cases h3)
 rw[hr]at e
 subst e
 exact hQ _ _ (.b rfl rfl)
 simp only[A4,decide_eq_true_eq,decide_eq_false_iff_not]at ab
 conv=>cbv
 refine .gtr (fun h12=>?_) fun h12=>?_
 conv=>cbv
 refine .sub fun ai ao=>?_
 conv=>cbv
 refine .go ai.toNat Av fun ar ⟨a7,a1,a2⟩ ax=>?_
 conv=>cbv
 have hpd:=Xh2 (d:=(⟨Aj,An,Ao,Al,As,Aq⟩:Aa)) ar ax
 rw[show ai.toNat=i3.toNat - 1 by omega]at hpd
 refine .geq (fun h15=>?_) fun h15=>?_
 conv=>cbv
 refine .go2 (by kernel_rfl) ?_
 conv=>cbv
 have e:false=Bp (⟨Aj,An,Ao,Al,As,Aq⟩:Aa):=(by exact Fl fun h=>by rw[diskOk_iff]at h;have h3:=h.2.2.1;rw[←Q9 (d:=(⟨Aj,An,Ao,Al,As,Aq⟩:Aa)) ad (by unfold Ht;rw[decide_eq_false_iff_not,hnd];simp only[];rw[hpd];simp only[];omega)]at h3;cases h3)
 rw[hr]at e
 subst e
 exact hQ _ _ (.b rfl rfl)
 conv=>cbv
 refine .go fun au ay=>?_
 conv=>cbv
 generalize aj:A4 ah 0 au=a8
 refine .dd hP (Dj aj) ?_
 cases a8
 simp only[A4,decide_eq_true_eq,decide_eq_false_iff_not]at aj
 conv=>cbv
 refine .go2 (by kernel_rfl) ?_
 conv=>cbv
 have e:false=Bp (⟨Aj,An,Ao,Al,As,Aq⟩:Aa):=(by exact Fl fun h=>by rw[diskOk_iff]at h;have h3:=h.2.2.1;rw[←Q9 (d:=(⟨Aj,An,Ao,Al,As,Aq⟩:Aa)) ad (by unfold Ht;rw[decide_eq_false_iff_not,hnd];simp only[];omega)]at h3;cases h3)
 rw[hr]at e
 subst e
 exact hQ _ _ (.b rfl rfl)
 simp only[A4,decide_eq_true_eq,decide_eq_false_iff_not]at aj
 conv=>cbv
 refine .go2 (by kernel_rfl) ?_
 conv=>cbv
 refine .add fun a9 bf=>?_
 conv=>cbv
 exact .go [] (a9) (hJ _ ⟨by omega,by omega,fun j h=>if e:j=i3.toNat then by subst e;unfold Ht;rw[decide_eq_true_eq,hnd,hpd];simp only[];omega else hb j (by omega)⟩ mlt)
 conv=>cbv
 refine .go fun ai ao=>?_
 conv=>cbv
 generalize ak:A4 ah 0 ai=ba
 refine .dd hP (Dj ak) ?_
 cases ba
 simp only[A4,decide_eq_true_eq,decide_eq_false_iff_not]at ak
 conv=>cbv
 refine .go2 (by kernel_rfl) ?_
 conv=>cbv
 have e:false=Bp (⟨Aj,An,Ao,Al,As,Aq⟩:Aa):=(by exact Fl fun h=>by rw[diskOk_iff]at h;have h3:=h.2.2.1;rw[←Q9 (d:=(⟨Aj,An,Ao,Al,As,Aq⟩:Aa)) ad (by unfold Ht;rw[decide_eq_false_iff_not,hnd];simp only[];omega)]at h3;cases h3)
 rw[hr]at e
 subst e
 exact hQ _ _ (.b rfl rfl)
 simp only[A4,decide_eq_true_eq,decide_eq_false_iff_not]at ak
 conv=>cbv
 refine .go2 (by kernel_rfl) ?_
 conv=>cbv
 refine .add fun an az=>?_
 conv=>cbv
 exact .go [] (an) (hJ _ ⟨by omega,by omega,fun j h=>if e:j=i3.toNat then by subst e;unfold Ht;rw[decide_eq_true_eq,hnd];simp only[];omega else hb j (by omega)⟩ mlt)
 conv=>cbv
 refine LoopW.lp (κ:=Int) Lr hP [] [1] (fun i5=>[(5,I i5)]) (fun i5=>[])
  (fun i5=>0≤i5∧i5≤Al.length+1∧(i5≤Al.length→XfR (⟨Aj,An,Ao,Al,As,Aq⟩:Aa) i5.toNat)∧(i5=Al.length+1→Gt (⟨Aj,An,Ao,Al,As,Aq⟩:Aa) Ao Al=true))
  (fun i5=>(Al.length+1 - i5).toNat) (0) ⟨by omega,by omega,fun _=>Xdc ac,fun h=>by omega⟩ ⟨rfl,trivial⟩ rfl ?_
 rintro i5 J1 ⟨k0,k1,hQk,hQe⟩ a0
 conv=>cbv
 refine .go Ay fun v9 bj=>?_
 conv=>cbv
 refine .leq (fun h10=>?_) fun h10=>?_
 conv=>cbv
 have hq:=hQk (by omega)
 have hS0:=R7 (old:=Ao) (steps:=Al) (k:=i5) (by omega) (by omega)
 rcases ab:Cf Ao Al i5 with⟨aa,ap⟩
 generalize ae:aa.map Ad=bb
 refine .dd hP (To Ax Ay (by omega) (by omega) ac.2.2 ab ae) ?_
 conv=>cbv
 have hS:B0 Ao (Al.take i5.toNat)=(aa,ap):=hS0.symm.trans ab
 have hul:okL aa:=by have:=hq.2.1;simp only[]at this;rw[hS]at this;exact this
 have hun:aa.length≤1000000000:=by have:=hq.2.2;simp only[]at this;rw[hS]at this;exact this
 cases ap
 conv=>cbv
 have e:false=Bp (⟨Aj,An,Ao,Al,As,Aq⟩:Aa):=(by exact Fl fun h=>by rw[diskOk_iff]at h;have hk:=h.2.2.2.2;simp only[]at hk;rw[hq.1]at hk;unfold Xi at hk;simp only[]at hk;rw[hS]at hk;cases hk)
 rw[hr]at e
 subst e
 exact hQ _ _ (.b rfl rfl)
 conv=>cbv
 generalize al:Gh (⟨Aj,An,Ao,Al,As,Aq⟩:Aa) aa=bc
 refine .dd hP (Xu Av At Ax Ay ae ac.1 hul (by omega) al) ?_
 cases bc
 conv=>cbv
 have e:false=Bp (⟨Aj,An,Ao,Al,As,Aq⟩:Aa):=(by exact Fl fun h=>by rw[diskOk_iff]at h;have hk:=h.2.2.2.2;simp only[]at hk;rw[hq.1]at hk;unfold Xi at hk;simp only[]at hk;rw[hS]at hk;rw[if_pos rfl,Xdl (show Bs _ aa=false from al)]at hk;cases hk)
 rw[hr]at e
 subst e
 exact hQ _ _ (.b rfl rfl)
 conv=>cbv
 have hre:Bs (⟨Aj,An,Ao,Al,As,Aq⟩:Aa) aa=true:=al
 refine .go Ay fun ai ao=>?_
 conv=>cbv
 refine .eql (fun h14=>?_) fun h14=>?_
 conv=>cbv
 generalize am:Je aa An=bd
 refine .dd hP (Xd6 ae At (by omega) am) ?_
 cases bd
 conv=>cbv
 have e:false=Bp (⟨Aj,An,Ao,Al,As,Aq⟩:Aa):=(by exact Fl fun h=>by rw[diskOk_iff]at h;have hk:=h.2.2.2.2;simp only[]at hk;rw[hq.1]at hk;unfold Xi at hk;simp only[]at hk;rw[hS]at hk;rw[if_pos rfl,List.drop_of_length_le (by omega)]at hk;unfold Gt at hk;rw[show N7 aa _=false from am,Bool.and_false]at hk;cases hk)
 rw[hr]at e
 subst e
 exact hQ _ _ (.b rfl rfl)
 conv=>cbv
 refine .add fun au ay=>?_
 conv=>cbv
 exact .go [] (au) (a0 _ ⟨by omega,by omega,fun h=>by omega,fun _=>by have:=hq.1;simp only[]at this;rw[this];unfold Xi;simp only[];rw[hS,List.drop_of_length_le (by omega),if_pos rfl];show(Bs _ aa&&N7 aa An)=true;rw[hre,show N7 aa An=true from am];rfl⟩ mlt)
 conv=>cbv
 refine .add fun an az=>?_
 conv=>cbv
 exact .go [] (an) (a0 _ ⟨by omega,by omega,fun h=>by rw[show an.toNat=i5.toNat+1 by omega];exact XcG ac hq (by simp only[];omega) hS hre,fun h=>by omega⟩ mlt)
 conv=>cbv
 have e:true=Bp (⟨Aj,An,Ao,Al,As,Aq⟩:Aa):=(by symm;rw[diskOk_iff];exact⟨af,ag,(XeA (d:=(⟨Aj,An,Ao,Al,As,Aq⟩:Aa)) (fun j hj=>hb j (by simp only[]at hj;omega)) (by symm;rw[decide_eq_true_eq];simp only[];omega)).symm,by rw[aq];exact h6,hQe (by omega)⟩)
 rw[hr]at e
 subst e
 exact hQ _ _ (.b rfl rfl)
end
section
open Go Go.Proofs
set_option maxRecDepth 20000
set_option maxHeartbeats 4000000
end
section
open Go Go.Proofs
set_option maxRecDepth 20000
set_option maxHeartbeats 4000000
def Z2:List Ag→List ByteArray→Int→Bool
 |now,[],id=>now.any fun e=>decide (e.id_=id)
 |now,s::ss,id=>(now.any fun e=>decide (e.id_=id))||Z2 (Bb now s).1 ss id
def Xbs(nodes:List B5)(old:List Ag)(steps:List ByteArray):List B5:=nodes.filter fun x=>Z2 old steps x.id_
theorem XfE{l:List Ag}{k:Nat}{id:Int}(hk:k<l.length):(l.take (k+1)).any (fun e=>decide (e.id_=id))=((l.take k).any (fun e=>decide (e.id_=id))||decide (l[k].id_=id)):=by
 rw[List.take_succ_eq_append_getElem hk,List.any_append]
 simp
end
section
open Go Go.Proofs
set_option maxRecDepth 20000
set_option maxHeartbeats 4000000
theorem N9{l:List ByteArray}{s:ByteArray}(h:okS l)(hs:s.size≤1000000000):okS (l++[s]):=fun t ht=>by
 rcases List.mem_append.1 ht with ht|ht
 ·exact h t ht
 ·rw[List.mem_singleton.1 ht];exact hs
end
section
open Go Go.Proofs
set_option maxRecDepth 20000
set_option maxHeartbeats 4000000
end
section
open Go Go.Proofs
set_option maxRecDepth 20000
set_option maxHeartbeats 4000000
def K2(d:Aa)(s:ByteArray):Aa:=⟨Xbs d.nodes_ d.old_ (d.steps_++[s]),(Bb d.entries_ s).1,d.old_,d.steps_++[s],d.room_,d.next_⟩
def Ce(d:Aa)(name:ByteArray):Aa×Int:=if Bp d=false∨A1 d.entries_ name<0 then(d,3)else(K2 d (tx [45]++name),0)
end
section
open Go Go.Proofs
set_option maxRecDepth 20000
set_option maxHeartbeats 4000000
def Cu(d:Aa)(from_ to_:ByteArray):Aa×Int:=if Bp d=false∨A1 d.entries_ from_<0 then(d,3)else if Bl to_=false∨from_=to_ then(d,1)else(K2 d (tx [62]++from_++tx [58]++to_),0)
end
section
open Go Go.Proofs
set_option maxRecDepth 20000
set_option maxHeartbeats 4000000
def By(d:Aa)(name:ByteArray):Aa×Int:=if Bp d=false∨Cj d name<0 then(d,3)else
 (⟨d.nodes_.set (Cj d name).toNat ⟨(d.nodes_.getD (Cj d name).toNat ⟨0,tx [],0⟩).id_,(d.nodes_.getD (Cj d name).toNat ⟨0,tx [],0⟩).text_,((d.nodes_.getD (Cj d name).toNat ⟨0,tx [],0⟩).text_.size:Int)⟩,d.entries_,d.old_,d.steps_,d.room_,d.next_⟩,0)
end
section
open Go Go.Proofs
set_option maxRecDepth 20000
set_option maxHeartbeats 4000000
theorem Xag{α:Type}{f:α→Int}(h:∀x,0≤f x):∀{l:List α} {a:Int},a≤(l.map f).foldl (·+·) a
 |[],a=>by simp
 |x::l,a=>by
  rw[List.map_cons,List.foldl_cons]
  have:=Xag h (l:=l) (a:=a+f x)
  have:=h x
  omega
theorem XcS(d:Aa):0≤Gf d:=Xag (f:=fun n:B5=>(n.text_.size:Int)) (fun x=>by omega)
theorem Hg{d:Aa}(h:Bp d=true):0≤d.room_∧d.room_≤1000000000∧1≤d.next_∧d.next_≤1000000000∧0≤Gf d∧Gf d≤d.room_:=by
 have h1:=diskOk_iff.1 h
 exact⟨h1.1.1,h1.1.2,h1.2.1.1,h1.2.1.2,XcS d,h1.2.2.2.1⟩
def gN(d:Aa)(i:Int):B5:=d.nodes_.getD i.toNat ⟨0,tx [],0⟩
def XhW(d:Aa)(i:Int)(x:B5):Aa:=⟨d.nodes_.set i.toNat x,d.entries_,d.old_,d.steps_,d.room_,d.next_⟩
def Ai(d:Aa)(name text:ByteArray):Aa×Int:=if Bp d=false∨Cj d name<0 then(d,3)else
 (XhW d (Cj d name) ⟨(gN d (Cj d name)).id_,(gN d (Cj d name)).text_++text.extract 0 (min (text.size:Int) (d.room_ - Gf d)).toNat,(gN d (Cj d name)).sure_⟩,if d.room_ - Gf d<text.size then 5 else 0)
def Ap(d:Aa)(name:ByteArray):Aa×Int:=if Bp d=false then(d,3)else if Bl name=false then(d,1)else if 0≤A1 d.entries_ name then(d,2)else if 16≤d.entries_.length∨64≤d.nodes_.length∨1000000000≤d.next_ then(d,4)else
 (K2 ⟨d.nodes_++[⟨d.next_,tx [],0⟩],d.entries_,d.old_,d.steps_,d.room_,d.next_+1⟩ (tx [43]++name++tx [58]++Cr d.next_),0)
def Cc(d:Aa):Aa:=if Bp d=false then d else⟨Xbs d.nodes_ d.entries_ [],d.entries_,d.entries_,[],d.room_,d.next_⟩
end
section
open Go Go.Proofs
set_option maxRecDepth 20000
set_option maxHeartbeats 4000000
def Sk:List Ag→List ByteArray→Prop
 |_,[]=>True
 |now,s::ss=>srt now∧(Bb now s).2=true∧Sk (Bb now s).1 ss
theorem H0{now:List Ag}{s:ByteArray}{ss:List ByteArray}(h:(Bb now s).2=true):Kp now (s::ss)=Kp (Bb now s).1 ss:=if_neg (by rw[h];decide)
theorem XbW{d:Aa}:∀{l:List ByteArray} {now:List Ag},Gt d now l=true→Sk now l∧Kp now l=(d.entries_,true)∧Bs d d.entries_=true
 |[],now,h=>by
  unfold Gt at h
  rw[Bool.and_eq_true]at h
  have e:now=d.entries_:=by
   have:=h.2
   unfold N7 at this
   exact of_decide_eq_true this
  refine⟨trivial,by rw[←e];rfl,by rw[←e];exact h.1⟩
 |s::ss,now,h=>by
  unfold Gt at h
  rw[Bool.and_eq_true,Bool.and_eq_true]at h
  obtain⟨a,b,c⟩:=XbW (now:=(Bb now s).1) h.2
  exact⟨⟨Xep h.1.1,h.1.2,a⟩,by rw[H0 h.1.2,b],c⟩
theorem O9:∀{l:List ByteArray} {now:List Ag} (k:Nat),Sk now l→Sk now (l.take k)
 |[],_,k,_=>by rw[List.take_nil];trivial
 |_::_,_,0,_=>trivial
 |_::_,_,k+1,h=>⟨h.1,h.2.1,O9 k h.2.2⟩
theorem Um{s:ByteArray}{e:List Ag}:∀{l:List ByteArray} {now:List Ag},Sk now l→Kp now l=(e,true)→srt e→(Bb e s).2=true→Sk now (l++[s])
 |[],now,_,h,hs,h2=>by
  have e1:now=e:=congrArg Prod.fst h
  rw[e1]
  exact⟨hs,h2,trivial⟩
 |x::l,now,h,h1,hs,h2=>by
  rw[H0 h.2.1]at h1
  exact⟨h.1,h.2.1,Um h.2.2 h1 hs h2⟩
theorem V6:∀{l:List ByteArray} {now:List Ag},Sk now l→B0 now l=Kp now l∧(Kp now l).2=true
 |[],now,_=>⟨rfl,rfl⟩
 |s::ss,now,h=>by
  obtain⟨a,b⟩:=V6 (now:=(Bb now s).1) h.2.2
  have e2:B0 now (s::ss)=B0 (Do now s).1 ss:=if_neg (by rw[R9 h.1,h.2.1];decide)
  rw[H0 h.2.1,e2,R9 h.1,a]
  exact⟨rfl,b⟩
def Qu(l:List Ag)(id:Int):Bool:=l.any fun e=>decide (e.id_=id)
def T2(old:List Ag)(steps:List ByteArray)(id:Int):Bool:=(List.range (steps.length+1)).any fun k=>Qu (B0 old (steps.take k)).1 id
theorem U2{id:Int}:∀{l:List ByteArray} {now:List Ag},Sk now l→(Z2 now l id=true↔∃k,k≤l.length∧Qu (Kp now (l.take k)).1 id=true)
 |[],now,_=>by
  constructor
  ·intro h;exact⟨0,Nat.le_refl _,h⟩
  ·rintro⟨k,_,h⟩
   rw[List.take_nil]at h
   exact h
 |s::ss,now,h=>by
  have ih:=U2 (id:=id) (now:=(Bb now s).1) h.2.2
  show(Qu now id||Z2 (Bb now s).1 ss id)=true↔_
  rw[Bool.or_eq_true,ih]
  constructor
  ·rintro(h1|⟨k,hk,h1⟩)
   ·exact⟨0,Nat.zero_le _,h1⟩
   ·refine⟨k+1,by rw[List.length_cons];omega,?_⟩
    rw[List.take_succ_cons,H0 h.2.1]
    exact h1
  ·rintro⟨k,hk,h1⟩
   cases k with
   |zero=>exact .inl h1
   |succ k=>
    rw[List.take_succ_cons,H0 h.2.1]at h1
    exact .inr ⟨k,by rw[List.length_cons]at hk;omega,h1⟩
theorem XdN{old:List Ag}{steps:List ByteArray}(h:Sk old steps)(id:Int):T2 old steps id=Z2 old steps id:=by
 rw[Bool.eq_iff_iff,U2 h]
 unfold T2
 rw[List.any_eq_true]
 constructor
 ·rintro⟨k,hk,h1⟩
  rw[(V6 (O9 k h)).1]at h1
  exact⟨k,by have:=List.mem_range.1 hk;omega,h1⟩
 ·rintro⟨k,hk,h1⟩
  refine⟨k,List.mem_range.2 (by omega),?_⟩
  rw[(V6 (O9 k h)).1]
  exact h1
def C9(d:Aa):Aa:=⟨d.nodes_.filter (fun x=>T2 d.old_ d.steps_ x.id_),d.entries_,d.old_,d.steps_,d.room_,d.next_⟩
theorem Py{d:Aa}(h:Sk d.old_ d.steps_):C9 d=⟨Xbs d.nodes_ d.old_ d.steps_,d.entries_,d.old_,d.steps_,d.room_,d.next_⟩:=by
 unfold C9 Xbs
 rw[List.filter_congr fun x _=>XdN h x.id_]
theorem XfY{n:ByteArray}(h:Bl n=true):∀(j:Nat) x,n.data.toList[j]? =some x→x≠58:=by
 intro j x hx e
 unfold Bl at h
 rw[Bool.and_eq_true]at h
 have:=List.all_eq_true.1 h.1 x (List.mem_of_getElem? hx)
 rw[e]at this
 exact absurd this (by decide)
theorem XbC{a b:ByteArray}(h:Bl a=true):Lm (a++tx [58]++b)=(a,b,true):=by
 have hl:(a++tx [58]++b).data.toList=a.data.toList++58::b.data.toList:=by
  rw[ByteArray.data_append,ByteArray.data_append,Array.toList_append,Array.toList_append,Tk,List.append_assoc]
  rfl
 have ha:a.data.toList.length=a.size:=Array.length_toList
 have e:Ke (a++tx [58]++b)=(a.size:Int):=by
  unfold Ke
  rw[hl,Li _ a.size]
  ·rw[List.getElem?_append_right (by omega),ha,Nat.sub_self]
   rfl
  ·intro j hj x hx
   rw[List.getElem?_append_left (by omega)]at hx
   exact XfY h j x hx
 unfold Lm
 rw[e,if_pos (by omega),Int.toNat_natCast]
 have hz:(a++tx [58]++b).size=a.size+1+b.size:=by rw[ByteArray.size_append,ByteArray.size_append,Bo];rfl
 have hb:b.data.toList.length=b.size:=Array.length_toList
 have e1:(a++tx [58]++b).extract 0 a.size=a:=by
  apply Kw
  rw[C8,hl,List.drop_zero,List.take_left' ha]
 have e2:(a++tx [58]++b).extract (a.size+1) (a++tx [58]++b).size=b:=by
  apply Kw
  rw[C8,List.take_of_length_le (by rw[Array.length_toList];exact Nat.le_refl _),hl,List.drop_append,List.drop_of_length_le (by omega),ha,Nat.add_sub_cancel_left]
  rfl
 rw[e1,e2]
theorem No{c:UInt8}{s:ByteArray}:(tx [c]++s).extract 1 (tx [c]++s).size=s:=by
 apply Kw
 rw[C8,List.take_of_length_le (by rw[Array.length_toList];exact Nat.le_refl _),ByteArray.data_append,Array.toList_append,Tk]
 rfl
theorem Wu{c:UInt8}{s:ByteArray}:(tx [c]++s).data.toList.head?=some c:=by
 rw[ByteArray.data_append,Array.toList_append,Tk]
 rfl
theorem XeG{c:UInt8}{s:ByteArray}:tx [c]++s≠tx []:=by
 intro e
 have:=congrArg ByteArray.size e
 rw[ByteArray.size_append,Bo,Bo]at this
 simp at this
theorem Xfq{l:List Ag}{n:ByteArray}{i:Int}(hn:Bl n=true)(h0:0≤i)(h1:i≤1000000000):Bb l (tx [43]++(n++tx [58]++Cr i))=(Xad l n i,true):=by
 have hc:Lm ((tx [43]++(n++tx [58]++Cr i)).extract 1 (tx [43]++(n++tx [58]++Cr i)).size)=(n,Cr i,true):=by rw[No];exact XbC hn
 rw[Zq XeG Wu hc,Xgm h0 h1,if_neg (by rw[hn];simp)]
theorem Xc1{l:List Ag}{n:ByteArray}(hn:Bl n=true)(h:0≤A1 l n):Bb l (tx [45]++n)=(Ps l (A1 l n) (A1 l n+1),true):=by
 rw[U1 XeG Wu,No]
 unfold Ie
 rw[if_neg (by rw[hn];rintro(k|k);omega;cases k)]
theorem Xfb{l:List Ag}{a b:ByteArray}(hn:Bl a=true)(hb:Bl b=true)(hne:a≠b)(h:0≤A1 l a):Bb l (tx [62]++(a++tx [58]++b))=(Xad (Ps l (A1 l a) (A1 l a+1)) b (B6 l a),true):=by
 have hd:Ie l a=(Ps l (A1 l a) (A1 l a+1),true):=by
  unfold Ie
  rw[if_neg (by rw[hn];rintro(k|k);omega;cases k)]
 have hc:Lm ((tx [62]++(a++tx [58]++b)).extract 1 (tx [62]++(a++tx [58]++b)).size)=(a,b,true):=by rw[No];exact XbC hn
 rw[Zb XeG Wu hc,hd,if_neg (by rw[hb];simp;exact hne)]
theorem app3(a b c d:ByteArray):a++b++c++d=a++(b++c++d):=by
 rw[ByteArray.append_assoc,ByteArray.append_assoc,ByteArray.append_assoc]
theorem Nu{d:Aa}(h:Bp d=true):Sk d.old_ d.steps_∧Kp d.old_ d.steps_=(d.entries_,true)∧Bs d d.entries_=true:=XbW (diskOk_iff.1 h).2.2.2.2
theorem Lw{d:Aa}(h:Bp d=true):srt d.entries_:=Xep (Nu h).2.2
theorem Ue{d:Aa}{n:ByteArray}(h:Bp d=true)(hp:0≤A1 d.entries_ n):Bl n=true∧0≤Cj d n:=by
 obtain⟨hi,hq⟩:=Xcl (p:=fun e=>Bv e n) (rfl:A1 d.entries_ n=_) hp
 have h1:=XeV (Nu h).2.2 hi
 unfold Bv at hq
 rw[decide_eq_true_eq]at hq
 unfold H4 at h1
 rw[Xef hi rfl,Bool.and_eq_true,Bool.and_eq_true,decide_eq_true_eq]at h1
 refine⟨by rw[←hq];exact h1.1.2,?_⟩
 unfold Cj
 rw[if_neg (by omega)]
 unfold B6
 rw[if_neg (by omega),←gD hi]
 exact h1.2
theorem L9{d:Aa}{n:ByteArray}(h:A1 d.entries_ n<0):Cj d n<0:=by
 unfold Cj
 rw[if_pos h]
 decide
theorem Pq{d:Aa}{s:ByteArray}{e:List Ag}{nodes:List B5}{r x:Int}(h:Bp d=true)(hs:Bb d.entries_ s=(e,true)):C9 ⟨nodes,e,d.old_,d.steps_++[s],r,x⟩=K2 ⟨nodes,d.entries_,d.old_,d.steps_,r,x⟩ s:=by
 rw[Py (Um (Nu h).1 (Nu h).2.1 (Lw h) (by rw[hs]))]
 unfold K2
 rw[hs]
theorem Sa{d:Aa}{name:ByteArray}{nodes:List B5}{r x:Int}(h:Bp d=true)(hn:Bl name=true):C9 ⟨nodes,Ci d.entries_ ⟨name,d.next_⟩,d.old_,d.steps_++[tx [43]++name++tx [58]++Cr d.next_],r,x⟩=K2 ⟨nodes,d.entries_,d.old_,d.steps_,r,x⟩ (tx [43]++name++tx [58]++Cr d.next_):=by
 have hr:=Hg h
 rw[Yn (Lw h),app3]
 exact Pq h (Xfq hn (by omega) (by omega))
theorem XaG{d:Aa}{name:ByteArray}(h:Bp d=true)(hp:0≤A1 d.entries_ name):C9 ⟨d.nodes_,Ck d.entries_ name,d.old_,d.steps_++[tx [45]++name],d.room_,d.next_⟩=K2 d (tx [45]++name):=by
 rw[Sw (Lw h) hp]
 exact Pq h (Xc1 (Ue h hp).1 hp)
theorem Xaf{d:Aa}{a b:ByteArray}(h:Bp d=true)(hp:0≤A1 d.entries_ a)(hb:Bl b=true)(hne:a≠b):C9 ⟨d.nodes_,Ci (Ck d.entries_ a) ⟨b,B6 d.entries_ a⟩,d.old_,d.steps_++[tx [62]++a++tx [58]++b],d.room_,d.next_⟩=K2 d (tx [62]++a++tx [58]++b):=by
 rw[Yn (Xcd (Lw h)),Sw (Lw h) hp,app3]
 exact Pq h (Xfb (Ue h hp).1 hb hne hp)
theorem Md{d:Aa}{n:ByteArray}(h:0≤A1 d.entries_ n):Iw d (B6 d.entries_ n)=Cj d n:=by
 unfold Cj
 rw[if_neg (by omega)]
theorem Qt{l:List Ag}{n:ByteArray}(h:Dg l n=true):0≤A1 l n:=by
 unfold Dg at h
 exact of_decide_eq_true h
theorem Ny{l:List Ag}{n:ByteArray}(h:Dg l n=false):A1 l n<0:=by
 unfold Dg at h
 have:=of_decide_eq_false h
 omega
theorem My{p:Nat→Bool}{k:Nat}:(List.range (k+1)).any p=((List.range k).any p||p k):=by
 rw[List.range_succ,List.any_append]
 simp
theorem Mq{old:List Ag}{steps:List ByteArray}{id:Int}{k:Nat}(hk:k≤steps.length+1)(h:true=(List.range k).any fun k=>Qu (B0 old (steps.take k)).1 id):T2 old steps id=true:=by
 obtain⟨j,hj,h1⟩:=List.any_eq_true.1 h.symm
 exact List.any_eq_true.2 ⟨j,List.mem_range.2 (by have:=List.mem_range.1 hj;omega),h1⟩
theorem Ir{l:List Ag}{k:Nat}{id:Int}(hk:k<l.length):Qu (l.take (k+1)) id=(Qu (l.take k) id||decide (l[k].id_=id)):=XfE hk
theorem Xdi(l:List Ag)(s:ByteArray):(Do l s).1.length≤l.length+1:=by
 unfold Do
 split
 ·simp
 ·split
  ·exact C4 rfl
  ·have h1:=Ew (rfl:Ck l (Be s).1=_)
   split
   ·have h2:=C4 (rfl:Ci (Ck l (Be s).1) ⟨(Be s).2.1,B6 l (Be s).1⟩=_)
    show(Ci _ _).length≤_
    omega
   ·show(Ck _ _).length≤_
    omega
theorem Xan:∀(l:List ByteArray) (now:List Ag),(B0 now l).1.length≤now.length+l.length
 |[],_=>Nat.le_refl _
 |s::l,now=>by
  have h1:=Xdi now s
  have h2:=Xan l (Do now s).1
  unfold B0
  split
  ·exact Nat.zero_le _
  ·rw[List.length_cons]
   omega
theorem Oh{t:ByteArray}{n:Nat}(h:t.size≤n):t.extract 0 n=t:=by
 apply Kw
 rw[C8,List.drop_zero,List.take_of_length_le (by rw[Array.length_toList];exact h)]
end
end Go.Proofs.YtjbmpmmffjgedaaGreatDoor.Ab
