/- What functions of the program come to, for all arguments in the given bounds. -/
import Derived.Test.YtjbmpmmffjgedaaGreatDoorCch04
import Derived.Test.YtjbmpmmffjgedaaGreatDoorCZ10
set_option linter.unusedVariables false
set_option linter.unusedSimpArgs false
namespace Go.Proofs.YtjbmpmmffjgedaaGreatDoor.Ab
section
open Go Go.Proofs
set_option maxRecDepth 20000
set_option maxHeartbeats 4000000
def XbP:List (Nat×TyRow):=[ty3,ty5,ty9,XjO,XhS,Zy]
theorem XbK:B3 Tryz.prog XbP:=B3.of (by kernel_rfl)
theorem Tn:Setup Tryz.prog XbP:=⟨XbK,mixed⟩
open Go.RowKit
def Zh(x:Nat):Bool:=decide (97≤x∧x≤122∨48≤x∧x≤57∨x=46∨x=45)
def Bo(t:ByteArray):Bool:=t.data.toList.all (fun c=>Zh c.toNat)&&decide (1≤t.size∧t.size≤20)
theorem L8{t:ByteArray}{j:Nat}(hj:j<t.size):t.data.toList[j]? =some t[j]:=by
 rw[Array.getElem?_toList]
 exact Array.getElem?_eq_getElem hj
theorem XgG{t:ByteArray}{j:Nat}(hj:j<t.size)(h:Zh (t[j]).toNat=false):false=Bo t:=by
 symm
 unfold Bo
 rw[Bool.and_eq_false_iff]
 left
 rw[Bool.eq_false_iff]
 intro ha
 have:=List.all_eq_true.1 ha t[j] (List.mem_of_getElem? (L8 hj))
 rw[h]at this
 cases this
theorem X3{t:ByteArray}{b:Bool}(h:∀(j:Nat) (hj:j<t.size),Zh (t[j]).toNat=true)(hb:b=decide (1≤t.size∧t.size≤20)):b=Bo t:=by
 unfold Bo
 rw[List.all_eq_true.2,hb,Bool.true_and]
 intro c hc
 obtain⟨j,hj⟩:=List.getElem?_of_mem hc
 have hl:j<t.size:=by
  have:=(List.getElem?_eq_some_iff.1 hj).1
  rwa[Array.length_toList]at this
 rw[L8 hl]at hj
 rw[←Option.some.inj hj]
 exact h j hl
theorem XcP{t:ByteArray}(h:Bo t=true):1≤t.size∧t.size≤20:=by
 unfold Bo at h
 rw[Bool.and_eq_true,decide_eq_true_eq]at h
 exact h.2
theorem Tx:∀(l m:List UInt8) (acc:Nat),Lib.decFrom acc (l++m)=(Lib.decFrom acc l).bind fun a=>Lib.decFrom a m
 |[],_,_=>rfl
 |c::l,m,acc=>by
  simp only[List.cons_append,Lib.decFrom]
  cases Lib.digitVal c with
  |none=>rfl
  |some d=>exact Tx l m _
theorem Uy{n:Nat}(h:n<10):Lib.digitVal (UInt8.ofNat (48+n))=some n:=by
 have e:(UInt8.ofNat (48+n)).toNat=48+n:=by rw[UInt8.toNat_ofNat',Nat.mod_eq_of_lt (by omega)]
 unfold Lib.digitVal
 rw[e,if_pos (by omega)]
 congr 1
 omega
theorem Xew(u:Nat):Lib.decFrom 0 (Lib.decDigits u)=some u:=by
 induction u using Nat.strongRecOn with
 |_ u ih=>
  by_cases h:u<10
  ·rw[Lib.decDigits,dif_pos h]
   simp only[Lib.decFrom,Uy h]
   congr 1
   omega
  ·rw[Lib.decDigits,dif_neg h,Tx,ih (u/10) (by omega)]
   simp only[Option.bind_some,Lib.decFrom,Uy (show u% 10<10 by omega)]
   congr 1
   omega
def Bg(t:ByteArray):Int×Bool:=match Lib.decFrom 0 t.data.toList with
 |some n=>if n≤1000000000∧Cy (n:Int)=t then((n:Int),true)else(0,false)
 |none=>(0,false)
theorem Zl{t:ByteArray}{m:Nat}(h:Lib.decFrom 0 t.data.toList=some m):Bg t=if m≤1000000000∧Cy (m:Int)=t then((m:Int),true)else(0,false):=by
 unfold Bg
 rw[h]
theorem Xjn{t:ByteArray}{j:Nat}(hj:j<t.size)(h:¬(48≤(t[j]).toNat∧(t[j]).toNat≤57)):(0,false)=Bg t:=by
 unfold Bg
 split
 ·rename_i n hn
  obtain⟨d,hd⟩:=Lib.digit_of_decFrom _ _ _ hn j _ (L8 hj)
  unfold Lib.digitVal at hd
  rw[if_neg h]at hd
  cases hd
 ·rfl
theorem Xh0{n:Int}{t:ByteArray}(e:Cy n=t)(h0:0≤n)(h:n≤1000000000):1≤t.size∧t.size≤10:=by
 rw[←e]
 unfold Cy Lib.itoa
 rw[A4,if_neg (by omega)]
 exact Hj 9 n.toNat (by omega)
theorem Xh9{t:ByteArray}(h:10<t.size):(0,false)=Bg t:=by
 unfold Bg
 split
 ·rename_i n hn
  rw[if_neg]
  rintro⟨h1,h2⟩
  have:=Xh0 h2 (by omega) (by omega)
  omega
 ·rfl
theorem XiG{n:Int}(h0:0≤n)(h:n≤1000000000):Bg (Cy n)=(n,true):=by
 have e:Lib.decFrom 0 (Cy n).data.toList=some n.toNat:=by
  unfold Cy Lib.itoa
  rw[Rh,if_neg (by omega)]
  exact Xew _
 rw[Zl e,if_pos ⟨by omega,by rw[Int.toNat_of_nonneg h0]⟩,Int.toNat_of_nonneg h0]
theorem Ks{name:ByteArray}{o:Bool}(hs:name.size≤1000000000)(hr:Bo name=o):Fn Tryz.prog 265 [S name] [] ⟨B o,[],[]⟩:=by
 refine Fn.go Tn Tryz.func265 fun P hP Q hQ=>?_
 conv=>cbv
 refine LoopW.lp (κ:=Int) Tn hP [] [0] (fun i3=>[(3,I i3)]) (fun i3=>[])
  (fun i3=>0≤i3∧i3≤name.size∧∀(j:Nat) (hj:j<name.size),j<i3.toNat→Zh (name[j]).toNat=true)
  (fun i3=>(name.size - i3).toNat) (0) ⟨by omega,by omega,fun j _ h=>by simp at h⟩ ⟨rfl,trivial⟩ rfl ?_
 rintro i3 J ⟨h0,h1,hb⟩ hJ
 conv=>cbv
 refine .go fun v1 ae=>?_
 conv=>cbv
 refine .lss (fun h2=>?_) fun h2=>?_
 conv=>cbv
 refine .go i3.toNat fun hjv3 v3 ad bv3=>?_
 conv=>cbv
 refine .id fun v4 af=>?_
 conv=>cbv
 generalize aa:A1 v4 97 122=r5
 refine .dd hP (Dd aa) ?_
 cases r5
 simp only[A1,decide_eq_true_eq,decide_eq_false_iff_not]at aa
 conv=>cbv
 generalize ab:A1 v4 48 57=r6
 refine .dd hP (Dd ab) ?_
 cases r6
 simp only[A1,decide_eq_true_eq,decide_eq_false_iff_not]at ab
 conv=>cbv
 refine .neq (fun h7=>?_) fun h7=>?_
 conv=>cbv
 refine .neq (fun h8=>?_) fun h8=>?_
 conv=>cbv
 have e:false=Bo name:=(by exact XgG (show i3.toNat<name.size by omega) (by unfold Zh;rw[decide_eq_false_iff_not];omega))
 rw[hr]at e
 subst e
 exact hQ _ _ (.b rfl rfl)
 conv=>cbv
 refine .add fun v9 ag=>?_
 conv=>cbv
 exact .go [] (v9) (hJ _ ⟨by omega,by omega,fun j hj h=>if e:j=i3.toNat then by subst e;unfold Zh;rw[decide_eq_true_eq];omega else hb j hj (by omega)⟩ mlt)
 conv=>cbv
 refine .add fun v8 ah=>?_
 conv=>cbv
 exact .go [] (v8) (hJ _ ⟨by omega,by omega,fun j hj h=>if e:j=i3.toNat then by subst e;unfold Zh;rw[decide_eq_true_eq];omega else hb j hj (by omega)⟩ mlt)
 simp only[A1,decide_eq_true_eq,decide_eq_false_iff_not]at ab
 conv=>cbv
 refine .add fun v7 ai=>?_
 conv=>cbv
 exact .go [] (v7) (hJ _ ⟨by omega,by omega,fun j hj h=>if e:j=i3.toNat then by subst e;unfold Zh;rw[decide_eq_true_eq];omega else hb j hj (by omega)⟩ mlt)
 simp only[A1,decide_eq_true_eq,decide_eq_false_iff_not]at aa
 conv=>cbv
 refine .add fun v6 aj=>?_
 conv=>cbv
 exact .go [] (v6) (hJ _ ⟨by omega,by omega,fun j hj h=>if e:j=i3.toNat then by subst e;unfold Zh;rw[decide_eq_true_eq];omega else hb j hj (by omega)⟩ mlt)
 conv=>cbv
 refine .go fun v3 ad=>?_
 conv=>cbv
 generalize ac:A1 v3 1 20=r4
 refine .dd hP (Dd ac) ?_
 cases r4
 simp only[A1,decide_eq_true_eq,decide_eq_false_iff_not]at ac
 conv=>cbv
 have e:false=Bo name:=(by exact X3 (fun j hj=>hb j hj (by omega)) (by symm;rw[decide_eq_false_iff_not];omega))
 rw[hr]at e
 subst e
 exact hQ _ _ (.b rfl rfl)
 simp only[A1,decide_eq_true_eq,decide_eq_false_iff_not]at ac
 conv=>cbv
 have e:true=Bo name:=(by exact X3 (fun j hj=>hb j hj (by omega)) (by symm;rw[decide_eq_true_eq];omega))
 rw[hr]at e
 subst e
 exact hQ _ _ (.b rfl rfl)
theorem Pw{text:ByteArray}{oa:Int}{ob:Bool}(hs:text.size≤1000000000)(hr:Bg text=(oa,ob)):Fn Tryz.prog 304 [S text] [] ⟨.tup [I oa,B ob],[],[]⟩:=by
 refine Fn.go Tn Tryz.func304 fun P hP Q hQ=>?_
 conv=>cbv
 refine .go fun v1 aj=>?_
 conv=>cbv
 refine .gtr (fun h2=>?_) fun h2=>?_
 conv=>cbv
 have e:(0,false)=Bg text:=(by exact Xh9 (by omega))
 rw[hr]at e
 simp only[Prod.mk.injEq]at e
 obtain⟨rfl,rfl⟩:=e
 refine hQ _ _ ?_
 exact .many (.inl rfl) rfl rfl (.d rfl rfl (.d rfl rfl (.nil)))
 conv=>cbv
 refine LoopW.lp (κ:=Int×Int) Tn hP [] [0] (fun(i4,i5)=>[(4,I i4),(5,I i5)]) (fun(i4,i5)=>[])
  (fun(i4,i5)=>0≤i5∧i5≤text.size∧∃m:Nat,i4=m∧Lib.decFrom 0 (text.data.toList.take i5.toNat)=some m∧m<10^i5.toNat)
  (fun(i4,i5)=>(text.size - i5).toNat) (0,0) ⟨by omega,by omega,0,rfl,rfl,by simp⟩ ⟨rfl,rfl,trivial⟩ rfl ?_
 rintro⟨i4,i5⟩ J ⟨h0,h1,m,hm,hd,hlt⟩ hJ
 have hp:=Nat.pow_le_pow_right (n:=10) (by decide) (show i5.toNat≤10 by omega)
 have ac:(10:Nat)^10=10000000000:=by decide
 rw[ac]at hp
 conv=>cbv
 refine .go fun v3 ak=>?_
 conv=>cbv
 refine .lss (fun h4=>?_) fun h4=>?_
 conv=>cbv
 refine .go i5.toNat fun hjv5 v5 al bv5=>?_
 conv=>cbv
 refine .lss (fun h6=>?_) fun h6=>?_
 conv=>cbv
 have e:(0,false)=Bg text:=(by exact Xjn (show i5.toNat<text.size by omega) (by omega))
 rw[hr]at e
 simp only[Prod.mk.injEq]at e
 obtain⟨rfl,rfl⟩:=e
 refine hQ _ _ ?_
 exact .many (.inl rfl) rfl rfl (.d rfl rfl (.d rfl rfl (.nil)))
 conv=>cbv
 refine .go i5.toNat fun hjv7 v7 am bv7=>?_
 conv=>cbv
 refine .gtr (fun h8=>?_) fun h8=>?_
 conv=>cbv
 have e:(0,false)=Bg text:=(by exact Xjn (show i5.toNat<text.size by omega) (by omega))
 rw[hr]at e
 simp only[Prod.mk.injEq]at e
 obtain⟨rfl,rfl⟩:=e
 refine hQ _ _ ?_
 exact .many (.inl rfl) rfl rfl (.d rfl rfl (.d rfl rfl (.nil)))
 conv=>cbv
 refine .mul fun v9 an=>?_
 conv=>cbv
 refine .go i5.toNat fun hjv10 ao ae bv10=>?_
 conv=>cbv
 refine .id fun ap af=>?_
 conv=>cbv
 refine .add fun aq ag=>?_
 conv=>cbv
 refine .sub fun ad ah=>?_
 conv=>cbv
 refine .add fun aa ai=>?_
 conv=>cbv
 have hdt:=Lib.decFrom_take _ _ _ _ _ ((text[i5.toNat]).toNat - 48) hd (L8 (show i5.toNat<text.size by omega)) (by unfold Lib.digitVal;rw[if_pos (by omega)])
 exact .go [] (ad,aa) (hJ _ ⟨by omega,by omega,m*10+((text[i5.toNat]).toNat - 48),by omega,by rw[show aa.toNat=i5.toNat+1 by omega];exact hdt,by rw[show aa.toNat=i5.toNat+1 by omega,Nat.pow_succ];omega⟩ mlt)
 conv=>cbv
 refine .gtr (fun h5=>?_) fun h5=>?_
 conv=>cbv
 have e:(0,false)=Bg text:=(by rw[List.take_of_length_le (by rw[Array.length_toList];show text.size≤_;omega)]at hd;rw[Zl hd,if_neg (by omega)])
 rw[hr]at e
 simp only[Prod.mk.injEq]at e
 obtain⟨rfl,rfl⟩:=e
 refine hQ _ _ ?_
 exact .many (.inl rfl) rfl rfl (.d rfl rfl (.d rfl rfl (.nil)))
 conv=>cbv
 generalize ab:Cy i4=r6
 refine .dd hP (Xa0 (by unfold Xfw;omega) ab) ?_
 conv=>cbv
 refine .neq (fun h7=>?_) fun h7=>?_
 conv=>cbv
 have e:(0,false)=Bg text:=(by rw[List.take_of_length_le (by rw[Array.length_toList];show text.size≤_;omega)]at hd;rw[Zl hd,if_neg];rintro⟨_,h⟩;exact h7 (by rw[←ab,hm];exact h))
 rw[hr]at e
 simp only[Prod.mk.injEq]at e
 obtain⟨rfl,rfl⟩:=e
 refine hQ _ _ ?_
 exact .many (.inl rfl) rfl rfl (.d rfl rfl (.d rfl rfl (.nil)))
 conv=>cbv
 have e:(i4,true)=Bg text:=(by rw[List.take_of_length_le (by rw[Array.length_toList];show text.size≤_;omega)]at hd;rw[Zl hd,if_pos ⟨by omega,by rw[←hm,ab];exact h7⟩,hm])
 rw[hr]at e
 simp only[Prod.mk.injEq]at e
 obtain⟨rfl,rfl⟩:=e
 refine hQ _ _ ?_
 exact .many (.inl rfl) rfl rfl (.d rfl rfl (.d rfl rfl (.nil)))
def L6(s:ByteArray):Int:=Lib.indexByte s.data.toList 58
def Nu(s:ByteArray):ByteArray×ByteArray×Bool:=if 0≤L6 s then(s.extract 0 (L6 s).toNat,s.extract ((L6 s).toNat+1) s.size,true)else(s,tx [],false)
theorem S2(c:UInt8):∀l:List UInt8,-1≤Lib.indexByte l c∧Lib.indexByte l c<l.length
 |[]=>by simp[Lib.indexByte]
 |b::l=>by
  have:=S2 c l
  unfold Lib.indexByte
  rw[List.length_cons]
  split
  ·omega
  ·split
   ·omega
   ·omega
theorem XeI{s:ByteArray}{i:Int}(e:L6 s=i): -1≤i∧i<s.size:=by
 rw[←e]
 exact S2 58 s.data.toList
end
section
open Go Go.Proofs
set_option maxRecDepth 20000
set_option maxHeartbeats 4000000
def O7{α:Type}(l:List α)(i:Int)(m:List α):List α:=l.take i.toNat++m++l.drop i.toNat
def R6{α:Type}(l:List α)(i j:Int):List α:=l.eraseIdx i.toNat
def Vu(e:Ad)(name:ByteArray):Bool:=!(ltB e.name_ name||decide (e.name_=name))
def C3(l:List Ad)(name:ByteArray):Int:=V2 (fun e=>Vu e name) l
def XcI(l:List Ad)(name:ByteArray)(id:Int):List Ad:=
 if 0≤Aw l name then l.set (Aw l name).toNat ⟨(l.getD (Aw l name).toNat ⟨tx [],0⟩).name_,id⟩
 else O7 l (if C3 l name<0 then l.length else C3 l name) [⟨name,id⟩]
def Jb(l:List Ad)(name:ByteArray):List Ad×Bool:=
 if Aw l name<0∨Bo name=false then([],false)else(R6 l (Aw l name) (Aw l name+1),true)
def A8(l:List Ad)(step:ByteArray):List Ad×Bool:=
 if step=tx []then([],false)else
 let nm:=(Nu (step.extract 1 step.size)).1
 let rest:=(Nu (step.extract 1 step.size)).2.1
 let has:=(Nu (step.extract 1 step.size)).2.2
 if step.data.toList.head?=some 43 then
  (if has=false∨(Bg rest).2=false∨Bo nm=false then([],false)else(XcI l nm (Bg rest).1,true))
 else if step.data.toList.head?=some 45 then Jb l (step.extract 1 step.size)
 else if step.data.toList.head?=some 62 then
  (if has=false∨(Jb l nm).2=false∨Bo rest=false∨nm=rest then([],false)else(XcI (Jb l nm).1 rest (Co l nm),true))
 else([],false)
theorem Tj{t:ByteArray}(h:0<t.size):t.data.toList.head?=some t[0]:=by
 rw[List.head?_eq_getElem?]
 exact L8 h
theorem Xeh{t:ByteArray}(h:t≠tx []):0<t.size:=by
 rcases Nat.eq_zero_or_pos t.size with h0|h0
 ·exfalso
  apply h
  have hl:t.data.toList.length=t.size:=Array.length_toList
  rw[h0]at hl
  have h1:=List.eq_nil_of_length_eq_zero hl
  apply ByteArray.ext
  exact Array.toList_inj.1 (by rw[h1];rfl)
 ·exact h0
theorem u8_eq{b:UInt8}{v:Int}{n:Nat}(hv:v=(b.toNat:Int))(h:v=(n:Int))(hn:n<256):b=UInt8.ofNat n:=by
 apply UInt8.toNat_inj.1
 rw[UInt8.toNat_ofNat',Nat.mod_eq_of_lt (by omega)]
 omega
theorem u8_ne{b:UInt8}{v:Int}{n:Nat}(hv:v=(b.toNat:Int))(h:v≠(n:Int))(hn:n<256):b≠UInt8.ofNat n:=by
 rintro rfl
 apply h
 rw[hv,UInt8.toNat_ofNat',Nat.mod_eq_of_lt (by omega)]
section
variable {l:List Ad} {step a b:ByteArray} {c:Bool}
theorem Xit(h:step=tx []):A8 l step=([],false):=by
 unfold A8
 rw[if_pos h]
theorem XaC(h:step≠tx [])(hh:step.data.toList.head?=some 43)(hc:Nu (step.extract 1 step.size)=(a,b,c)):A8 l step=if c=false∨(Bg b).2=false∨Bo a=false then([],false)else(XcI l a (Bg b).1,true):=by
 unfold A8
 rw[if_neg h,hc,if_pos hh]
theorem X1(h:step≠tx [])(hh:step.data.toList.head?=some 45):A8 l step=Jb l (step.extract 1 step.size):=by
 unfold A8
 rw[if_neg h,if_neg (by rw[hh];decide),if_pos hh]
theorem XaV(h:step≠tx [])(hh:step.data.toList.head?=some 62)(hc:Nu (step.extract 1 step.size)=(a,b,c)):A8 l step=if c=false∨(Jb l a).2=false∨Bo b=false∨a=b then([],false)else(XcI (Jb l a).1 b (Co l a),true):=by
 unfold A8
 rw[if_neg h,hc,if_neg (by rw[hh];decide),if_neg (by rw[hh];decide),if_pos hh]
theorem XfO{x:UInt8}(h:step≠tx [])(hh:step.data.toList.head?=some x)(h1:x≠43)(h2:x≠45)(h3:x≠62):A8 l step=([],false):=by
 unfold A8
 have k:∀y,x≠y→¬step.data.toList.head?=some y:=fun y hy e=>hy (by rw[hh]at e;exact Option.some.inj e)
 rw[if_neg h,if_neg (k _ h1),if_neg (k _ h2),if_neg (k _ h3)]
end
theorem Xjh{s a b:ByteArray}{c:Bool}(e:Nu s=(a,b,c)):a.size≤s.size∧b.size≤s.size:=by
 unfold Nu at e
 split at e
 ·simp only[Prod.mk.injEq]at e
  obtain⟨rfl,rfl,rfl⟩:=e
  rw[ByteArray.size_extract,ByteArray.size_extract]
  omega
 ·simp only[Prod.mk.injEq]at e
  obtain⟨rfl,rfl,rfl⟩:=e
  exact⟨Nat.le_refl _,by rw[A4];exact Nat.zero_le _⟩
theorem XaI{l a:List Ad}{n:ByteArray}{b:Bool}(e:Jb l n=(a,b)):a.length≤l.length:=by
 unfold Jb at e
 split at e
 ·simp only[Prod.mk.injEq]at e
  rw[←e.1]
  exact Nat.zero_le _
 ·simp only[Prod.mk.injEq]at e
  rw[←e.1]
  unfold R6
  rw[List.length_eraseIdx]
  split<;>omega
theorem XdI{l a:List Ad}{n:ByteArray}{i:Int}(e:XcI l n i=a):a.length≤l.length+1:=by
 rw[←e]
 unfold XcI O7
 split
 ·rw[List.length_set];omega
 ·simp only[List.length_append,List.length_take,List.length_drop,List.length_cons,List.length_nil]
  omega
theorem Ub{l a:List Ad}{s:ByteArray}{b:Bool}(e:A8 l s=(a,b)):a.length≤l.length+1:=by
 unfold A8 at e
 have h0:∀{b:Bool},(([]:List Ad),false)=(a,b)→a.length≤l.length+1:=fun h=>by
  simp only[Prod.mk.injEq]at h
  rw[←h.1];exact Nat.zero_le _
 split at e
 ·exact h0 e
 ·dsimp only at e
  split at e
  ·split at e
   ·exact h0 e
   ·simp only[Prod.mk.injEq]at e
    exact XdI e.1
  ·split at e
   ·have:=XaI e;omega
   ·split at e
    ·split at e
     ·exact h0 e
     ·simp only[Prod.mk.injEq]at e
      have h1:=XdI e.1
      have h2:=XaI (l:=l) (n:=(Nu (s.extract 1 s.size)).1) (a:=(Jb l (Nu (s.extract 1 s.size)).1).1) (b:=(Jb l (Nu (s.extract 1 s.size)).1).2) rfl
      omega
    ·exact h0 e
end
section
open Go Go.Proofs
set_option maxRecDepth 20000
set_option maxHeartbeats 4000000
theorem XeY{a b:ByteArray}:a.toList=b.toList↔a=b:=⟨fun e=>Qn e,fun e=>by rw[e]⟩
theorem AggW.eSI{a c:ByteArray}{b d:Int}{K:Bool→Prop}(h1:a=c∧b=d→K true)(h2:¬(a=c∧b=d)→K false):AggW [.str,.int] [.d (.sc (.string a)),.d (.sc (.int .i64 b))] [.d (.sc (.string c)),.d (.sc (.int .i64 d))] K:=by
 by_cases h:a=c∧b=d
 ·refine⟨true,?_,h1 h⟩
  simp[Ok,Xkg,h.1,h.2]
 ·refine⟨false,?_,h2 h⟩
  simp only[Ok,Xkg,if_true,Option.bind_some,Option.map_some,Option.some.injEq,Bool.and_true]
  simpa[Bool.and_eq_false_iff,XeY]using h
instance decEntry:DecidableEq Ad:=fun a b=>match a,b with
 |⟨n,i⟩,⟨m,j⟩=>decidable_of_iff (n=m∧i=j) (by simp)
def okL(l:List Ad):Prop:=∀e∈l,e.name_.size≤1000000000
def okS(l:List ByteArray):Prop:=∀s∈l,s.size≤1000000000
def Sk(d:Aa):Prop:=okD d∧okL d.old_∧okS d.steps_
def Ho(d:Aa):Int:=H0 (fun n:Cs=>(n.text_.size:Int)) d.nodes_
def nd(d:Aa)(i:Nat):Cs:=d.nodes_.getD i ⟨0,tx [],0⟩
def Ik(d:Aa)(i:Nat):Bool:=decide ((0<i→(nd d (i - 1)).id_<(nd d i).id_)∧(1≤(nd d i).id_∧(nd d i).id_≤d.next_ - 1)∧0≤(nd d i).sure_∧(nd d i).sure_≤(nd d i).text_.size)
def J9(d:Aa):Bool:=(List.range d.nodes_.length).all (Ik d)&&decide (d.nodes_.length≤64)
def en(l:List Ad)(i:Nat):Ad:=l.getD i ⟨tx [],0⟩
def I0(d:Aa)(l:List Ad)(i:Nat):Bool:=(decide (i=0)|| !(ltB (en l i).name_ (en l (i - 1)).name_||decide ((en l i).name_=(en l (i - 1)).name_)))&&Bo (en l i).name_&&decide (0≤Jv d (en l i).id_)
def Bx(d:Aa)(l:List Ad):Bool:=(List.range l.length).all (I0 d l)&&decide (l.length≤16)
theorem XaR{p:Nat→Bool}{n:Nat}(h:∀i,i<n→p i=true):(List.range n).all p=true:=List.all_eq_true.2 fun i hi=>h i (List.mem_range.1 hi)
theorem Xbv{p:Nat→Bool}{n i:Nat}(hi:i<n)(h:p i=false):(List.range n).all p=false:=by
 rw[Bool.eq_false_iff]
 intro ha
 have:=List.all_eq_true.1 ha i (List.mem_range.2 hi)
 rw[h]at this
 cases this
theorem Tq{d:Aa}{i:Nat}(hi:i<d.nodes_.length)(h:Ik d i=false):false=J9 d:=by unfold J9;rw[Xbv hi h];rfl
theorem Xhi{d:Aa}{b:Bool}(h:∀i,i<d.nodes_.length→Ik d i=true)(hb:b=decide (d.nodes_.length≤64)):b=J9 d:=by unfold J9;rw[XaR h,hb];rfl
theorem XcT{d:Aa}{l:List Ad}{i:Nat}(hi:i<l.length)(h:I0 d l i=false):false=Bx d l:=by unfold Bx;rw[Xbv hi h];rfl
theorem Xed{d:Aa}{l:List Ad}{b:Bool}(h:∀i,i<l.length→I0 d l i=true)(hb:b=decide (l.length≤16)):b=Bx d l:=by unfold Bx;rw[XaR h,hb];rfl
theorem Xem{d:Aa}{l:List Ad}(h:Bx d l=true):l.length≤16:=by
 unfold Bx at h
 rw[Bool.and_eq_true,decide_eq_true_eq]at h
 exact h.2
theorem XkH{d:Aa}{k:Nat}{x:Cs}(hk:k<d.nodes_.length)(h:x=d.nodes_[k]):nd d k=x:=by rw[h,gD hk];rfl
theorem Xhm{l:List Ad}{k:Nat}{x:Ad}(hk:k<l.length)(h:x=l[k]):en l k=x:=by rw[h,gD hk];rfl
def Hl(d:Aa):List Ad→List ByteArray→Bool
 |now,[]=>Bx d now&&P9 now d.entries_
 |now,s::ss=>Bx d now&&(A8 now s).2&&Hl d (A8 now s).1 ss
def B6(d:Aa):Bool:=Bl d.room_&&Cq d.next_ 1 1000000000&&J9 d&&decide (Ho d≤d.room_)&&Hl d d.old_ d.steps_
theorem Xgv{l:List Ad}{n:ByteArray}{i:Int}(h:okL l)(hn:n.size≤1000000000):okL (XcI l n i):=by
 intro e he
 unfold XcI O7 at he
 split at he
 ·rename_i h0
  have hlt:=(Ps (rfl:Aw l n=_)).2
  rcases List.mem_or_eq_of_mem_set he with he|rfl
  ·exact h e he
  ·have hk:(Aw l n).toNat<l.length:=by omega
   show(l.getD (Aw l n).toNat ⟨tx [],0⟩).name_.size≤_
   rw[←gD hk]
   exact h _ (List.getElem_mem hk)
 ·simp only[List.append_assoc,List.mem_append,List.mem_cons,List.not_mem_nil,or_false,List.cons_append,List.nil_append]at he
  rcases he with he|rfl|he
  ·exact h e (List.mem_of_mem_take he)
  ·exact hn
  ·exact h e (List.mem_of_mem_drop he)
theorem XdM{l a:List Ad}{n:ByteArray}{b:Bool}(h:okL l)(e:Jb l n=(a,b)):okL a:=by
 unfold Jb R6 at e
 split at e
 ·simp only[Prod.mk.injEq]at e
  rw[←e.1];intro x hx;cases hx
 ·simp only[Prod.mk.injEq]at e
  rw[←e.1]
  intro x hx
  exact h x (List.mem_of_mem_eraseIdx hx)
theorem Xd7{l a:List Ad}{s:ByteArray}{b:Bool}(h:okL l)(hs:s.size≤1000000000)(e:A8 l s=(a,b)):okL a:=by
 have h0:∀{b:Bool},(([]:List Ad),false)=(a,b)→okL a:=fun h=>by
  simp only[Prod.mk.injEq]at h
  rw[←h.1];intro x hx;cases hx
 have hz:(s.extract 1 s.size).size≤s.size:=by rw[ByteArray.size_extract];omega
 obtain⟨x,y,c,hc⟩:∃x y c,Nu (s.extract 1 s.size)=(x,y,c):=⟨_,_,_,rfl⟩
 have hcb:=Xjh hc
 unfold A8 at e
 rw[hc]at e
 split at e
 ·exact h0 e
 ·dsimp only at e
  split at e
  ·split at e
   ·exact h0 e
   ·simp only[Prod.mk.injEq]at e
    rw[←e.1]
    exact Xgv h (by omega)
  ·split at e
   ·exact XdM h e
   ·split at e
    ·split at e
     ·exact h0 e
     ·simp only[Prod.mk.injEq]at e
      rw[←e.1]
      exact Xgv (XdM h (b:=(Jb l x).2) rfl) (by omega)
    ·exact h0 e
end
section
open Go Go.Proofs
set_option maxRecDepth 20000
set_option maxHeartbeats 4000000
def U6:List (Nat×TyRow):=[ty3,ty9,XjO,XhS,Xb9,Xfc,Z9]
theorem XaU:B3 Tryz.prog U6:=B3.of (by kernel_rfl)
theorem Jh:Setup Tryz.prog U6:=⟨XaU,mixed⟩
theorem Mn:∀a b:List UInt8,Op.bytesLess a b=true→Op.bytesLess b a=false
 |_,[],h=>by simp[Op.bytesLess]at h
 |[],_::_,_=>by simp[Op.bytesLess]
 |a::x,b::y,h=>by
  simp only[Op.bytesLess,Bool.or_eq_true,decide_eq_true_eq,Bool.and_eq_true,beq_iff_eq]at h
  simp only[Op.bytesLess,Bool.or_eq_false_iff,decide_eq_false_iff_not,Bool.and_eq_false_iff,beq_eq_false_iff_ne]
  rcases h with h|⟨h1,h2⟩
  ·exact⟨fun h3=>absurd (UInt8.lt_trans h h3) (UInt8.lt_irrefl _),.inl fun e=>by subst e;exact UInt8.lt_irrefl _ h⟩
  ·subst h1
   exact⟨UInt8.lt_irrefl _,.inr (Mn x y h2)⟩
theorem Uc:∀a b:List UInt8,Op.bytesLess a b=false→a≠b→Op.bytesLess b a=true
 |[],[],_,h=>absurd rfl h
 |[],_::_,h,_=>by simp[Op.bytesLess]at h
 |_::_,[],_,_=>by simp[Op.bytesLess]
 |a::x,b::y,h,hn=>by
  simp only[Op.bytesLess,Bool.or_eq_false_iff,decide_eq_false_iff_not,Bool.and_eq_false_iff,beq_eq_false_iff_ne]at h
  simp only[Op.bytesLess,Bool.or_eq_true,decide_eq_true_eq,Bool.and_eq_true,beq_iff_eq]
  by_cases e:a=b
  ·subst e
   right
   refine⟨rfl,Uc x y (h.2.resolve_left fun h=>h rfl) fun e=>hn (by rw[e])⟩
  ·left
   exact(UInt8.lt_or_lt_of_ne e).resolve_left h.1
theorem Xde(a b:ByteArray):(!(ltB a b))=(ltB b a||decide (b=a)):=by
 unfold ltB
 cases h:Op.bytesLess a.toList b.toList with
 |true=>
  rw[Mn _ _ h]
  have:¬b=a:=by
   rintro rfl
   have:=Mn _ _ h
   rw[h]at this
   cases this
  rw[decide_eq_false this];rfl
 |false=>
  by_cases e:b=a
  ·rw[decide_eq_true e,Bool.or_true];rfl
  ·rw[Uc _ _ h fun e2=>e (Qn e2.symm),decide_eq_false e];rfl
def G6(d:Aa)(l:List Ad):Bool:=Bx d l
def Ke(a b:List Ad):Bool:=P9 a b
def Ck(l:List Ad)(name:ByteArray):List Ad:=l.filter fun x=>!decide (x.name_=name)
def P3(e:Ad):List Ad→Bool→List Ad
 |[],done=>if done=true then[]else[e]
 |x::l,done=>(if done=false∧ltB x.name_ e.name_=false then[e]else[])++((if x.name_=e.name_ then[]else[x])++P3 e l (done|| !(ltB x.name_ e.name_)))
def Cl(l:List Ad)(e:Ad):List Ad:=P3 e l false
theorem G1{e x:Ad}{l:List Ad}{i:Nat}{b:Bool}{w:List Ad}{r:List Ad}(hi:i<l.length)(hx:x=l[i])(h:w++P3 e (l.drop i) b=r):
  w++((if b=false∧ltB x.name_ e.name_=false then[e]else[])++((if x.name_=e.name_ then[]else[x])++P3 e (l.drop (i+1)) (b|| !(ltB x.name_ e.name_))))=r:=by
 rw[List.drop_eq_getElem_cons hi,←hx]at h
 exact h
variable {Ak:List Cs} {Bj Be Bd Bf xl xo:List (List D)} {Al An l:List Ad} {Am:List ByteArray} {Aq As:Int} {o:Bool}
theorem Xeq{o:Int}(Ay:Ak.map B5=Bj)(Av:Al.map Ae=Be)(A3:An.map Ae=Bd)(A5:Am.map cS=Bf)(hd:okD ⟨Ak,Al,An,Am,Aq,As⟩)(hr:Ho (⟨Ak,Al,An,Am,Aq,As⟩:Aa)=o):Fn Tryz.prog 225 [.agg [.d (.row 3 Bj),.d (.row 2 Be),.d (.row 2 Bd),.d (.row 1 Bf),I Aq,I As]] [] ⟨I o,[],[]⟩:=by
 refine Fn.go Jh Tryz.func225 fun P hP Q hQ=>?_
 conv=>cbv
 refine LoopW.lp (κ:=Int×Int) Jh hP [] [1] (fun(i3,i4)=>[(3,I i3),(4,I i4)]) (fun(i3,i4)=>[])
  (fun(i3,i4)=>0≤i4∧i4≤Ak.length∧i3=H0 (fun n:Cs=>(n.text_.size:Int)) (Ak.take i4.toNat)∧0≤i3∧i3≤1000000000*i4)
  (fun(i3,i4)=>(Ak.length - i4).toNat) (0,0) ⟨by omega,by omega,rfl,by omega,by omega⟩ ⟨rfl,rfl,trivial⟩ rfl ?_
 rintro⟨i3,i4⟩ J ⟨h0,h1,hx,hx0,hx1⟩ hJ
 have ag:Ak.length≤1000000000:=hd.1
 have ac:∀n∈Ak,n.text_.size≤1000000000:=hd.2.1
 conv=>cbv
 refine .go Ay fun v1 ah=>?_
 conv=>cbv
 refine .lss (fun h2=>?_) fun h2=>?_
 conv=>cbv
 refine .go i4.toNat Ay fun aa ⟨af,ad,ae⟩ ab=>?_
 conv=>cbv
 have hz:=ac _ (List.getElem_mem aa)
 rw[←ab]at hz
 simp only[]at hz
 refine .go fun v4 ai=>?_
 conv=>cbv
 refine .add fun v5 aj=>?_
 conv=>cbv
 refine .add fun v6 ak=>?_
 conv=>cbv
 exact .go [] (v5,v6) (hJ _ ⟨by omega,by omega,by rw[show v6.toNat=i4.toNat+1 by omega,Dl aa,←hx,←ab];simp only[];omega,by omega,by omega⟩ mlt)
 conv=>cbv
 have e:i3=Ho (⟨Ak,Al,An,Am,Aq,As⟩:Aa):=(by unfold Ho;rw[hx,List.take_of_length_le (by omega)])
 rw[hr]at e
 subst e
 exact hQ _ _ (.i rfl rfl)
theorem Ms:Setup Tryz.prog ((3000004,Fe Tryz.prog 3000004)::U6):=(Setup.mark 3000004 Jh)
theorem Xaz{list:List Ad}{xlist:List (List D)}(Ay:Ak.map B5=Bj)(Av:Al.map Ae=Be)(A3:An.map Ae=Bd)(A5:Am.map cS=Bf)(hlist:list.map Ae=xlist)(hd:okD ⟨Ak,Al,An,Am,Aq,As⟩)(hl:okL list)(hln:list.length≤1000000000)(hr:G6 (⟨Ak,Al,An,Am,Aq,As⟩:Aa) list=o):Fn Tryz.prog 262 [.agg [.d (.row 3 Bj),.d (.row 2 Be),.d (.row 2 Bd),.d (.row 1 Bf),I Aq,I As],.d (.row 2 xlist)] [] ⟨B o,[],[]⟩:=by
 refine Fn.go Ms Tryz.func262 fun P hP Q hQ=>?_
 conv=>cbv
 refine LoopW.lp (κ:=Int) Ms hP [] [1,2] (fun i5=>[(5,I i5)]) (fun i5=>[])
  (fun i5=>0≤i5∧i5≤list.length∧∀j:Nat,j<i5.toNat→I0 (⟨Ak,Al,An,Am,Aq,As⟩:Aa) list j=true)
  (fun i5=>(list.length - i5).toNat) (0) ⟨by omega,by omega,fun j h=>by simp at h⟩ ⟨rfl,trivial⟩ rfl ?_
 rintro i5 J ⟨h0,h1,hb⟩ hJ
 conv=>cbv
 refine .go hlist fun v1 a2=>?_
 conv=>cbv
 refine .lss (fun h2=>?_) fun h2=>?_
 conv=>cbv
 refine .go i5.toNat hlist fun aa ⟨ab,am⟩ aj=>?_
 conv=>cbv
 have hnd:=Xhm aa aj
 have hzn:ab.size≤1000000000:=by have:=hl _ (List.getElem_mem aa);rw[←aj]at this;exact this
 generalize ag:Bo ab=r4
 refine .dd hP (Ks (by omega) ag) ?_
 cases r4
 conv=>cbv
 refine .go2 (by kernel_rfl) ?_
 conv=>cbv
 have e:false=G6 (⟨Ak,Al,An,Am,Aq,As⟩:Aa) list:=(by exact XcT (d:=(⟨Ak,Al,An,Am,Aq,As⟩:Aa)) aa (by unfold I0;rw[hnd];simp only[];rw[ag,Bool.and_false];rfl))
 rw[hr]at e
 subst e
 exact hQ _ _ (.b rfl rfl)
 conv=>cbv
 refine .go i5.toNat hlist fun az ⟨ae,ac⟩ an=>?_
 conv=>cbv
 generalize ao:G4 (⟨Ak,Al,An,Am,Aq,As⟩:Aa) ac=r6
 refine .dd hP (Qv Ay Av A3 A5 (by have:=hd.1;simp only[]at this;omega) ao) ?_
 conv=>cbv
 obtain⟨rfl,rfl⟩:ae=ab∧ac=am:=by have:=an.trans aj.symm;rw[Ad.mk.injEq]at this;exact this
 have af:Jv (⟨Ak,Al,An,Am,Aq,As⟩:Aa) ac=r6:=ao
 refine .lss (fun h7=>?_) fun h7=>?_
 conv=>cbv
 refine .go2 (by kernel_rfl) ?_
 conv=>cbv
 have e:false=G6 (⟨Ak,Al,An,Am,Aq,As⟩:Aa) list:=(by exact XcT (d:=(⟨Ak,Al,An,Am,Aq,As⟩:Aa)) aa (by unfold I0;rw[hnd];simp only[];rw[af,decide_eq_false (show¬0≤r6 by omega),Bool.and_false]))
 rw[hr]at e
 subst e
 exact hQ _ _ (.b rfl rfl)
 conv=>cbv
 refine .gtr (fun h8=>?_) fun h8=>?_
 conv=>cbv
 refine .sub fun v9 ar=>?_
 conv=>cbv
 refine .go v9.toNat hlist fun ak ⟨ah,au⟩ ap=>?_
 conv=>cbv
 refine .go i5.toNat hlist fun aw ⟨ad,al⟩ aq=>?_
 conv=>cbv
 obtain⟨rfl,rfl⟩:ad=ae∧al=ac:=by have:=aq.trans an.symm;rw[Ad.mk.injEq]at this;exact this
 have hpd:=Xhm ak ap
 rw[show v9.toNat=i5.toNat - 1 by omega]at hpd
 have hgq:=(Xde ah ad).symm
 refine .geq fun ax ai=>?_
 conv=>cbv
 refine .go2 (by kernel_rfl) ?_
 conv=>cbv
 cases ax
 conv=>cbv
 refine .add fun ay a1=>?_
 conv=>cbv
 exact .go [] (ay) (hJ _ ⟨by omega,by omega,fun j h=>if e:j=i5.toNat then by subst e;unfold I0;rw[hnd,hpd];simp only[];rw[hgq,←ai,ag,af,decide_eq_true (show 0≤r6 by omega),decide_eq_false (show¬i5.toNat=0 by omega)];rfl else hb j (by omega)⟩ mlt)
 conv=>cbv
 have e:false=G6 (⟨Ak,Al,An,Am,Aq,As⟩:Aa) list:=(by exact XcT (d:=(⟨Ak,Al,An,Am,Aq,As⟩:Aa)) aa (by unfold I0;rw[hnd];simp only[];rw[hpd];simp only[];rw[hgq,←ai,decide_eq_false (show¬i5.toNat=0 by omega)];rfl))
 rw[hr]at e
 subst e
 exact hQ _ _ (.b rfl rfl)
 conv=>cbv
 refine .go2 (by kernel_rfl) ?_
 conv=>cbv
 refine .add fun v9 ar=>?_
 conv=>cbv
 exact .go [] (v9) (hJ _ ⟨by omega,by omega,fun j h=>if e:j=i5.toNat then by subst e;unfold I0;rw[hnd];simp only[];rw[ag,af,decide_eq_true (show 0≤r6 by omega),decide_eq_true (show i5.toNat=0 by omega)];rfl else hb j (by omega)⟩ mlt)
 conv=>cbv
 refine .go hlist fun v3 a6=>?_
 conv=>cbv
 refine .leq (fun h4=>?_) fun h4=>?_
 conv=>cbv
 have e:true=G6 (⟨Ak,Al,An,Am,Aq,As⟩:Aa) list:=(by exact Xed (l:=list) (fun j hj=>hb j (by omega)) (by symm;rw[decide_eq_true_eq];omega))
 rw[hr]at e
 subst e
 exact hQ _ _ (.b rfl rfl)
 conv=>cbv
 have e:false=G6 (⟨Ak,Al,An,Am,Aq,As⟩:Aa) list:=(by exact Xed (l:=list) (fun j hj=>hb j (by omega)) (by symm;rw[decide_eq_false_iff_not];omega))
 rw[hr]at e
 subst e
 exact hQ _ _ (.b rfl rfl)
theorem XfU{a:List Ad}{xa:List (List D)}{b:List Ad}{xb:List (List D)}(ha:a.map Ae=xa)(hb:b.map Ae=xb)(ai:a.length<2^40)(hr:Ke a b=o):Fn Tryz.prog 263 [.d (.row 2 xa),.d (.row 2 xb)] [] ⟨B o,[],[]⟩:=by
 refine Fn.go Jh Tryz.func263 fun P hP Q hQ=>?_
 conv=>cbv
 refine .go ha fun v1 aj=>?_
 conv=>cbv
 refine .go hb fun v2 ak=>?_
 conv=>cbv
 refine .neq (fun h3=>?_) fun h3=>?_
 conv=>cbv
 have e:false=Ke a b:=(by unfold Ke P9;symm;rw[decide_eq_false_iff_not];intro h;subst h;omega)
 rw[hr]at e
 subst e
 exact hQ _ _ (.b rfl rfl)
 conv=>cbv
 refine LoopW.lp (κ:=Int) Jh hP [] [0,1] (fun i5=>[(5,I i5)]) (fun i5=>[])
  (fun i5=>0≤i5∧i5≤a.length∧∀(j:Nat) (p:j<a.length) (q:j<b.length),j<i5.toNat→a[j]=b[j])
  (fun i5=>(a.length - i5).toNat) (0) ⟨by omega,by omega,fun j p q h=>by simp at h⟩ ⟨rfl,trivial⟩ rfl ?_
 rintro i5 J ⟨h0,h1,hs⟩ hJ
 conv=>cbv
 refine .go ha fun v4 al=>?_
 conv=>cbv
 refine .lss (fun h5=>?_) fun h5=>?_
 conv=>cbv
 refine .go i5.toNat ha fun ae ⟨ac,af⟩ aa=>?_
 conv=>cbv
 refine .go i5.toNat hb fun ag ⟨ad,ah⟩ ab=>?_
 conv=>cbv
 refine .eSI (fun h8=>?_) fun h8=>?_
 conv=>cbv
 refine .add fun v9 am=>?_
 conv=>cbv
 exact .go [] (v9) (hJ _ ⟨by omega,by omega,fun j p q h=>if e:j=i5.toNat then by subst e;rw[←aa,←ab,Ad.mk.injEq];exact h8 else hs j p q (by omega)⟩ mlt)
 conv=>cbv
 have e:false=Ke a b:=(by unfold Ke P9;symm;rw[decide_eq_false_iff_not];intro h;subst h;have:=aa.trans ab.symm;rw[Ad.mk.injEq]at this;exact h8 this)
 rw[hr]at e
 subst e
 exact hQ _ _ (.b rfl rfl)
 conv=>cbv
 have e:true=Ke a b:=(by unfold Ke P9;symm;rw[decide_eq_true_eq];exact List.ext_getElem (show a.length=b.length by omega) fun j p q=>hs j p q (by omega))
 rw[hr]at e
 subst e
 exact hQ _ _ (.b rfl rfl)
theorem Qy{name:ByteArray}{o:List Ad}(hl:l.map Ae=xl)(hn:l.length≤4000000000)(hr:Ck l name=o)(ho:o.map Ae=xo):Fn Tryz.prog 266 [.d (.row 2 xl),S name] [] ⟨.d (.row 2 xo),[],[]⟩:=by
 refine Fn.go Jh Tryz.func266 fun P hP Q hQ=>?_
 conv=>cbv
 refine LoopW.lp (κ:=Int×(List (List D))×Nat) Jh hP [1] [0,1] (fun(i6,aa,ab)=>[(5,.ref 2 0 ab),(6,I i6)]) (fun(i6,aa,ab)=>[(2,.row 2 false aa)])
  (fun(i6,aa,ab)=>∃(w2:List Ad),w2.map Ae=aa∧ab=w2.length∧0≤i6∧i6≤l.length∧w2=(l.take i6.toNat).filter (fun x=>!decide (x.name_=name))∧w2.length≤i6)
  (fun(i6,aa,ab)=>(l.length - i6).toNat) (0,[],0) ⟨[],rfl,rfl,by omega,by omega,rfl,by simp⟩ ⟨rfl,rfl,trivial⟩ rfl ?_
 rintro⟨i6,aa,ab⟩ J ⟨w2,ac,al,h0,h1,hx,hxl⟩ hJ
 conv=>cbv
 refine .go hl fun v1 ap=>?_
 conv=>cbv
 refine .lss (fun h2=>?_) fun h2=>?_
 conv=>cbv
 refine .go i6.toNat hl fun ad ⟨ah,am⟩ ae=>?_
 conv=>cbv
 refine .neq (fun h4=>?_) fun h4=>?_
 conv=>cbv
 refine .go i6.toNat hl fun an ⟨af,ag⟩ ai=>?_
 conv=>cbv
 refine .one (⟨af,ag⟩:Ad) ac rfl fun aj z6 ao ak=>?_
 conv=>cbv
 refine .add fun v7 aq=>?_
 conv=>cbv
 exact .go [4] (v7,z6,aj) (hJ _ ⟨_,ak,D4,by omega,by omega,by rw[show v7.toNat=i6.toNat+1 by omega,G8 ad,←hx,←ae];simp only[];rw[decide_eq_false h4,ai,←ae];rfl,by rw[List.length_append,List.length_singleton];omega⟩ mlt)
 conv=>cbv
 refine .add fun v5 ar=>?_
 conv=>cbv
 exact .go [2] (v5,aa,ab) (hJ _ ⟨_,ac,D4,by omega,by omega,by rw[show v5.toNat=i6.toNat+1 by omega,G8 ad,←hx,←ae];simp only[];rw[decide_eq_true h4];simp,by omega⟩ mlt)
 conv=>cbv
 have e:w2=Ck l name:=(by unfold Ck;rw[hx,List.take_of_length_le (by omega)])
 rw[hr]at e
 subst e
 exact hQ _ _ (.r rfl rfl (by rw[←ac,List.length_map];first|omega|(simp;omega)) (by rw[←ac,←ho]))
theorem Kn{enam:ByteArray}{eid:Int}{o:List Ad}(hl:l.map Ae=xl)(hn:l.length≤4000000000)(hr:Cl l (⟨enam,eid⟩:Ad)=o)(ho:o.map Ae=xo):Fn Tryz.prog 267 [.d (.row 2 xl),.agg [S enam,I eid]] [] ⟨.d (.row 2 xo),[],[]⟩:=by
 refine Fn.go Jh Tryz.func267 fun P hP Q hQ=>?_
 conv=>cbv
 refine LoopW.lp (κ:=Bool×Int×(List (List D))×Nat) Jh hP [2] [0,3] (fun(b6,i7,ad,ae)=>[(5,.ref 3 0 ae),(6,B b6),(7,I i7)]) (fun(b6,i7,ad,ae)=>[(3,.row 2 false ad)])
  (fun(b6,i7,ad,ae)=>∃(w3:List Ad),w3.map Ae=ad∧ae=w3.length∧0≤i7∧i7≤l.length∧w3++P3 (⟨enam,eid⟩:Ad) (l.drop i7.toNat) b6=Cl l (⟨enam,eid⟩:Ad)∧w3.length≤2*i7)
  (fun(b6,i7,ad,ae)=>(l.length - i7).toNat) (false,0,[],0) ⟨[],rfl,rfl,by omega,by omega,rfl,by simp⟩ ⟨rfl,rfl,rfl,trivial⟩ rfl ?_
 rintro⟨b6,i7,ad,ae⟩ J ⟨w3,af,be,h0,h1,hx,hxl⟩ hJ
 conv=>cbv
 refine .go hl fun v1 bo=>?_
 conv=>cbv
 refine .lss (fun h2=>?_) fun h2=>?_
 conv=>cbv
 cases b6
 conv=>cbv
 refine .go i7.toNat hl fun aq ⟨ac,ak⟩ ab=>?_
 conv=>cbv
 refine .geq fun b4 al=>?_
 conv=>cbv
 cases b4
 conv=>cbv
 refine .go i7.toNat hl fun ar ⟨aa,ag⟩ am=>?_
 conv=>cbv
 obtain⟨rfl,rfl⟩:aa=ac∧ag=ak:=by have:=am.trans ab.symm;rw[Ad.mk.injEq]at this;exact this
 refine .neq (fun h6=>?_) fun h6=>?_
 conv=>cbv
 refine .go i7.toNat hl fun bf ⟨ah,an⟩ az=>?_
 conv=>cbv
 obtain⟨rfl,rfl⟩:ah=aa∧an=ag:=by have:=az.trans am.symm;rw[Ad.mk.injEq]at this;exact this
 refine .one (⟨ah,an⟩:Ad) af rfl fun a1 z8 bg a2=>?_
 conv=>cbv
 refine .add fun v9 bp=>?_
 conv=>cbv
 have hlt:ltB ah enam=true:=by simpa using al
 have hps:=G1 (show i7.toNat<l.length by omega) ab hx
 simp only[]at hps
 rw[hlt,if_neg (by simp),if_neg h6,List.nil_append,←List.append_assoc]at hps
 exact .go [5] (false,v9,z8,a1) (hJ _ ⟨_,a2,D4,by omega,by omega,by rw[show v9.toNat=i7.toNat+1 by omega];exact hps,by first|omega|(simp;omega)⟩ mlt)
 conv=>cbv
 refine .add fun v7 a6=>?_
 conv=>cbv
 have hlt:ltB aa enam=true:=by simpa using al
 have hps:=G1 (show i7.toNat<l.length by omega) ab hx
 simp only[]at hps
 rw[hlt,if_neg (by simp),if_pos h6,List.nil_append,List.nil_append]at hps
 exact .go [3] (false,v7,ad,ae) (hJ _ ⟨_,af,D4,by omega,by omega,by rw[show v7.toNat=i7.toNat+1 by omega];exact hps,by first|omega|(simp;omega)⟩ mlt)
 conv=>cbv
 refine .one (⟨enam,eid⟩:Ad) af rfl fun a7 z5 bh au=>?_
 conv=>cbv
 refine .go i7.toNat hl fun bi ⟨ai,ao⟩ aw=>?_
 conv=>cbv
 obtain⟨rfl,rfl⟩:ai=ac∧ao=ak:=by have:=aw.trans ab.symm;rw[Ad.mk.injEq]at this;exact this
 refine .neq (fun h7=>?_) fun h7=>?_
 conv=>cbv
 refine .go i7.toNat hl fun bj ⟨aj,ap⟩ a8=>?_
 conv=>cbv
 obtain⟨rfl,rfl⟩:aj=ai∧ap=ao:=by have:=a8.trans aw.symm;rw[Ad.mk.injEq]at this;exact this
 refine .one (⟨aj,ap⟩:Ad) au rfl fun ba z9 bk bb=>?_
 conv=>cbv
 refine .add fun ax bl=>?_
 conv=>cbv
 have hlt:ltB aj enam=false:=by simpa using al
 have hps:=G1 (show i7.toNat<l.length by omega) ab hx
 simp only[]at hps
 rw[hlt,if_pos (by simp),if_neg h7,←List.append_assoc,←List.append_assoc]at hps
 exact .go [7] (true,ax,z9,ba) (hJ _ ⟨_,bb,D4,by omega,by omega,by rw[show ax.toNat=i7.toNat+1 by omega];exact hps,by first|omega|(simp;omega)⟩ mlt)
 conv=>cbv
 refine .add fun v8 bq=>?_
 conv=>cbv
 have hlt:ltB ai enam=false:=by simpa using al
 have hps:=G1 (show i7.toNat<l.length by omega) ab hx
 simp only[]at hps
 rw[hlt,if_pos (by simp),if_pos h7,List.nil_append,←List.append_assoc]at hps
 exact .go [5] (true,v8,z5,a7) (hJ _ ⟨_,au,D4,by omega,by omega,by rw[show v8.toNat=i7.toNat+1 by omega];exact hps,by first|omega|(simp;omega)⟩ mlt)
 conv=>cbv
 refine .go i7.toNat hl fun aq ⟨ac,ak⟩ ab=>?_
 conv=>cbv
 refine .neq (fun h4=>?_) fun h4=>?_
 conv=>cbv
 refine .go i7.toNat hl fun ar ⟨aa,ag⟩ am=>?_
 conv=>cbv
 obtain⟨rfl,rfl⟩:aa=ac∧ag=ak:=by have:=am.trans ab.symm;rw[Ad.mk.injEq]at this;exact this
 refine .one (⟨aa,ag⟩:Ad) af rfl fun bc z6 bm bd=>?_
 conv=>cbv
 refine .add fun v7 a6=>?_
 conv=>cbv
 have hps:=G1 (show i7.toNat<l.length by omega) ab hx
 simp only[]at hps
 rw[if_neg (by simp),if_neg h4,List.nil_append,←List.append_assoc]at hps
 exact .go [5] (true,v7,z6,bc) (hJ _ ⟨_,bd,D4,by omega,by omega,by rw[show v7.toNat=i7.toNat+1 by omega];exact hps,by first|omega|(simp;omega)⟩ mlt)
 conv=>cbv
 refine .add fun v5 bt=>?_
 conv=>cbv
 have hps:=G1 (show i7.toNat<l.length by omega) ab hx
 simp only[]at hps
 rw[if_neg (by simp),if_pos h4,List.nil_append,List.nil_append]at hps
 exact .go [3] (true,v5,ad,ae) (hJ _ ⟨_,af,D4,by omega,by omega,by rw[show v5.toNat=i7.toNat+1 by omega];exact hps,by first|omega|(simp;omega)⟩ mlt)
 conv=>cbv
 cases b6
 conv=>cbv
 refine .one (⟨enam,eid⟩:Ad) af rfl fun bu z3 bn ay=>?_
 conv=>cbv
 have e:(w3++[(⟨enam,eid⟩:Ad)])=Cl l (⟨enam,eid⟩:Ad):=(by rw[List.drop_of_length_le (by omega)]at hx;exact hx)
 rw[hr]at e
 subst e
 exact hQ _ _ (.r rfl rfl (by rw[←ay,List.length_map];first|omega|(simp;omega)) (by rw[←ay,←ho]))
 conv=>cbv
 have e:w3=Cl l (⟨enam,eid⟩:Ad):=(by rw[List.drop_of_length_le (by omega)]at hx;simpa[P3]using hx)
 rw[hr]at e
 subst e
 exact hQ _ _ (.r rfl rfl (by rw[←af,List.length_map];first|omega|(simp;omega)) (by rw[←af,←ho]))
end
section
open Go Go.Proofs
set_option maxRecDepth 20000
set_option maxHeartbeats 4000000
theorem diskOk_iff{d:Aa}:B6 d=true↔(0≤d.room_∧d.room_≤1000000000)∧(1≤d.next_∧d.next_≤1000000000)∧J9 d=true∧Ho d≤d.room_∧Hl d d.old_ d.steps_=true:=by
 unfold B6 Bl Cq
 simp only[Bool.and_eq_true,decide_eq_true_eq,and_assoc]
theorem Gi{d:Aa}(h:¬B6 d=true):false=B6 d:=by
 symm
 rw[Bool.eq_false_iff]
 exact h
theorem XeL{d:Aa}{now:List Ad}{l:List ByteArray}(h:Bx d now=false):Hl d now l=false:=by
 cases l with
 |nil=>unfold Hl;rw[h];rfl
 |cons=>unfold Hl;rw[h];rfl
def Mh:List Ad→List ByteArray→List Ad×Bool
 |now,[]=>(now,true)
 |now,s::ss=>if(A8 now s).2=false then([],false)else Mh (A8 now s).1 ss
end
section
open Go Go.Proofs
set_option maxRecDepth 20000
set_option maxHeartbeats 4000000
def Up:List (Nat×TyRow):=[ty3,ty5,ty9]
theorem XbM:B3 Tryz.prog Up:=B3.of (by kernel_rfl)
theorem Xi8:Setup Tryz.prog Up:=⟨XbM,mixed⟩
theorem L5{a b:ByteArray}(h:a.data.toList=b.data.toList):a=b:=ByteArray.ext (Array.toList_inj.1 h)
theorem C7(s:ByteArray)(a b:Nat):(s.extract a b).data.toList=(s.data.toList.take b).drop a:=by
 rw[ByteArray.data_extract,Array.toList_extract,List.extract_eq_take_drop,List.drop_take]
theorem Np{c:UInt8}:∀(l:List UInt8) (k:Nat),l[k]? =some c→(∀j,j<k→∀x,l[j]? =some x→x≠c)→Lib.indexByte l c=k
 |[],k,h,_=>by simp at h
 |b::l,0,h,_=>by
  simp at h
  simp[Lib.indexByte,h]
 |b::l,k+1,h,hb=>by
  have h0:=hb 0 (by omega) b rfl
  have ih:=Np l k (by simpa using h) (fun j hj x hx=>hb (j+1) (by omega) x (by simpa using hx))
  unfold Lib.indexByte
  rw[if_neg (by simpa using h0),ih,if_neg (by simp)]
  omega
theorem Sr{c:UInt8}:∀(l:List UInt8),(∀(j:Nat) x,l[j]? =some x→x≠c)→Lib.indexByte l c= -1
 |[],_=>rfl
 |b::l,hb=>by
  have h0:=hb 0 b rfl
  have ih:=Sr l (fun j x hx=>hb (j+1) x (by simpa using hx))
  unfold Lib.indexByte
  rw[if_neg (by simpa using h0),ih,if_pos (by rfl)]
theorem u8_58{x:UInt8}:x≠58↔x.toNat≠58:=⟨fun h e=>h (UInt8.toNat_inj.1 e),fun h e=>h (by rw[e];rfl)⟩
theorem XdF{s:ByteArray}{j:Nat}{x:UInt8}(h:(s.extract 1 s.size).data.toList[j]? =some x):∃hj:j+1<s.size,s[j+1]=x:=by
 rw[C7,List.getElem?_drop,List.take_of_length_le (by rw[Array.length_toList];exact Nat.le_refl _)]at h
 have hl:1+j<s.size:=by
  have:=(List.getElem?_eq_some_iff.1 h).1
  rwa[Array.length_toList]at this
 refine⟨by omega,?_⟩
 rw[show 1+j=j+1 by omega,L8 (show j+1<s.size by omega)]at h
 exact Option.some.inj h
theorem Si{s:ByteArray}{i:Nat}(h1:1≤i)(hi:i<s.size)(h:(s[i]).toNat=58)(hb:∀j,1≤j→j<i→∀hj:j<s.size,(s[j]).toNat≠58):Nu (s.extract 1 s.size)=(s.extract 1 i,s.extract (i+1) s.size,true):=by
 obtain⟨k,rfl⟩:∃k,i=k+1:=⟨i - 1,by omega⟩
 have hsz:(s.extract 1 s.size).size=s.size - 1:=by rw[ByteArray.size_extract];omega
 have e:L6 (s.extract 1 s.size)=(k:Int):=by
  refine Np _ k ?_ ?_
  ·rw[C7,List.getElem?_drop,List.take_of_length_le (by rw[Array.length_toList];exact Nat.le_refl _),show 1+k=k+1 by omega,L8 hi]
   exact congrArg some (UInt8.toNat_inj.1 h)
  ·intro j hj x hx
   obtain⟨aa,rfl⟩:=XdF hx
   exact u8_58.2 (hb (j+1) (by omega) (by omega) aa)
 unfold Nu
 rw[e,if_pos (by omega),Int.toNat_natCast,hsz]
 have a1:(s.extract 1 s.size).extract 0 k=s.extract 1 (k+1):=by
  apply L5
  rw[C7,C7,C7,List.drop_zero,List.take_of_length_le (l:=s.data.toList) (by rw[Array.length_toList];exact Nat.le_refl _),List.drop_take,Nat.add_sub_cancel]
 have a2:(s.extract 1 s.size).extract (k+1) (s.size - 1)=s.extract (k+1+1) s.size:=by
  apply L5
  rw[C7,C7,C7,List.take_of_length_le (l:=s.data.toList) (by rw[Array.length_toList];exact Nat.le_refl _),List.take_of_length_le (by rw[List.length_drop,Array.length_toList];exact Nat.le_refl _),List.drop_drop]
  congr 1
  omega
 rw[a1,a2]
theorem Xie{s:ByteArray}(hb:∀j,1≤j→∀hj:j<s.size,(s[j]).toNat≠58):(Nu (s.extract 1 s.size)).2.2=false:=by
 have e:L6 (s.extract 1 s.size)= -1:=by
  refine Sr _ ?_
  intro j x hx
  obtain⟨aa,rfl⟩:=XdF hx
  exact u8_58.2 (hb (j+1) (by omega) aa)
 unfold Nu
 rw[e,if_neg (by omega)]
def Bi(s:ByteArray):ByteArray×ByteArray×Int×Bool:=
 if s.size<2∨(s.data.toList.head?≠some 43∧s.data.toList.head?≠some 45∧s.data.toList.head?≠some 62)then(tx [],tx [],0,false)
 else if s.data.toList.head?=some 45 then(s.extract 1 s.size,tx [],0,true)
 else if(Nu (s.extract 1 s.size)).2.2=false then(tx [],tx [],0,false)
 else if s.data.toList.head?=some 62 then((Nu (s.extract 1 s.size)).1,(Nu (s.extract 1 s.size)).2.1,0,Bo (Nu (s.extract 1 s.size)).2.1&& !decide ((Nu (s.extract 1 s.size)).1=(Nu (s.extract 1 s.size)).2.1))
 else((Nu (s.extract 1 s.size)).1,tx [],(Bg (Nu (s.extract 1 s.size)).2.1).1,(Bg (Nu (s.extract 1 s.size)).2.1).2&&Bo (Nu (s.extract 1 s.size)).1)
theorem I1{s:ByteArray}{v:Int}{n:Nat}(h0:0<s.size)(hv:v=((s[0]).toNat:Int))(h:v≠(n:Int))(hn:n<256):s.data.toList.head?≠some (UInt8.ofNat n):=by
 rw[Tj h0]
 intro e
 exact u8_ne hv h hn (Option.some.inj e)
theorem H7{s:ByteArray}{v:Int}{n:Nat}(h0:0<s.size)(hv:v=((s[0]).toNat:Int))(h:v=(n:Int))(hn:n<256):s.data.toList.head?=some (UInt8.ofNat n):=(Tj h0).trans (congrArg some (u8_eq hv h hn))
section
variable {s a b:ByteArray}
theorem Wt(h:s.size<2∨(s.data.toList.head?≠some 43∧s.data.toList.head?≠some 45∧s.data.toList.head?≠some 62)):(tx [],tx [],0,false)=Bi s:=by unfold Bi;rw[if_pos h]
theorem XaS(h2:2≤s.size)(h:s.data.toList.head?=some 45):(s.extract 1 s.size,tx [],0,true)=Bi s:=by
 unfold Bi
 rw[if_neg (by rw[h];rintro(h|h);omega;exact h.2.1 rfl),if_pos h]
theorem Zr(h2:2≤s.size)(hh:s.data.toList.head?=some 43∨s.data.toList.head?=some 45∨s.data.toList.head?=some 62)(h45:s.data.toList.head?≠some 45)(hc:(Nu (s.extract 1 s.size)).2.2=false):(tx [],tx [],0,false)=Bi s:=by
 unfold Bi
 rw[if_neg (by rintro(h|⟨k1,k2,k3⟩);omega;rcases hh with h|h|h;exact k1 h;exact k2 h;exact k3 h),if_neg h45,if_pos hc]
theorem Tw(h2:2≤s.size)(h:s.data.toList.head?=some 62)(hc:Nu (s.extract 1 s.size)=(a,b,true)):Bi s=(a,b,0,Bo b&& !decide (a=b)):=by
 unfold Bi
 rw[if_neg (by rw[h];rintro(h|h);omega;exact h.2.2 rfl),if_neg (by rw[h];decide),hc,if_neg (by simp),if_pos h]
theorem Te(h2:2≤s.size)(h:s.data.toList.head?=some 43)(hc:Nu (s.extract 1 s.size)=(a,b,true)):Bi s=(a,tx [],(Bg b).1,(Bg b).2&&Bo a):=by
 unfold Bi
 rw[if_neg (by rw[h];rintro(h|h);omega;exact h.1 rfl),if_neg (by rw[h];decide),hc,if_neg (by simp),if_neg (by rw[h];decide)]
end
theorem Me:Setup Tryz.prog ((3000009,Fe Tryz.prog 3000009)::((3000012,Fe Tryz.prog 3000012)::((1000026,Fe Tryz.prog 1000026)::Up))):=(Setup.mark 3000009 (Setup.mark 3000012 (Setup.mark 1000026 Xi8)))
theorem Xbt{step:ByteArray}{oa:ByteArray}{ob:ByteArray}{oc:Int}{od:Bool}(hs:step.size≤1000000000)(hr:Bi step=(oa,ob,oc,od)):Fn Tryz.prog 264 [S step] [] ⟨.tup [S oa,S ob,I oc,B od],[],[]⟩:=by
 refine Fn.go Me Tryz.func264 fun P hP Q hQ=>?_
 conv=>cbv
 refine JoinW.jn (κ:=Unit) Me hP [] [0] (fun()=>[]) (fun()=>[])
  (fun()=>2≤step.size∧(step.data.toList.head?=some 43∨step.data.toList.head?=some 45∨step.data.toList.head?=some 62)) (fun Jj hJj=>?_) ?_
 conv=>cbv
 refine .go fun v1 an=>?_
 conv=>cbv
 refine .lss (fun h2=>?_) fun h2=>?_
 conv=>cbv
 have e:((tx []),(tx []),0,false)=Bi step:=(by exact Wt (.inl (by omega)))
 rw[hr]at e
 simp only[Prod.mk.injEq]at e
 obtain⟨rfl,rfl,rfl,rfl⟩:=e
 refine hQ _ _ ?_
 exact .many (.inl rfl) rfl rfl (.d rfl rfl (.d rfl rfl (.d rfl rfl (.d rfl rfl (.nil)))))
 conv=>cbv
 refine .go 0 fun hjv3 v3 aw bv3=>?_
 conv=>cbv
 refine .neq (fun h4=>?_) fun h4=>?_
 conv=>cbv
 refine .go 0 fun hjv5 v5 ax bv5=>?_
 conv=>cbv
 refine .neq (fun h6=>?_) fun h6=>?_
 conv=>cbv
 refine .go 0 fun hjv7 v7 ac bv7=>?_
 conv=>cbv
 refine .neq (fun h8=>?_) fun h8=>?_
 conv=>cbv
 have e:((tx []),(tx []),0,false)=Bi step:=(by exact Wt (.inr ⟨(I1 (n:=43) (show 0<step.size by omega) aw (by omega) (by decide)),(I1 (n:=45) (show 0<step.size by omega) ax (by omega) (by decide)),(I1 (n:=62) (show 0<step.size by omega) ac (by omega) (by decide))⟩))
 rw[hr]at e
 simp only[Prod.mk.injEq]at e
 obtain⟨rfl,rfl,rfl,rfl⟩:=e
 refine hQ _ _ ?_
 exact .many (.inl rfl) rfl rfl (.d rfl rfl (.d rfl rfl (.d rfl rfl (.d rfl rfl (.nil)))))
 conv=>cbv
 exact .go [] (()) (hJj _ ⟨by omega,.inr (.inr (H7 (n:=62) (show 0<step.size by omega) ac (by omega) (by decide)))⟩)
 conv=>cbv
 exact .go [] (()) (hJj _ ⟨by omega,.inr (.inl (H7 (n:=45) (show 0<step.size by omega) ax (by omega) (by decide)))⟩)
 conv=>cbv
 exact .go [] (()) (hJj _ ⟨by omega,.inl (H7 (n:=43) (show 0<step.size by omega) aw (by omega) (by decide))⟩)
 rintro⟨⟩ ⟨ag,hh0⟩
 conv=>cbv
 refine .go 0 fun hjv1 v1 an bv1=>?_
 conv=>cbv
 refine .eql (fun h2=>?_) fun h2=>?_
 conv=>cbv
 refine .lo fun s3 bj=>?_
 conv=>cbv
 have e:(s3,(tx []),0,true)=Bi step:=(by rw[bj];exact XaS ag (H7 (n:=45) (show 0<step.size by omega) an (by omega) (by decide)))
 rw[hr]at e
 simp only[Prod.mk.injEq]at e
 obtain⟨rfl,rfl,rfl,rfl⟩:=e
 refine hQ _ _ ?_
 exact .many (.inl rfl) rfl rfl (.d rfl rfl (.d rfl rfl (.d rfl rfl (.d rfl rfl (.nil)))))
 conv=>cbv
 refine LoopW.lp (κ:=Int) Me hP [] [0] (fun i6=>[(6,I i6)]) (fun i6=>[])
  (fun i6=>1≤i6∧i6≤step.size∧∀j,1≤j→j<i6.toNat→∀hj:j<step.size,(step[j]).toNat≠58)
  (fun i6=>(step.size - i6).toNat) (1) ⟨by omega,by omega,fun j h1 h2=>by omega⟩ ⟨rfl,trivial⟩ rfl ?_
 rintro i6 J1 ⟨h0,h1,hb⟩ bk
 conv=>cbv
 refine .go fun v3 aw=>?_
 conv=>cbv
 refine .lss (fun h4=>?_) fun h4=>?_
 conv=>cbv
 refine .go i6.toNat fun hjv5 v5 ax bv5=>?_
 conv=>cbv
 refine .eql (fun h6=>?_) fun h6=>?_
 conv=>cbv
 refine .go 0 fun hjv7 v7 ac bv7=>?_
 conv=>cbv
 refine .eql (fun h8=>?_) fun h8=>?_
 conv=>cbv
 refine .lohi fun s9 ay=>?_
 conv=>cbv
 refine .add fun az bm=>?_
 conv=>cbv
 refine .lo fun a1 ao=>?_
 conv=>cbv
 refine .add fun a2 bn=>?_
 conv=>cbv
 refine .lo fun ah ad=>?_
 conv=>cbv
 have bb:ah.size≤step.size:=by rw[ad,ByteArray.size_extract];omega
 generalize aa:Bo ah=a6
 refine .dd hP (Ks (by omega) aa) ?_
 cases a6
 conv=>cbv
 refine .go2 (by kernel_rfl) ?_
 conv=>cbv
 have e:(s9,a1,0,false)=Bi step:=(by have hm:=Tw ag (H7 (n:=62) (show 0<step.size by omega) ac (by omega) (by decide)) (Si (s:=step) (i:=i6.toNat) (by omega) (by omega) (by omega) hb);have ai:ah=step.extract (i6.toNat+1) step.size:=(by rw[ad,show a2.toNat=i6.toNat+1 by omega]);rw[ai]at aa;rw[hm,ay,ao,aa,show az.toNat=i6.toNat+1 by omega];rfl)
 rw[hr]at e
 simp only[Prod.mk.injEq]at e
 obtain⟨rfl,rfl,rfl,rfl⟩:=e
 refine hQ _ _ ?_
 exact .many (.inl rfl) rfl rfl (.d rfl rfl (.d rfl rfl (.d rfl rfl (.d rfl rfl (.nil)))))
 conv=>cbv
 refine .lohi fun a7 ae=>?_
 conv=>cbv
 refine .add fun bc bo=>?_
 conv=>cbv
 refine .lo fun bv au=>?_
 conv=>cbv
 refine .neq (fun h18=>?_) fun h18=>?_
 conv=>cbv
 refine .go2 (by kernel_rfl) ?_
 conv=>cbv
 have e:(s9,a1,0,true)=Bi step:=(by have hm:=Tw ag (H7 (n:=62) (show 0<step.size by omega) ac (by omega) (by decide)) (Si (s:=step) (i:=i6.toNat) (by omega) (by omega) (by omega) hb);have ai:ah=step.extract (i6.toNat+1) step.size:=(by rw[ad,show a2.toNat=i6.toNat+1 by omega]);rw[ai]at aa;rw[hm,ay,ao,aa,show az.toNat=i6.toNat+1 by omega,decide_eq_false (show¬step.extract 1 i6.toNat=step.extract (i6.toNat+1) step.size from fun e=>h18 (by rw[ae,au,show bc.toNat=i6.toNat+1 by omega];exact e))];rfl)
 rw[hr]at e
 simp only[Prod.mk.injEq]at e
 obtain⟨rfl,rfl,rfl,rfl⟩:=e
 refine hQ _ _ ?_
 exact .many (.inl rfl) rfl rfl (.d rfl rfl (.d rfl rfl (.d rfl rfl (.d rfl rfl (.nil)))))
 conv=>cbv
 refine .go2 (by kernel_rfl) ?_
 conv=>cbv
 have e:(s9,a1,0,false)=Bi step:=(by have hm:=Tw ag (H7 (n:=62) (show 0<step.size by omega) ac (by omega) (by decide)) (Si (s:=step) (i:=i6.toNat) (by omega) (by omega) (by omega) hb);have ai:ah=step.extract (i6.toNat+1) step.size:=(by rw[ad,show a2.toNat=i6.toNat+1 by omega]);rw[ai]at aa;rw[hm,ay,ao,aa,show az.toNat=i6.toNat+1 by omega,decide_eq_true (show step.extract 1 i6.toNat=step.extract (i6.toNat+1) step.size from by rw[ae,au,show bc.toNat=i6.toNat+1 by omega]at h18;exact h18)];rfl)
 rw[hr]at e
 simp only[Prod.mk.injEq]at e
 obtain⟨rfl,rfl,rfl,rfl⟩:=e
 refine hQ _ _ ?_
 exact .many (.inl rfl) rfl rfl (.d rfl rfl (.d rfl rfl (.d rfl rfl (.d rfl rfl (.nil)))))
 conv=>cbv
 refine .go i6.toNat fun hjv9 v9 bd bv9=>?_
 conv=>cbv
 refine .eql (fun h10=>?_) fun h10=>?_
 conv=>cbv
 refine .add fun a8 bp=>?_
 conv=>cbv
 refine .lo fun af aj=>?_
 conv=>cbv
 have bq:af.size≤step.size:=by rw[aj,ByteArray.size_extract];omega
 rcases ab:Bg af with⟨ap,be⟩
 refine .dd hP (Pw (by omega) ab) ?_
 conv=>cbv
 refine .lohi fun ba aq=>?_
 conv=>cbv
 cases be
 conv=>cbv
 refine .go2 (by kernel_rfl) ?_
 conv=>cbv
 have e:(ba,(tx []),ap,false)=Bi step:=(by have hm:=Te ag (hh0.elim id fun h=>h.elim (fun h=>absurd h (I1 (n:=45) (show 0<step.size by omega) an (by omega) (by decide))) fun h=>absurd h (I1 (n:=62) (show 0<step.size by omega) ac (by omega) (by decide))) (Si (s:=step) (i:=i6.toNat) (by omega) (by omega) (by omega) hb);have ak:af=step.extract (i6.toNat+1) step.size:=(by rw[aj,show a8.toNat=i6.toNat+1 by omega]);rw[ak]at ab;rw[hm,aq,ab];rfl)
 rw[hr]at e
 simp only[Prod.mk.injEq]at e
 obtain⟨rfl,rfl,rfl,rfl⟩:=e
 refine hQ _ _ ?_
 exact .many (.inl rfl) rfl rfl (.d rfl rfl (.d rfl rfl (.d rfl rfl (.d rfl rfl (.nil)))))
 conv=>cbv
 refine .lohi fun a7 ae=>?_
 conv=>cbv
 have bt:a7.size≤step.size:=by rw[ae,ByteArray.size_extract];omega
 generalize al:Bo a7=bl
 refine .dd hP (Ks (by omega) al) ?_
 cases bl
 conv=>cbv
 refine .go2 (by kernel_rfl) ?_
 conv=>cbv
 have e:(ba,(tx []),ap,false)=Bi step:=(by have hm:=Te ag (hh0.elim id fun h=>h.elim (fun h=>absurd h (I1 (n:=45) (show 0<step.size by omega) an (by omega) (by decide))) fun h=>absurd h (I1 (n:=62) (show 0<step.size by omega) ac (by omega) (by decide))) (Si (s:=step) (i:=i6.toNat) (by omega) (by omega) (by omega) hb);have ak:af=step.extract (i6.toNat+1) step.size:=(by rw[aj,show a8.toNat=i6.toNat+1 by omega]);rw[ak]at ab;rw[ae]at al;have am:=(show Bo (step.extract 1 i6.toNat)=_ from al);rw[hm,aq,ab,am];rfl)
 rw[hr]at e
 simp only[Prod.mk.injEq]at e
 obtain⟨rfl,rfl,rfl,rfl⟩:=e
 refine hQ _ _ ?_
 exact .many (.inl rfl) rfl rfl (.d rfl rfl (.d rfl rfl (.d rfl rfl (.d rfl rfl (.nil)))))
 conv=>cbv
 refine .go2 (by kernel_rfl) ?_
 conv=>cbv
 have e:(ba,(tx []),ap,true)=Bi step:=(by have hm:=Te ag (hh0.elim id fun h=>h.elim (fun h=>absurd h (I1 (n:=45) (show 0<step.size by omega) an (by omega) (by decide))) fun h=>absurd h (I1 (n:=62) (show 0<step.size by omega) ac (by omega) (by decide))) (Si (s:=step) (i:=i6.toNat) (by omega) (by omega) (by omega) hb);have ak:af=step.extract (i6.toNat+1) step.size:=(by rw[aj,show a8.toNat=i6.toNat+1 by omega]);rw[ak]at ab;rw[ae]at al;have am:=(show Bo (step.extract 1 i6.toNat)=_ from al);rw[hm,aq,ab,am];rfl)
 rw[hr]at e
 simp only[Prod.mk.injEq]at e
 obtain⟨rfl,rfl,rfl,rfl⟩:=e
 refine hQ _ _ ?_
 exact .many (.inl rfl) rfl rfl (.d rfl rfl (.d rfl rfl (.d rfl rfl (.d rfl rfl (.nil)))))
 exfalso;omega
 conv=>cbv
 refine .go i6.toNat fun hjv7 v7 ac bv7=>?_
 conv=>cbv
 refine .eql (fun h8=>?_) fun h8=>?_
 conv=>cbv
 refine .add fun v9 bd=>?_
 conv=>cbv
 refine .lo fun bf bg=>?_
 conv=>cbv
 have bu:bf.size≤step.size:=by rw[bg,ByteArray.size_extract];omega
 rcases bh:Bg bf with⟨ar,bi⟩
 refine .dd hP (Pw (by omega) bh) ?_
 conv=>cbv
 refine .lohi fun af aj=>?_
 conv=>cbv
 cases bi
 conv=>cbv
 refine .go2 (by kernel_rfl) ?_
 conv=>cbv
 have e:(af,(tx []),ar,false)=Bi step:=(by exfalso;omega)
 rw[hr]at e
 simp only[Prod.mk.injEq]at e
 obtain⟨rfl,rfl,rfl,rfl⟩:=e
 refine hQ _ _ ?_
 exact .many (.inl rfl) rfl rfl (.d rfl rfl (.d rfl rfl (.d rfl rfl (.d rfl rfl (.nil)))))
 conv=>cbv
 refine .lohi fun ah ad=>?_
 conv=>cbv
 have bb:ah.size≤step.size:=by rw[ad,ByteArray.size_extract];omega
 generalize aa:Bo ah=a6
 refine .dd hP (Ks (by omega) aa) ?_
 cases a6
 conv=>cbv
 refine .go2 (by kernel_rfl) ?_
 conv=>cbv
 have e:(af,(tx []),ar,false)=Bi step:=(by exfalso;omega)
 rw[hr]at e
 simp only[Prod.mk.injEq]at e
 obtain⟨rfl,rfl,rfl,rfl⟩:=e
 refine hQ _ _ ?_
 exact .many (.inl rfl) rfl rfl (.d rfl rfl (.d rfl rfl (.d rfl rfl (.d rfl rfl (.nil)))))
 conv=>cbv
 refine .go2 (by kernel_rfl) ?_
 conv=>cbv
 have e:(af,(tx []),ar,true)=Bi step:=(by exfalso;omega)
 rw[hr]at e
 simp only[Prod.mk.injEq]at e
 obtain⟨rfl,rfl,rfl,rfl⟩:=e
 refine hQ _ _ ?_
 exact .many (.inl rfl) rfl rfl (.d rfl rfl (.d rfl rfl (.d rfl rfl (.d rfl rfl (.nil)))))
 conv=>cbv
 refine .add fun v9 bd=>?_
 conv=>cbv
 exact .go [] (v9) (bk _ ⟨by omega,by omega,fun j k1 k2 hj=>if e:j=i6.toNat then by subst e;omega else hb j k1 (by omega) hj⟩ mlt)
 conv=>cbv
 have e:((tx []),(tx []),0,false)=Bi step:=(by exact Zr ag hh0 (I1 (n:=45) (show 0<step.size by omega) an (by omega) (by decide)) (Xie fun j k1 hj=>hb j k1 (by omega) hj))
 rw[hr]at e
 simp only[Prod.mk.injEq]at e
 obtain⟨rfl,rfl,rfl,rfl⟩:=e
 refine hQ _ _ ?_
 exact .many (.inl rfl) rfl rfl (.d rfl rfl (.d rfl rfl (.d rfl rfl (.d rfl rfl (.nil)))))
end
section
open Go Go.Proofs
set_option maxRecDepth 20000
set_option maxHeartbeats 4000000
def XaO:List (Nat×TyRow):=[ty3,ty5,ty9,XhS,Zy,Z9]
theorem Xbu:B3 Tryz.prog XaO:=B3.of (by kernel_rfl)
theorem XdX:Setup Tryz.prog XaO:=⟨Xbu,mixed⟩
def Di(l:List Ad)(s:ByteArray):List Ad×Bool:=
 if(Bi s).2.2.2=false∨Bo (Bi s).1=false∨(s.data.toList.head?≠some 43∧Dr l (Bi s).1=false)then([],false)
 else if s.data.toList.head?=some 43 then(Cl l ⟨(Bi s).1,(Bi s).2.2.1⟩,true)
 else if s.data.toList.head?=some 62 then(Cl (Ck l (Bi s).1) ⟨(Bi s).2.1,Co l (Bi s).1⟩,true)
 else(Ck l (Bi s).1,true)
def Cb:List Ad→List ByteArray→List Ad×Bool
 |now,[]=>(now,true)
 |now,s::ss=>if(Di now s).2=false then([],false)else Cb (Di now s).1 ss
def Cm(old:List Ad)(steps:List ByteArray)(n:Int):List Ad×Bool:=Cb old (steps.take (Ff n 0 steps.length).toNat)
theorem Xaf{s a b:ByteArray}{c:Int}{d:Bool}(e:Bi s=(a,b,c,d)):(a.size≤s.size∧b.size≤s.size)∧(d=true→2≤s.size∧(s.data.toList.head?=some 43∨s.data.toList.head?=some 45∨s.data.toList.head?=some 62)):=by
 have hz:(s.extract 1 s.size).size≤s.size:=by rw[ByteArray.size_extract];omega
 obtain⟨x,y,z,hc⟩:∃x y z,Nu (s.extract 1 s.size)=(x,y,z):=⟨_,_,_,rfl⟩
 have hcb:=Xjh hc
 have h0:(tx []).size≤s.size:=by rw[A4];exact Nat.zero_le _
 unfold Bi at e
 rw[hc]at e
 by_cases h1:s.size<2∨(s.data.toList.head?≠some 43∧s.data.toList.head?≠some 45∧s.data.toList.head?≠some 62)
 ·rw[if_pos h1]at e
  simp only[Prod.mk.injEq]at e
  obtain⟨rfl,rfl,rfl,rfl⟩:=e
  exact⟨⟨h0,h0⟩,fun h=>by cases h⟩
 ·rw[if_neg h1]at e
  have hd:2≤s.size∧(s.data.toList.head?=some 43∨s.data.toList.head?=some 45∨s.data.toList.head?=some 62):=by
   refine⟨by omega,?_⟩
   by_cases k1:s.data.toList.head?=some 43
   ·exact .inl k1
   ·by_cases k2:s.data.toList.head?=some 45
    ·exact .inr (.inl k2)
    ·by_cases k3:s.data.toList.head?=some 62
     ·exact .inr (.inr k3)
     ·exact absurd (.inr ⟨k1,k2,k3⟩) h1
  refine⟨?_,fun _=>hd⟩
  split at e
  ·simp only[Prod.mk.injEq]at e
   obtain⟨rfl,rfl,_⟩:=e
   exact⟨hz,h0⟩
  ·split at e
   ·simp only[Prod.mk.injEq]at e
    obtain⟨rfl,rfl,_⟩:=e
    exact⟨h0,h0⟩
   ·split at e
    ·simp only[Prod.mk.injEq]at e
     obtain⟨rfl,rfl,_⟩:=e
     exact⟨by omega,by omega⟩
    ·simp only[Prod.mk.injEq]at e
     obtain⟨rfl,rfl,_⟩:=e
     exact⟨by omega,h0⟩
theorem Xak(e:Ad):∀(l:List Ad) (b:Bool),(P3 e l b).length≤l.length+(if b=true then 0 else 1)
 |[],b=>by cases b<;>simp[P3]
 |x::l,b=>by
  have ih:=Xak e l (b|| !(ltB x.name_ e.name_))
  unfold P3
  rw[List.length_append,List.length_append,List.length_cons]
  cases b<;>cases h:ltB x.name_ e.name_<;>simp only[h,Bool.not_true,Bool.not_false,Bool.or_true,Bool.or_false,Bool.true_or,if_true,Bool.false_eq_true,if_false,true_and,false_and,reduceCtorEq]at ih⊢<;>split<;>simp<;>omega
theorem C1{l o:List Ad}{e:Ad}(h:Cl l e=o):o.length≤l.length+1:=by
 rw[←h]
 exact Xak e l false
theorem Fd{l o:List Ad}{n:ByteArray}(h:Ck l n=o):o.length≤l.length:=by
 rw[←h]
 exact List.length_filter_le _ _
theorem Xkq{s:ByteArray}{n:Nat}(h:0<s.size)(e:s.data.toList.head?=some (UInt8.ofNat n))(hn:n<256):(s[0]).toNat=n:=by
 rw[Tj h]at e
 rw[Option.some.inj e,UInt8.toNat_ofNat',Nat.mod_eq_of_lt (by omega)]
section
variable {l:List Ad} {s a b:ByteArray} {c:Int} {d:Bool}
theorem Dt(e:Bi s=(a,b,c,d))(h:d=false∨Bo a=false∨(s.data.toList.head?≠some 43∧Dr l a=false)):Di l s=([],false):=by
 unfold Di
 rw[e,if_pos h]
theorem Rv(e:Bi s=(a,b,c,true))(hn:Bo a=true)(h:s.data.toList.head?=some 43):Di l s=(Cl l ⟨a,c⟩,true):=by
 unfold Di
 rw[e,if_neg (by rw[hn,h];simp),if_pos h]
theorem Sf(e:Bi s=(a,b,c,true))(hn:Bo a=true)(hh:Dr l a=true)(h:s.data.toList.head?=some 62):Di l s=(Cl (Ck l a) ⟨b,Co l a⟩,true):=by
 unfold Di
 rw[e,if_neg (by rw[hn,hh];simp),if_neg (by rw[h];decide),if_pos h]
theorem Pl(e:Bi s=(a,b,c,true))(hn:Bo a=true)(hh:Dr l a=true)(h:s.data.toList.head?=some 45):Di l s=(Ck l a,true):=by
 unfold Di
 rw[e,if_neg (by rw[hn,hh];simp),if_neg (by rw[h];decide),if_neg (by rw[h];decide)]
end
theorem XcK{old:List Ad}{xold:List (List D)}{steps:List ByteArray}{xsteps:List (List D)}{n:Int}{oa:List Ad}{xoa:List (List D)}{ob:Bool}(hold:old.map Ae=xold)(hsteps:steps.map cS=xsteps)(hol:old.length≤1000000000)(hsl:steps.length≤1000000000)(hss:okS steps)(hr:Cm old steps n=(oa,ob))(hoa:oa.map Ae=xoa):Fn Tryz.prog 212 [.d (.row 2 xold),.d (.row 1 xsteps),I n] [] ⟨.tup [.d (.row 2 xoa),B ob],[],[]⟩:=by
 refine Fn.go XdX Tryz.func212 fun P hP Q hQ=>?_
 conv=>cbv
 refine .row0 hold fun di z1 da bz=>?_
 conv=>cbv
 refine .go hsteps fun v2 cq=>?_
 conv=>cbv
 generalize bu:Ff n 0 v2=r3
 refine .dd hP (Xai bu) ?_
 conv=>cbv
 have hbr:0≤r3∧r3≤steps.length:=by rw[←bu];unfold Ff;split<;>(try split)<;>omega
 refine .frz 2 [8] rfl rfl (by rw[←bz,List.length_map];first|omega|(simp;omega)) ?_
 refine LoopW.lp (κ:=(List (List D))×Int) XdX hP [] [1,2] (fun(aj,i9)=>[(8,.d (.row 2 aj)),(9,I i9)]) (fun(aj,i9)=>[])
  (fun(aj,i9)=>∃(u8:List Ad),u8.map Ae=aj∧0≤i9∧i9≤r3∧Cm old steps n=Cb u8 ((steps.take r3.toNat).drop i9.toNat)∧u8.length≤old.length+i9)
  (fun(aj,i9)=>(r3 - i9).toNat) (z1,0) ⟨old,bz,by omega,by omega,by unfold Cm;rw[←cq,bu];rfl,by omega⟩ ⟨rfl,rfl,trivial⟩ rfl ?_
 rintro⟨aj,i9⟩ J ⟨u8,ab,h0,h1,hio,hun⟩ hJ
 conv=>cbv
 refine .lss (fun h4=>?_) fun h4=>?_
 conv=>cbv
 refine .go i9.toNat hsteps fun b0 e5 aa=>?_
 conv=>cbv
 have dj:e5.size≤1000000000:=aa▸hss _ (List.getElem_mem b0)
 have hdc:(steps.take r3.toNat).drop i9.toNat=e5::(steps.take r3.toNat).drop (i9.toNat+1):=by rw[List.drop_eq_getElem_cons (by rw[List.length_take];omega),List.getElem_take,←aa]
 rw[hdc]at hio
 rcases am:Bi e5 with⟨ag,bk,bl,cr⟩
 refine .dd hP (Xbt (by omega) am) ?_
 conv=>cbv
 have hlf:=Xaf am
 cases cr
 conv=>cbv
 have e:([],false)=Cm old steps n:=(by rw[hio];show _=(if(Di u8 e5).2=false then _ else _);rw[Dt am (.inl rfl)];rfl)
 rw[hr]at e
 simp only[Prod.mk.injEq]at e
 obtain⟨rfl,rfl⟩:=e
 refine hQ _ _ ?_
 exact .many (.inl rfl) rfl rfl (.ref rfl rfl (by rw[←hoa];rfl) (.d rfl rfl (.nil)))
 conv=>cbv
 obtain⟨h2z,hh0⟩:=hlf.2 rfl
 have h00:0<e5.size:=by omega
 have hh1:(e5[0]).toNat=43∨(e5[0]).toNat=45∨(e5[0]).toNat=62:=hh0.imp (fun h=>Xkq h00 h (by decide)) fun h=>h.imp (fun h=>Xkq h00 h (by decide)) fun h=>Xkq h00 h (by decide)
 generalize az:Bo ag=r7
 refine .dd hP (Ks (by omega) az) ?_
 cases r7
 conv=>cbv
 have e:([],false)=Cm old steps n:=(by rw[hio];show _=(if(Di u8 e5).2=false then _ else _);rw[Dt am (.inr (.inl az))];rfl)
 rw[hr]at e
 simp only[Prod.mk.injEq]at e
 obtain⟨rfl,rfl⟩:=e
 refine hQ _ _ ?_
 exact .many (.inl rfl) rfl rfl (.ref rfl rfl (by rw[←hoa];rfl) (.d rfl rfl (.nil)))
 conv=>cbv
 refine .go i9.toNat hsteps fun db e8 ct=>?_
 conv=>cbv
 obtain rfl:e5=e8:=aa.trans ct.symm
 refine .go 0 fun hjv9 v9 b2 bv9=>?_
 conv=>cbv
 refine .neq (fun h10=>?_) fun h10=>?_
 conv=>cbv
 generalize aw:Dr u8 ag=cu
 refine .dd hP (Kv ab (by omega) aw) ?_
 cases cu
 conv=>cbv
 have e:([],false)=Cm old steps n:=(by rw[hio];show _=(if(Di u8 e5).2=false then _ else _);rw[Dt am (.inr (.inr ⟨(I1 (n:=43) h00 b2 (by omega) (by decide)),aw⟩))];rfl)
 rw[hr]at e
 simp only[Prod.mk.injEq]at e
 obtain⟨rfl,rfl⟩:=e
 refine hQ _ _ ?_
 exact .many (.inl rfl) rfl rfl (.ref rfl rfl (by rw[←hoa];rfl) (.d rfl rfl (.nil)))
 conv=>cbv
 refine .go i9.toNat hsteps fun cv cw b3=>?_
 conv=>cbv
 obtain rfl:e5=cw:=aa.trans b3.symm
 refine .go 0 fun hjv13 dk b4 bv13=>?_
 conv=>cbv
 refine .eql (fun h14=>?_) fun h14=>?_
 conv=>cbv
 generalize bn:Co u8 ag=b5
 refine .dd hP (Ix ab (by omega) bn) ?_
 conv=>cbv
 refine .go i9.toNat hsteps fun cx cy b6=>?_
 conv=>cbv
 obtain rfl:e5=cy:=aa.trans b6.symm
 refine .go 0 fun hjv17 dl dc bv17=>?_
 conv=>cbv
 refine .neq (fun h18=>?_) fun h18=>?_
 conv=>cbv
 generalize a1:Ck u8 ag=b7
 have hln19:=Fd a1
 generalize a2:b7.map Ae=b8
 refine .dd hP (Qy ab (by omega) a1 a2) ?_
 conv=>cbv
 refine .go i9.toNat hsteps fun cz c0 b9=>?_
 conv=>cbv
 obtain rfl:e5=c0:=aa.trans b9.symm
 refine .go 0 fun hjv21 al ax bv21=>?_
 conv=>cbv
 refine .neq (fun h22=>?_) fun h22=>?_
 conv=>cbv
 generalize a6:Cl b7 (⟨bk,b5⟩:Ad)=c1
 have hln23:=C1 a6
 generalize bo:c1.map Ae=ca
 refine .dd hP (Kn a2 (by omega) a6 bo) ?_
 conv=>cbv
 refine .add fun cc de=>?_
 conv=>cbv
 exact .go [] (ca,cc) (hJ _ ⟨_,bo,by omega,by omega,by rw[hio,show cc.toNat=i9.toNat+1 by omega];show(if(Di u8 e5).2=false then _ else _)=_;rw[Sf am az aw (H7 (n:=62) h00 b4 (by omega) (by decide)),a1,bn,a6];rfl,by omega⟩ mlt)
 conv=>cbv
 refine .add fun au a7=>?_
 conv=>cbv
 exact .go [] (b8,au) (hJ _ ⟨_,a2,by omega,by omega,by exfalso;omega,by exfalso;omega⟩ mlt)
 conv=>cbv
 refine .go i9.toNat hsteps fun a8 ba an=>?_
 conv=>cbv
 obtain rfl:e5=ba:=aa.trans an.symm
 refine .go 0 fun hjv20 bm ay bv20=>?_
 conv=>cbv
 refine .neq (fun h21=>?_) fun h21=>?_
 conv=>cbv
 generalize ac:Cl u8 (⟨ag,b5⟩:Ad)=bb
 have hln22:=C1 ac
 generalize ad:bb.map Ae=ao
 refine .dd hP (Kn ab (by omega) ac ad) ?_
 conv=>cbv
 refine .add fun au a7=>?_
 conv=>cbv
 exact .go [] (ao,au) (hJ _ ⟨_,ad,by omega,by omega,by exfalso;omega,by exfalso;omega⟩ mlt)
 conv=>cbv
 refine .add fun ah ap=>?_
 conv=>cbv
 exact .go [] (aj,ah) (hJ _ ⟨_,ab,by omega,by omega,by exfalso;omega,by exfalso;omega⟩ mlt)
 conv=>cbv
 refine .go i9.toNat hsteps fun bv bw bc=>?_
 conv=>cbv
 obtain rfl:e5=bw:=aa.trans bc.symm
 refine .go 0 fun hjv16 c2 cd bv16=>?_
 conv=>cbv
 refine .neq (fun h17=>?_) fun h17=>?_
 conv=>cbv
 generalize ak:Ck u8 ag=bd
 have hln18:=Fd ak
 generalize ai:bd.map Ae=be
 refine .dd hP (Qy ab (by omega) ak ai) ?_
 conv=>cbv
 refine .go i9.toNat hsteps fun a8 ba an=>?_
 conv=>cbv
 obtain rfl:e5=ba:=aa.trans an.symm
 refine .go 0 fun hjv20 bm ay bv20=>?_
 conv=>cbv
 refine .neq (fun h21=>?_) fun h21=>?_
 conv=>cbv
 generalize ac:Cl bd (⟨bk,bl⟩:Ad)=bb
 have hln22:=C1 ac
 generalize ad:bb.map Ae=ao
 refine .dd hP (Kn ai (by omega) ac ad) ?_
 conv=>cbv
 refine .add fun au a7=>?_
 conv=>cbv
 exact .go [] (ao,au) (hJ _ ⟨_,ad,by omega,by omega,by exfalso;omega,by exfalso;omega⟩ mlt)
 conv=>cbv
 refine .add fun ah ap=>?_
 conv=>cbv
 exact .go [] (be,ah) (hJ _ ⟨_,ai,by omega,by omega,by rw[hio,show ah.toNat=i9.toNat+1 by omega];show(if(Di u8 e5).2=false then _ else _)=_;rw[Pl am az aw (H7 (n:=45) h00 ay (by omega) (by decide)),ak];rfl,by omega⟩ mlt)
 conv=>cbv
 refine .go i9.toNat hsteps fun bf bg aq=>?_
 conv=>cbv
 obtain rfl:e5=bg:=aa.trans aq.symm
 refine .go 0 fun hjv19 ce bp bv19=>?_
 conv=>cbv
 refine .neq (fun h20=>?_) fun h20=>?_
 conv=>cbv
 generalize ae:Cl u8 (⟨ag,bl⟩:Ad)=bh
 have hln21:=C1 ae
 generalize af:bh.map Ae=ar
 refine .dd hP (Kn ab (by omega) ae af) ?_
 conv=>cbv
 refine .add fun ah ap=>?_
 conv=>cbv
 exact .go [] (ar,ah) (hJ _ ⟨_,af,by omega,by omega,by exfalso;omega,by exfalso;omega⟩ mlt)
 conv=>cbv
 refine .add fun al ax=>?_
 conv=>cbv
 exact .go [] (aj,al) (hJ _ ⟨_,ab,by omega,by omega,by exfalso;omega,by exfalso;omega⟩ mlt)
 conv=>cbv
 refine .go i9.toNat hsteps fun c3 c4 cf=>?_
 conv=>cbv
 obtain rfl:e5=c4:=aa.trans cf.symm
 refine .go 0 fun hjv12 dm df bv12=>?_
 conv=>cbv
 refine .eql (fun h13=>?_) fun h13=>?_
 conv=>cbv
 generalize cg:Co u8 ag=cj
 refine .dd hP (Ix ab (by omega) cg) ?_
 conv=>cbv
 refine .go i9.toNat hsteps fun bv bw bc=>?_
 conv=>cbv
 obtain rfl:e5=bw:=aa.trans bc.symm
 refine .go 0 fun hjv16 c2 cd bv16=>?_
 conv=>cbv
 refine .neq (fun h17=>?_) fun h17=>?_
 conv=>cbv
 generalize ak:Ck u8 ag=bd
 have hln18:=Fd ak
 generalize ai:bd.map Ae=be
 refine .dd hP (Qy ab (by omega) ak ai) ?_
 conv=>cbv
 refine .go i9.toNat hsteps fun a8 ba an=>?_
 conv=>cbv
 obtain rfl:e5=ba:=aa.trans an.symm
 refine .go 0 fun hjv20 bm ay bv20=>?_
 conv=>cbv
 refine .neq (fun h21=>?_) fun h21=>?_
 conv=>cbv
 generalize ac:Cl bd (⟨bk,cj⟩:Ad)=bb
 have hln22:=C1 ac
 generalize ad:bb.map Ae=ao
 refine .dd hP (Kn ai (by omega) ac ad) ?_
 conv=>cbv
 refine .add fun au a7=>?_
 conv=>cbv
 exact .go [] (ao,au) (hJ _ ⟨_,ad,by omega,by omega,by exfalso;omega,by exfalso;omega⟩ mlt)
 conv=>cbv
 refine .add fun ah ap=>?_
 conv=>cbv
 exact .go [] (be,ah) (hJ _ ⟨_,ai,by omega,by omega,by exfalso;omega,by exfalso;omega⟩ mlt)
 conv=>cbv
 refine .go i9.toNat hsteps fun bf bg aq=>?_
 conv=>cbv
 obtain rfl:e5=bg:=aa.trans aq.symm
 refine .go 0 fun hjv19 ce bp bv19=>?_
 conv=>cbv
 refine .neq (fun h20=>?_) fun h20=>?_
 conv=>cbv
 generalize ae:Cl u8 (⟨ag,cj⟩:Ad)=bh
 have hln21:=C1 ae
 generalize af:bh.map Ae=ar
 refine .dd hP (Kn ab (by omega) ae af) ?_
 conv=>cbv
 refine .add fun ah ap=>?_
 conv=>cbv
 exact .go [] (ar,ah) (hJ _ ⟨_,af,by omega,by omega,by exfalso;omega,by exfalso;omega⟩ mlt)
 conv=>cbv
 refine .add fun al ax=>?_
 conv=>cbv
 exact .go [] (aj,al) (hJ _ ⟨_,ab,by omega,by omega,by exfalso;omega,by exfalso;omega⟩ mlt)
 conv=>cbv
 refine .go i9.toNat hsteps fun c5 c6 ck=>?_
 conv=>cbv
 obtain rfl:e5=c6:=aa.trans ck.symm
 refine .go 0 fun hjv15 dn dg bv15=>?_
 conv=>cbv
 refine .neq (fun h16=>?_) fun h16=>?_
 conv=>cbv
 generalize bq:Ck u8 ag=cm
 have hln17:=Fd bq
 generalize bi:cm.map Ae=cn
 refine .dd hP (Qy ab (by omega) bq bi) ?_
 conv=>cbv
 refine .go i9.toNat hsteps fun bf bg aq=>?_
 conv=>cbv
 obtain rfl:e5=bg:=aa.trans aq.symm
 refine .go 0 fun hjv19 ce bp bv19=>?_
 conv=>cbv
 refine .neq (fun h20=>?_) fun h20=>?_
 conv=>cbv
 generalize ae:Cl cm (⟨bk,bl⟩:Ad)=bh
 have hln21:=C1 ae
 generalize af:bh.map Ae=ar
 refine .dd hP (Kn bi (by omega) ae af) ?_
 conv=>cbv
 refine .add fun ah ap=>?_
 conv=>cbv
 exact .go [] (ar,ah) (hJ _ ⟨_,af,by omega,by omega,by exfalso;omega,by exfalso;omega⟩ mlt)
 conv=>cbv
 refine .add fun al ax=>?_
 conv=>cbv
 exact .go [] (cn,al) (hJ _ ⟨_,bi,by omega,by omega,by exfalso;omega,by exfalso;omega⟩ mlt)
 conv=>cbv
 refine .go i9.toNat hsteps fun c7 c8 co=>?_
 conv=>cbv
 obtain rfl:e5=c8:=aa.trans co.symm
 refine .go 0 fun hjv18 dp dh bv18=>?_
 conv=>cbv
 refine .neq (fun h19=>?_) fun h19=>?_
 conv=>cbv
 generalize bj:Cl u8 (⟨ag,bl⟩:Ad)=c9
 have hln20:=C1 bj
 generalize bt:c9.map Ae=cp
 refine .dd hP (Kn ab (by omega) bj bt) ?_
 conv=>cbv
 refine .add fun al ax=>?_
 conv=>cbv
 exact .go [] (cp,al) (hJ _ ⟨_,bt,by omega,by omega,by rw[hio,show al.toNat=i9.toNat+1 by omega];show(if(Di u8 e5).2=false then _ else _)=_;rw[Rv am az (H7 (n:=43) h00 b2 (by omega) (by decide)),bj];rfl,by omega⟩ mlt)
 conv=>cbv
 refine .add fun bm ay=>?_
 conv=>cbv
 exact .go [] (aj,bm) (hJ _ ⟨_,ab,by omega,by omega,by exfalso;omega,by exfalso;omega⟩ mlt)
 conv=>cbv
 have e:(u8,true)=Cm old steps n:=(by rw[hio,List.drop_of_length_le (by rw[List.length_take];omega)];rfl)
 rw[hr]at e
 simp only[Prod.mk.injEq]at e
 obtain⟨rfl,rfl⟩:=e
 refine hQ _ _ ?_
 exact .many (.inl rfl) rfl rfl (.d rfl (Xgn ab hoa) (.d rfl rfl (.nil)))
end
section
open Go Go.Proofs
set_option maxRecDepth 20000
set_option maxHeartbeats 4000000
def Ud:List (Nat×TyRow):=[ty3,ty9,XjO,XhS,Zy,Xb9,Xfc]
theorem Xaa:B3 Tryz.prog Ud:=B3.of (by kernel_rfl)
theorem Xh8:Setup Tryz.prog Ud:=⟨Xaa,mixed⟩
theorem Xb3(a:List UInt8):Op.bytesLess a a=false:=by
 cases h:Op.bytesLess a a with
 |false=>rfl
 |true=>have:=Mn a a h;rw[h]at this;cases this
theorem T9:∀a b c:List UInt8,Op.bytesLess a b=true→Op.bytesLess b c=true→Op.bytesLess a c=true
 |_,[],_,h,_=>by simp[Op.bytesLess]at h
 |_,_::_,[],_,h=>by simp[Op.bytesLess]at h
 |[],_::_,_::_,_,_=>by simp[Op.bytesLess]
 |a::x,b::y,c::z,h1,h2=>by
  simp only[Op.bytesLess,Bool.or_eq_true,decide_eq_true_eq,Bool.and_eq_true,beq_iff_eq]at h1 h2⊢
  rcases h1 with h1|⟨rfl,h1⟩
  ·rcases h2 with h2|⟨rfl,h2⟩
   ·exact .inl (UInt8.lt_trans h1 h2)
   ·exact .inl h1
  ·rcases h2 with h2|⟨rfl,h2⟩
   ·exact .inl h2
   ·exact .inr ⟨rfl,T9 x y z h1 h2⟩
theorem X0(a:ByteArray):ltB a a=false:=Xb3 _
theorem XbZ{a b c:ByteArray}(h:ltB a b=true)(k:ltB b c=true):ltB a c=true:=T9 _ _ _ h k
theorem Xgk{a b:ByteArray}(h:ltB a b=true):a≠b:=by
 rintro rfl
 rw[X0]at h
 cases h
theorem Xkj{a b:ByteArray}(h:ltB a b=false)(hn:a≠b):ltB b a=true:=by
 have:=Xde a b
 rw[h]at this
 simp only[Bool.not_false,Bool.true_eq,Bool.or_eq_true,decide_eq_true_eq]at this
 exact this.resolve_right fun e=>hn e.symm
def srt(l:List Ad):Prop:=l.Pairwise fun a b=>ltB a.name_ b.name_=true
theorem XbS{α:Type}{p:α→Bool}{x:α}{l:List α}:V2 p (x::l)=if p x=true then 0 else if V2 p l<0 then -1 else V2 p l+1:=by
 unfold V2
 rw[List.findIdx_cons]
 cases hp:p x with
 |true=>simp
 |false=>
  simp only[List.length_cons,cond_false,Bool.false_eq_true,if_false]
  by_cases h:l.findIdx p<l.length
  ·rw[if_pos (show l.findIdx p+1<l.length+1 by omega),if_pos h,if_neg (show¬(l.findIdx p:Int)<0 by omega)]
   omega
  ·rw[if_neg (show¬l.findIdx p+1<l.length+1 by omega),if_neg h,if_pos (by decide)]
theorem N1{x:Ad}{l:List Ad}{n:ByteArray}:Aw (x::l) n=if x.name_=n then 0 else if Aw l n<0 then -1 else Aw l n+1:=by
 show V2 (fun e=>B1 e n) (x::l)=_
 rw[XbS]
 unfold B1
 simp only[decide_eq_true_eq]
 rfl
theorem Zk{l:List Ad}{n:ByteArray}: -1≤Aw l n:=(Ps rfl).1
theorem XiC{l:List Ad}{n:ByteArray}(h:∀x∈l,x.name_≠n):Aw l n<0:=by
 have hb:=Zk (l:=l) (n:=n)
 rcases Int.lt_or_le (Aw l n) 0 with k|k
 ·exact k
 ·obtain⟨hi,hp⟩:=Tt (p:=fun e=>B1 e n) (rfl:Aw l n=_) k
  unfold B1 at hp
  rw[decide_eq_true_eq]at hp
  exact absurd hp (h _ (List.getElem_mem hi))
theorem Yr{l:List Ad}{n:ByteArray}{i k:Int}(h:Aw l n=k)(hk:0≤k):XcI l n i=l.set k.toNat ⟨(l.getD k.toNat ⟨tx [],0⟩).name_,i⟩:=by
 subst h
 exact if_pos hk
theorem Q9{l:List Ad}{n:ByteArray}{i k:Int}(h:Aw l n<0)(hk:C3 l n=k):XcI l n i=O7 l (if k<0 then l.length else k) [⟨n,i⟩]:=by
 subst hk
 exact if_neg (by omega)
theorem Xhx{x:Ad}{l:List Ad}{n:ByteArray}{i:Int}:XcI (x::l) n i=if x.name_=n then⟨n,i⟩::l else if Aw l n<0∧Vu x n=true then⟨n,i⟩::x::l else x::XcI l n i:=by
 have hb:=Zk (l:=l) (n:=n)
 by_cases hx:x.name_=n
 ·rw[if_pos hx,Yr (k:=0) (by rw[N1,if_pos hx]) (by decide)]
  simp[hx]
 ·rw[if_neg hx]
  by_cases hp:Aw l n<0
  ·have hpc:Aw (x::l) n<0:=by rw[N1,if_neg hx,if_pos hp];decide
   have hc:C3 (x::l) n=if Vu x n=true then 0 else if C3 l n<0 then -1 else C3 l n+1:=XbS (p:=fun e=>Vu e n)
   by_cases h1:Vu x n=true
   ·rw[if_pos ⟨hp,h1⟩,Q9 hpc (k:=0) (by rw[hc,if_pos h1]),if_neg (by decide)]
    simp[O7]
   ·rw[if_neg (fun h=>h1 h.2)]
    by_cases h2:C3 l n<0
    ·rw[Q9 hpc (k:=-1) (by rw[hc,if_neg h1,if_pos h2]),if_pos (by decide),Q9 hp rfl,if_pos h2]
     simp[O7]
    ·rw[Q9 hpc (by rw[hc,if_neg h1,if_neg h2]),if_neg (by omega),Q9 hp rfl,if_neg h2]
     unfold O7
     rw[show(C3 l n+1).toNat=(C3 l n).toNat+1 by omega]
     simp
  ·rw[if_neg (fun h=>hp h.1),Yr (k:=Aw l n+1) (by rw[N1,if_neg hx,if_neg hp]) (by omega),Yr (l:=l) rfl (by omega),show(Aw l n+1).toNat=(Aw l n).toNat+1 by omega]
   simp
theorem Sj{e:Ad}:∀{l:List Ad},(∀x∈l,x.name_≠e.name_)→P3 e l true=l
 |[],_=>rfl
 |x::l,h=>by
  unfold P3
  rw[if_neg (by simp),if_neg (h x List.mem_cons_self),Bool.true_or,Sj fun y hy=>h y (List.mem_cons_of_mem _ hy)]
  rfl
theorem Xbi{n:ByteArray}{i:Int}:∀{l:List Ad},srt l→Cl l ⟨n,i⟩=XcI l n i
 |[],_=>rfl
 |x::l,h=>by
  have hs:=List.pairwise_cons.1 h
  have ih:=Xbi (n:=n) (i:=i) hs.2
  unfold Cl at ih⊢
  rw[Xhx]
  unfold P3
  by_cases hx:x.name_=n
  ·rw[if_pos hx,hx,X0,if_pos ⟨rfl,rfl⟩,if_pos rfl,Bool.not_false,Bool.or_true,Sj (fun y hy e=>by
    have:=hs.1 y hy
    rw[hx]at this
    exact Xgk this e.symm)]
   rfl
  ·rw[if_neg hx,if_neg hx]
   cases hl:ltB x.name_ n with
   |true=>
    rw[if_neg (by simp),if_neg (by unfold Vu;rw[hl];simp),Bool.not_true,Bool.or_false,ih]
    rfl
   |false=>
    have hg:=Xkj hl hx
    have hne:∀y∈l,y.name_≠n:=fun y hy e=>Xgk (XbZ hg (hs.1 y hy)) e.symm
    rw[if_pos ⟨rfl,rfl⟩,if_pos ⟨XiC hne,by unfold Vu;rw[hl,decide_eq_false hx];rfl⟩,Bool.not_false,Bool.or_true,Sj hne]
    rfl
theorem T1{n:ByteArray}:∀{l:List Ad},srt l→0≤Aw l n→Ck l n=l.eraseIdx (Aw l n).toNat
 |[],_,h=>by
  exfalso
  have:Aw [] n= -1:=rfl
  omega
 |x::l,h,hp=>by
  have hs:=List.pairwise_cons.1 h
  have hb:=Zk (l:=l) (n:=n)
  rw[N1]at hp⊢
  unfold Ck
  rw[List.filter_cons]
  by_cases hx:x.name_=n
  ·rw[if_pos hx,decide_eq_true hx]
   have:l.filter (fun x=>!decide (x.name_=n))=l:=by
    rw[List.filter_eq_self]
    intro y hy
    rw[decide_eq_false]
    ·rfl
    ·rintro rfl
     exact Xgk (hs.1 y hy) hx
   simp[this]
  ·rw[if_neg hx]at hp⊢
   rw[decide_eq_false hx]
   by_cases h2:Aw l n<0
   ·rw[if_pos h2]at hp;omega
   ·rw[if_neg h2,show(Aw l n+1).toNat=(Aw l n).toNat+1 by omega,List.eraseIdx_cons_succ,←T1 hs.2 (by omega)]
    rfl
theorem XhE{d:Aa}{l:List Ad}(h:Bx d l=true){i:Nat}(hi:i<l.length):I0 d l i=true:=by
 unfold Bx at h
 rw[Bool.and_eq_true]at h
 exact List.all_eq_true.1 h.1 i (List.mem_range.2 hi)
theorem XgA{d:Aa}{l:List Ad}(h:Bx d l=true){i:Nat}(hi:i+1<l.length):ltB l[i].name_ l[i+1].name_=true:=by
 have h1:=XhE h hi
 unfold I0 at h1
 rw[Xhm hi rfl,show i+1 - 1=i by omega,Xhm (show i<l.length by omega) rfl,decide_eq_false (show¬i+1=0 by omega),Bool.false_or,←Xde]at h1
 simp only[Bool.not_not,Bool.and_eq_true]at h1
 exact h1.1.1
theorem Xfy{d:Aa}{l:List Ad}(h:Bx d l=true):srt l:=by
 have key:∀(k i:Nat) (hk:i+1+k<l.length),ltB l[i].name_ l[i+1+k].name_=true:=by
  intro k
  induction k with
  |zero=>intro i hk;exact XgA h hk
  |succ k ih=>intro i hk;exact XbZ (ih i (by omega)) (XgA h (i:=i+1+k) (by omega))
 refine List.pairwise_iff_getElem.2 fun i j hi hj hij=>?_
 have:=key (j - i - 1) i (by omega)
 simpa only[show i+1+(j - i - 1)=j by omega]using this
theorem Xee{l:List Ad}{n:ByteArray}(h:srt l):srt (Ck l n):=List.Pairwise.filter _ h
theorem Vj{l:List Ad}{s:ByteArray}(h:srt l):Di l s=A8 l s:=by
 by_cases hne:s=tx []
 ·subst hne
  rw[Xit rfl]
  exact Dt (a:=tx []) (b:=tx []) (c:=0) (d:=false) rfl (.inl rfl)
 have hp:=Xeh hne
 have hhd:=Tj hp
 obtain⟨a,b,c,hc⟩:∃a b c,Nu (s.extract 1 s.size)=(a,b,c):=⟨_,_,_,rfl⟩
 have hlt2:c=true→2≤s.size:=by
  rintro rfl
  unfold Nu at hc
  split at hc
  ·rename_i h0
   have:=(XeI (rfl:L6 (s.extract 1 s.size)=_)).2
   rw[ByteArray.size_extract]at this
   omega
  ·simp at hc
 by_cases h43:s.data.toList.head?=some 43
 ·rw[XaC hne h43 hc]
  cases c with
  |false=>
   rw[if_pos (.inl rfl)]
   by_cases aa:s.size<2
   ·exact Dt (Wt (.inl aa)).symm (.inl rfl)
   ·exact Dt (Zr (by omega) (.inl h43) (by rw[h43];decide) (by rw[hc])).symm (.inl rfl)
  |true=>
   have hm:=Te (hlt2 rfl) h43 hc
   cases hr:(Bg b).2 with
   |false=>rw[if_pos (.inr (.inl rfl))];exact Dt hm (.inl (by rw[hr];rfl))
   |true=>
    cases hn:Bo a with
    |false=>rw[if_pos (.inr (.inr rfl))];exact Dt hm (.inr (.inl hn))
    |true=>
     rw[if_neg (by simp)]
     rw[hr,hn]at hm
     rw[Rv hm hn h43,Xbi h]
 ·by_cases h45:s.data.toList.head?=some 45
  ·rw[X1 hne h45]
   by_cases aa:s.size<2
   ·have e:s.extract 1 s.size=tx []:=by
     apply L5
     rw[C7,List.drop_of_length_le (by rw[List.length_take,Array.length_toList];show min _ s.size≤1;omega)]
     rfl
    rw[Dt (Wt (.inl aa)).symm (.inl rfl),e]
    unfold Jb
    rw[if_pos (.inr (by decide))]
   ·have hm:=(XaS (by omega) h45).symm
    unfold Jb
    by_cases hpl:Aw l (s.extract 1 s.size)<0
    ·rw[if_pos (.inl hpl)]
     exact Dt hm (.inr (.inr ⟨h43,by unfold Dr;rw[decide_eq_false_iff_not];omega⟩))
    ·cases hn:Bo (s.extract 1 s.size)with
     |false=>rw[if_pos (.inr rfl)];exact Dt hm (.inr (.inl hn))
     |true=>
      rw[if_neg (by rintro(k|k);exact hpl k;cases k),Pl hm hn (by unfold Dr;rw[decide_eq_true_eq];omega) h45,T1 h (by omega)]
      rfl
  ·by_cases h62:s.data.toList.head?=some 62
   ·rw[XaV hne h62 hc]
    cases c with
    |false=>
     rw[if_pos (.inl rfl)]
     by_cases aa:s.size<2
     ·exact Dt (Wt (.inl aa)).symm (.inl rfl)
     ·exact Dt (Zr (by omega) (.inr (.inr h62)) h45 (by rw[hc])).symm (.inl rfl)
    |true=>
     have hm:=Tw (hlt2 rfl) h62 hc
     cases hnb:Bo b with
     |false=>rw[if_pos (.inr (.inr (.inl rfl)))];exact Dt hm (.inl (by rw[hnb];rfl))
     |true=>
      by_cases hab:a=b
      ·rw[if_pos (.inr (.inr (.inr hab)))];exact Dt hm (.inl (by rw[hnb,decide_eq_true hab];rfl))
      ·rw[hnb,decide_eq_false hab]at hm
       by_cases hpl:Aw l a<0
       ·have hd:Jb l a=([],false):=by unfold Jb;rw[if_pos (.inl hpl)]
        rw[hd,if_pos (.inr (.inl rfl))]
        exact Dt hm (.inr (.inr ⟨h43,by unfold Dr;rw[decide_eq_false_iff_not];omega⟩))
       ·cases hn:Bo a with
        |false=>
         have hd:Jb l a=([],false):=by unfold Jb;rw[if_pos (.inr hn)]
         rw[hd,if_pos (.inr (.inl rfl))]
         exact Dt hm (.inr (.inl hn))
        |true=>
         have hd:Jb l a=(Ck l a,true):=by unfold Jb;rw[if_neg (by rw[hn];rintro(k|k);exact hpl k;cases k),T1 h (by omega)];rfl
         rw[hd,if_neg (by simp;exact hab),Sf hm hn (by unfold Dr;rw[decide_eq_true_eq];omega) h62,Xbi (Xee h)]
   ·rw[XfO hne hhd (fun e=>h43 (by rw[hhd,e])) (fun e=>h45 (by rw[hhd,e])) (fun e=>h62 (by rw[hhd,e]))]
    exact Dt (Wt (.inr ⟨h43,h45,h62⟩)).symm (.inl rfl)
def Xa1(d:Aa)(k:Nat):Bool:=if(Cb d.old_ (d.steps_.take k)).2=true then Hl d (Cb d.old_ (d.steps_.take k)).1 (d.steps_.drop k)else false
theorem Xes{s:ByteArray}:∀(l:List ByteArray) (now:List Ad),Cb now (l++[s])=if(Cb now l).2=true then(if(Di (Cb now l).1 s).2=false then([],false)else Di (Cb now l).1 s)else([],false)
 |[],now=>by
  show(if(Di now s).2=false then _ else Cb (Di now s).1 [])=if true=true then _ else _
  rw[if_pos rfl]
  cases h:Di now s with
  |mk x b=>cases b<;>simp[Cb,h]
 |y::l,now=>by
  show(if(Di now y).2=false then _ else Cb (Di now y).1 (l++[s]))=if(if(Di now y).2=false then _ else Cb (Di now y).1 l).2=true then _ else _
  by_cases h:(Di now y).2=false
  ·rw[if_pos h,if_pos h,if_neg (by decide)]
  ·rw[if_neg h,if_neg h,Xes l]
   have e:Cb now (y::l)=Cb (Di now y).1 l:=if_neg h
   rw[e]
theorem Xej{d:Aa}{k:Nat}{x:List Ad}(hk:k<d.steps_.length)(h:Cb d.old_ (d.steps_.take k)=(x,true))(hr:Bx d x=true):Cb d.old_ (d.steps_.take (k+1))=if(A8 x d.steps_[k]).2=false then([],false)else A8 x d.steps_[k]:=by
 rw[List.take_succ_eq_append_getElem hk,Xes,h,if_pos rfl,Vj (Xfy hr)]
theorem Xfa{d:Aa}{k:Nat}{x:List Ad}(hk:k<d.steps_.length)(h:Cb d.old_ (d.steps_.take k)=(x,true))(hr:Bx d x=true):Xa1 d (k+1)=Xa1 d k:=by
 obtain⟨y,b,hy⟩:∃y b,A8 x d.steps_[k]=(y,b):=⟨_,_,rfl⟩
 unfold Xa1
 rw[Xej hk h hr,h,if_pos (show(x,true).2=true from rfl),List.drop_eq_getElem_cons hk]
 show _=(Bx d x&&(A8 x d.steps_[k]).2&&Hl d (A8 x d.steps_[k]).1 _)
 rw[hr,hy]
 cases b<;>rfl
theorem Xa5{old:List Ad}{steps:List ByteArray}{k:Int}(h0:0≤k)(h1:k≤steps.length):Cm old steps k=Cb old (steps.take k.toNat):=by
 unfold Cm
 rw[show Ff k 0 steps.length=k from by unfold Ff;split<;>(try split)<;>(try split)<;>omega]
def XiQ(d:Aa)(k:Nat):Prop:=Hl d d.old_ d.steps_=Xa1 d k∧okL (Cb d.old_ (d.steps_.take k)).1∧(Cb d.old_ (d.steps_.take k)).1.length≤1000000000
theorem XeK{d:Aa}(hd:Sk d):XiQ d 0:=⟨rfl,hd.2.1,hd.1.2.2.2.2.1⟩
theorem Xey{d:Aa}(hd:Sk d){k:Nat}{x:List Ad}(hq:XiQ d k)(hk:k<d.steps_.length)(h:Cb d.old_ (d.steps_.take k)=(x,true))(hr:Bx d x=true):XiQ d (k+1):=by
 obtain⟨h1,h2,h3⟩:=hq
 have hx:=Xem hr
 rw[h]at h2 h3
 refine⟨by rw[h1,Xfa hk h hr],?_⟩
 rw[Xej hk h hr]
 obtain⟨y,b,hy⟩:∃y b,A8 x d.steps_[k]=(y,b):=⟨_,_,rfl⟩
 have hl:=Ub hy
 have ho:=Xd7 h2 (hd.2.2 _ (List.getElem_mem hk)) hy
 rw[hy]
 cases b
 ·exact⟨fun e he=>(by cases he),Nat.zero_le _⟩
 ·exact⟨ho,by show y.length≤_;omega⟩
theorem Ns:Setup Tryz.prog ((3000007,Fe Tryz.prog 3000007)::((3000001,Fe Tryz.prog 3000001)::Ud)):=(Setup.mark 3000007 (Setup.mark 3000001 Xh8))
theorem Of{Ak:List Cs}{Bj:List (List D)}{Al:List Ad}{Be:List (List D)}{An:List Ad}{Bd:List (List D)}{Am:List ByteArray}{Bf:List (List D)}{Aq:Int}{As:Int}{o:Bool}(Ay:Ak.map B5=Bj)(Av:Al.map Ae=Be)(A3:An.map Ae=Bd)(A5:Am.map cS=Bf)(ac:Sk ⟨Ak,Al,An,Am,Aq,As⟩)(hr:B6 (⟨Ak,Al,An,Am,Aq,As⟩:Aa)=o):Fn Tryz.prog 211 [.agg [.d (.row 3 Bj),.d (.row 2 Be),.d (.row 2 Bd),.d (.row 1 Bf),I Aq,I As]] [] ⟨B o,[],[]⟩:=by
 refine Fn.go Ns Tryz.func211 fun P hP Q hQ=>?_
 conv=>cbv
 refine .go Ay fun v1 bl=>?_
 conv=>cbv
 have hdo:An.length≤1000000000:=ac.1.2.2.2.2.1
 have hds:Am.length≤1000000000:=ac.1.2.2.2.2.2
 refine .gtr (fun h2=>?_) fun h2=>?_
 conv=>cbv
 refine .go2 (by kernel_rfl) ?_
 conv=>cbv
 have e:false=B6 (⟨Ak,Al,An,Am,Aq,As⟩:Aa):=(by exact Gi fun h=>by rw[diskOk_iff]at h;have:=h.2.2.1;unfold J9 at this;rw[decide_eq_false (by simp only[];omega),Bool.and_false]at this;cases this)
 rw[hr]at e
 subst e
 exact hQ _ _ (.b rfl rfl)
 conv=>cbv
 generalize af:A1 Aq 0 1000000000=r3
 refine .dd hP (Dd af) ?_
 cases r3
 simp only[A1,decide_eq_true_eq,decide_eq_false_iff_not]at af
 conv=>cbv
 refine .go2 (by kernel_rfl) ?_
 conv=>cbv
 have e:false=B6 (⟨Ak,Al,An,Am,Aq,As⟩:Aa):=(by exact Gi fun h=>by rw[diskOk_iff]at h;exact af h.1)
 rw[hr]at e
 subst e
 exact hQ _ _ (.b rfl rfl)
 simp only[A1,decide_eq_true_eq,decide_eq_false_iff_not]at af
 conv=>cbv
 generalize ag:A1 As 1 1000000000=r4
 refine .dd hP (Dd ag) ?_
 cases r4
 simp only[A1,decide_eq_true_eq,decide_eq_false_iff_not]at ag
 conv=>cbv
 refine .go2 (by kernel_rfl) ?_
 conv=>cbv
 have e:false=B6 (⟨Ak,Al,An,Am,Aq,As⟩:Aa):=(by exact Gi fun h=>by rw[diskOk_iff]at h;exact ag h.2.1)
 rw[hr]at e
 subst e
 exact hQ _ _ (.b rfl rfl)
 simp only[A1,decide_eq_true_eq,decide_eq_false_iff_not]at ag
 conv=>cbv
 generalize aq:Ho (⟨Ak,Al,An,Am,Aq,As⟩:Aa)=r5
 refine .dd hP (Xeq Ay Av A3 A5 ac.1 aq) ?_
 conv=>cbv
 refine .gtr (fun h6=>?_) fun h6=>?_
 conv=>cbv
 refine .go2 (by kernel_rfl) ?_
 conv=>cbv
 have e:false=B6 (⟨Ak,Al,An,Am,Aq,As⟩:Aa):=(by exact Gi fun h=>by rw[diskOk_iff]at h;have:=h.2.2.2.1;rw[aq]at this;simp only[]at this;omega)
 rw[hr]at e
 subst e
 exact hQ _ _ (.b rfl rfl)
 conv=>cbv
 refine .go2 (by kernel_rfl) ?_
 conv=>cbv
 refine LoopW.lp (κ:=Int) Ns hP [] [1] (fun i3=>[(3,I i3)]) (fun i3=>[])
  (fun i3=>0≤i3∧i3≤Ak.length∧∀j:Nat,j<i3.toNat→Ik (⟨Ak,Al,An,Am,Aq,As⟩:Aa) j=true)
  (fun i3=>(Ak.length - i3).toNat) (0) ⟨by omega,by omega,fun j h=>by simp at h⟩ ⟨rfl,trivial⟩ rfl ?_
 rintro i3 J ⟨h0,h1,hb⟩ hJ
 have bm:Ak.length≤1000000000:=ac.1.1
 conv=>cbv
 refine .go Ay fun v7 bn=>?_
 conv=>cbv
 refine .lss (fun h8=>?_) fun h8=>?_
 conv=>cbv
 refine .go i3.toNat Ay fun ad ⟨aw,a7,ah⟩ a8=>?_
 conv=>cbv
 refine .sub fun ba bj=>?_
 conv=>cbv
 have hnd:=XkH (d:=(⟨Ak,Al,An,Am,Aq,As⟩:Aa)) ad a8
 generalize ab:A1 aw 1 ba=bb
 refine .dd hP (Dd ab) ?_
 cases bb
 simp only[A1,decide_eq_true_eq,decide_eq_false_iff_not]at ab
 conv=>cbv
 refine .go2 (by kernel_rfl) ?_
 conv=>cbv
 have e:false=B6 (⟨Ak,Al,An,Am,Aq,As⟩:Aa):=(by exact Gi fun h=>by rw[diskOk_iff]at h;have h3:=h.2.2.1;rw[←Tq (d:=(⟨Ak,Al,An,Am,Aq,As⟩:Aa)) ad (by unfold Ik;rw[decide_eq_false_iff_not,hnd];simp only[];omega)]at h3;cases h3)
 rw[hr]at e
 subst e
 exact hQ _ _ (.b rfl rfl)
 simp only[A1,decide_eq_true_eq,decide_eq_false_iff_not]at ab
 conv=>cbv
 refine .gtr (fun h12=>?_) fun h12=>?_
 conv=>cbv
 refine .sub fun ai ao=>?_
 conv=>cbv
 refine .go ai.toNat Ay fun ar ⟨bc,a2,a6⟩ ax=>?_
 conv=>cbv
 have hpd:=XkH (d:=(⟨Ak,Al,An,Am,Aq,As⟩:Aa)) ar ax
 rw[show ai.toNat=i3.toNat - 1 by omega]at hpd
 refine .geq (fun h15=>?_) fun h15=>?_
 conv=>cbv
 refine .go2 (by kernel_rfl) ?_
 conv=>cbv
 have e:false=B6 (⟨Ak,Al,An,Am,Aq,As⟩:Aa):=(by exact Gi fun h=>by rw[diskOk_iff]at h;have h3:=h.2.2.1;rw[←Tq (d:=(⟨Ak,Al,An,Am,Aq,As⟩:Aa)) ad (by unfold Ik;rw[decide_eq_false_iff_not,hnd];simp only[];rw[hpd];simp only[];omega)]at h3;cases h3)
 rw[hr]at e
 subst e
 exact hQ _ _ (.b rfl rfl)
 conv=>cbv
 refine .go fun au ay=>?_
 conv=>cbv
 generalize aj:A1 ah 0 au=bd
 refine .dd hP (Dd aj) ?_
 cases bd
 simp only[A1,decide_eq_true_eq,decide_eq_false_iff_not]at aj
 conv=>cbv
 refine .go2 (by kernel_rfl) ?_
 conv=>cbv
 have e:false=B6 (⟨Ak,Al,An,Am,Aq,As⟩:Aa):=(by exact Gi fun h=>by rw[diskOk_iff]at h;have h3:=h.2.2.1;rw[←Tq (d:=(⟨Ak,Al,An,Am,Aq,As⟩:Aa)) ad (by unfold Ik;rw[decide_eq_false_iff_not,hnd];simp only[];omega)]at h3;cases h3)
 rw[hr]at e
 subst e
 exact hQ _ _ (.b rfl rfl)
 simp only[A1,decide_eq_true_eq,decide_eq_false_iff_not]at aj
 conv=>cbv
 refine .go2 (by kernel_rfl) ?_
 conv=>cbv
 refine .add fun be bk=>?_
 conv=>cbv
 exact .go [] (be) (hJ _ ⟨by omega,by omega,fun j h=>if e:j=i3.toNat then by subst e;unfold Ik;rw[decide_eq_true_eq,hnd,hpd];simp only[];omega else hb j (by omega)⟩ mlt)
 conv=>cbv
 refine .go fun ai ao=>?_
 conv=>cbv
 generalize ak:A1 ah 0 ai=bf
 refine .dd hP (Dd ak) ?_
 cases bf
 simp only[A1,decide_eq_true_eq,decide_eq_false_iff_not]at ak
 conv=>cbv
 refine .go2 (by kernel_rfl) ?_
 conv=>cbv
 have e:false=B6 (⟨Ak,Al,An,Am,Aq,As⟩:Aa):=(by exact Gi fun h=>by rw[diskOk_iff]at h;have h3:=h.2.2.1;rw[←Tq (d:=(⟨Ak,Al,An,Am,Aq,As⟩:Aa)) ad (by unfold Ik;rw[decide_eq_false_iff_not,hnd];simp only[];omega)]at h3;cases h3)
 rw[hr]at e
 subst e
 exact hQ _ _ (.b rfl rfl)
 simp only[A1,decide_eq_true_eq,decide_eq_false_iff_not]at ak
 conv=>cbv
 refine .go2 (by kernel_rfl) ?_
 conv=>cbv
 refine .add fun an az=>?_
 conv=>cbv
 exact .go [] (an) (hJ _ ⟨by omega,by omega,fun j h=>if e:j=i3.toNat then by subst e;unfold Ik;rw[decide_eq_true_eq,hnd];simp only[];omega else hb j (by omega)⟩ mlt)
 conv=>cbv
 refine LoopW.lp (κ:=Int) Ns hP [] [1] (fun i5=>[(5,I i5)]) (fun i5=>[])
  (fun i5=>0≤i5∧i5≤Am.length+1∧(i5≤Am.length→XiQ (⟨Ak,Al,An,Am,Aq,As⟩:Aa) i5.toNat)∧(i5=Am.length+1→Hl (⟨Ak,Al,An,Am,Aq,As⟩:Aa) An Am=true))
  (fun i5=>(Am.length+1 - i5).toNat) (0) ⟨by omega,by omega,fun _=>XeK ac,fun h=>by omega⟩ ⟨rfl,trivial⟩ rfl ?_
 rintro i5 J1 ⟨k0,k1,hQk,hQe⟩ a1
 conv=>cbv
 refine .go A5 fun v9 bo=>?_
 conv=>cbv
 refine .leq (fun h10=>?_) fun h10=>?_
 conv=>cbv
 have hq:=hQk (by omega)
 have hS0:=Xa5 (old:=An) (steps:=Am) (k:=i5) (by omega) (by omega)
 rcases ab:Cm An Am i5 with⟨aa,ap⟩
 generalize ae:aa.map Ae=bg
 refine .dd hP (XcK A3 A5 (by omega) (by omega) ac.2.2 ab ae) ?_
 conv=>cbv
 have hS:Cb An (Am.take i5.toNat)=(aa,ap):=hS0.symm.trans ab
 have hul:okL aa:=by have:=hq.2.1;simp only[]at this;rw[hS]at this;exact this
 have hun:aa.length≤1000000000:=by have:=hq.2.2;simp only[]at this;rw[hS]at this;exact this
 cases ap
 conv=>cbv
 have e:false=B6 (⟨Ak,Al,An,Am,Aq,As⟩:Aa):=(by exact Gi fun h=>by rw[diskOk_iff]at h;have hk:=h.2.2.2.2;simp only[]at hk;rw[hq.1]at hk;unfold Xa1 at hk;simp only[]at hk;rw[hS]at hk;cases hk)
 rw[hr]at e
 subst e
 exact hQ _ _ (.b rfl rfl)
 conv=>cbv
 generalize al:G6 (⟨Ak,Al,An,Am,Aq,As⟩:Aa) aa=bh
 refine .dd hP (Xaz Ay Av A3 A5 ae ac.1 hul (by omega) al) ?_
 cases bh
 conv=>cbv
 have e:false=B6 (⟨Ak,Al,An,Am,Aq,As⟩:Aa):=(by exact Gi fun h=>by rw[diskOk_iff]at h;have hk:=h.2.2.2.2;simp only[]at hk;rw[hq.1]at hk;unfold Xa1 at hk;simp only[]at hk;rw[hS]at hk;rw[if_pos rfl,XeL (show Bx _ aa=false from al)]at hk;cases hk)
 rw[hr]at e
 subst e
 exact hQ _ _ (.b rfl rfl)
 conv=>cbv
 have hre:Bx (⟨Ak,Al,An,Am,Aq,As⟩:Aa) aa=true:=al
 refine .go A5 fun ai ao=>?_
 conv=>cbv
 refine .eql (fun h14=>?_) fun h14=>?_
 conv=>cbv
 generalize am:Ke aa Al=bi
 refine .dd hP (XfU ae Av (by omega) am) ?_
 cases bi
 conv=>cbv
 have e:false=B6 (⟨Ak,Al,An,Am,Aq,As⟩:Aa):=(by exact Gi fun h=>by rw[diskOk_iff]at h;have hk:=h.2.2.2.2;simp only[]at hk;rw[hq.1]at hk;unfold Xa1 at hk;simp only[]at hk;rw[hS]at hk;rw[if_pos rfl,List.drop_of_length_le (by omega)]at hk;unfold Hl at hk;rw[show P9 aa _=false from am,Bool.and_false]at hk;cases hk)
 rw[hr]at e
 subst e
 exact hQ _ _ (.b rfl rfl)
 conv=>cbv
 refine .add fun au ay=>?_
 conv=>cbv
 exact .go [] (au) (a1 _ ⟨by omega,by omega,fun h=>by omega,fun _=>by have:=hq.1;simp only[]at this;rw[this];unfold Xa1;simp only[];rw[hS,List.drop_of_length_le (by omega),if_pos rfl];show(Bx _ aa&&P9 aa Al)=true;rw[hre,show P9 aa Al=true from am];rfl⟩ mlt)
 conv=>cbv
 refine .add fun an az=>?_
 conv=>cbv
 exact .go [] (an) (a1 _ ⟨by omega,by omega,fun h=>by rw[show an.toNat=i5.toNat+1 by omega];exact Xey ac hq (by simp only[];omega) hS hre,fun h=>by omega⟩ mlt)
 conv=>cbv
 have e:true=B6 (⟨Ak,Al,An,Am,Aq,As⟩:Aa):=(by symm;rw[diskOk_iff];exact⟨af,ag,(Xhi (d:=(⟨Ak,Al,An,Am,Aq,As⟩:Aa)) (fun j hj=>hb j (by simp only[]at hj;omega)) (by symm;rw[decide_eq_true_eq];simp only[];omega)).symm,by rw[aq];exact h6,hQe (by omega)⟩)
 rw[hr]at e
 subst e
 exact hQ _ _ (.b rfl rfl)
end
section
open Go Go.Proofs
set_option maxRecDepth 20000
set_option maxHeartbeats 4000000
end
section
open Go Go.Proofs
set_option maxRecDepth 20000
set_option maxHeartbeats 4000000
def XbU:List Ad→List ByteArray→Int→Bool
 |now,[],id=>now.any fun e=>decide (e.id_=id)
 |now,s::ss,id=>(now.any fun e=>decide (e.id_=id))||XbU (A8 now s).1 ss id
def XdQ(nodes:List Cs)(old:List Ad)(steps:List ByteArray):List Cs:=nodes.filter fun x=>XbU old steps x.id_
theorem Xiw{l:List Ad}{k:Nat}{id:Int}(hk:k<l.length):(l.take (k+1)).any (fun e=>decide (e.id_=id))=((l.take k).any (fun e=>decide (e.id_=id))||decide (l[k].id_=id)):=by
 rw[List.take_succ_eq_append_getElem hk,List.any_append]
 simp
end
section
open Go Go.Proofs
set_option maxRecDepth 20000
set_option maxHeartbeats 4000000
theorem Tl{l:List ByteArray}{s:ByteArray}(h:okS l)(hs:s.size≤1000000000):okS (l++[s]):=fun t ht=>by
 rcases List.mem_append.1 ht with ht|ht
 ·exact h t ht
 ·rw[List.mem_singleton.1 ht];exact hs
end
section
open Go Go.Proofs
set_option maxRecDepth 20000
set_option maxHeartbeats 4000000
end
section
open Go Go.Proofs
set_option maxRecDepth 20000
set_option maxHeartbeats 4000000
def Mw(d:Aa)(s:ByteArray):Aa:=⟨XdQ d.nodes_ d.old_ (d.steps_++[s]),(A8 d.entries_ s).1,d.old_,d.steps_++[s],d.room_,d.next_⟩
def Ch(d:Aa)(name:ByteArray):Aa×Int:=if B6 d=false∨Aw d.entries_ name<0 then(d,3)else(Mw d (tx [45]++name),0)
end
section
open Go Go.Proofs
set_option maxRecDepth 20000
set_option maxHeartbeats 4000000
def Cv(d:Aa)(from_ to_:ByteArray):Aa×Int:=if B6 d=false∨Aw d.entries_ from_<0 then(d,3)else if Bo to_=false∨from_=to_ then(d,1)else(Mw d (tx [62]++from_++tx [58]++to_),0)
end
section
open Go Go.Proofs
set_option maxRecDepth 20000
set_option maxHeartbeats 4000000
def Dm(d:Aa)(name:ByteArray):Aa×Int:=if B6 d=false∨Cr d name<0 then(d,3)else
 (⟨d.nodes_.set (Cr d name).toNat ⟨(d.nodes_.getD (Cr d name).toNat ⟨0,tx [],0⟩).id_,(d.nodes_.getD (Cr d name).toNat ⟨0,tx [],0⟩).text_,((d.nodes_.getD (Cr d name).toNat ⟨0,tx [],0⟩).text_.size:Int)⟩,d.entries_,d.old_,d.steps_,d.room_,d.next_⟩,0)
end
section
open Go Go.Proofs
set_option maxRecDepth 20000
set_option maxHeartbeats 4000000
theorem XcX{α:Type}{f:α→Int}(h:∀x,0≤f x):∀{l:List α} {a:Int},a≤(l.map f).foldl (·+·) a
 |[],a=>by simp
 |x::l,a=>by
  rw[List.map_cons,List.foldl_cons]
  have:=XcX h (l:=l) (a:=a+f x)
  have:=h x
  omega
theorem Xfh(d:Aa):0≤Ho d:=XcX (f:=fun n:Cs=>(n.text_.size:Int)) (fun x=>by omega)
theorem Lg{d:Aa}(h:B6 d=true):0≤d.room_∧d.room_≤1000000000∧1≤d.next_∧d.next_≤1000000000∧0≤Ho d∧Ho d≤d.room_:=by
 have h1:=diskOk_iff.1 h
 exact⟨h1.1.1,h1.1.2,h1.2.1.1,h1.2.1.2,Xfh d,h1.2.2.2.1⟩
def gN(d:Aa)(i:Int):Cs:=d.nodes_.getD i.toNat ⟨0,tx [],0⟩
def setN(d:Aa)(i:Int)(x:Cs):Aa:=⟨d.nodes_.set i.toNat x,d.entries_,d.old_,d.steps_,d.room_,d.next_⟩
def Bp(d:Aa)(name text:ByteArray):Aa×Int:=if B6 d=false∨Cr d name<0 then(d,3)else
 (setN d (Cr d name) ⟨(gN d (Cr d name)).id_,(gN d (Cr d name)).text_++text.extract 0 (min (text.size:Int) (d.room_ - Ho d)).toNat,(gN d (Cr d name)).sure_⟩,if d.room_ - Ho d<text.size then 5 else 0)
def Ax(d:Aa)(name:ByteArray):Aa×Int:=if B6 d=false then(d,3)else if Bo name=false then(d,1)else if 0≤Aw d.entries_ name then(d,2)else if 16≤d.entries_.length∨64≤d.nodes_.length∨1000000000≤d.next_ then(d,4)else
 (Mw ⟨d.nodes_++[⟨d.next_,tx [],0⟩],d.entries_,d.old_,d.steps_,d.room_,d.next_+1⟩ (tx [43]++name++tx [58]++Cy d.next_),0)
def Do(d:Aa):Aa:=if B6 d=false then d else⟨XdQ d.nodes_ d.entries_ [],d.entries_,d.entries_,[],d.room_,d.next_⟩
end
section
open Go Go.Proofs
set_option maxRecDepth 20000
set_option maxHeartbeats 4000000
def Vp:List Ad→List ByteArray→Prop
 |_,[]=>True
 |now,s::ss=>srt now∧(A8 now s).2=true∧Vp (A8 now s).1 ss
theorem Is{now:List Ad}{s:ByteArray}{ss:List ByteArray}(h:(A8 now s).2=true):Mh now (s::ss)=Mh (A8 now s).1 ss:=if_neg (by rw[h];decide)
theorem XdV{d:Aa}:∀{l:List ByteArray} {now:List Ad},Hl d now l=true→Vp now l∧Mh now l=(d.entries_,true)∧Bx d d.entries_=true
 |[],now,h=>by
  unfold Hl at h
  rw[Bool.and_eq_true]at h
  have e:now=d.entries_:=by
   have:=h.2
   unfold P9 at this
   exact of_decide_eq_true this
  refine⟨trivial,by rw[←e];rfl,by rw[←e];exact h.1⟩
 |s::ss,now,h=>by
  unfold Hl at h
  rw[Bool.and_eq_true,Bool.and_eq_true]at h
  obtain⟨a,b,c⟩:=XdV (now:=(A8 now s).1) h.2
  exact⟨⟨Xfy h.1.1,h.1.2,a⟩,by rw[Is h.1.2,b],c⟩
theorem R5:∀{l:List ByteArray} {now:List Ad} (k:Nat),Vp now l→Vp now (l.take k)
 |[],_,k,_=>by rw[List.take_nil];trivial
 |_::_,_,0,_=>trivial
 |_::_,_,k+1,h=>⟨h.1,h.2.1,R5 k h.2.2⟩
theorem X2{s:ByteArray}{e:List Ad}:∀{l:List ByteArray} {now:List Ad},Vp now l→Mh now l=(e,true)→srt e→(A8 e s).2=true→Vp now (l++[s])
 |[],now,_,h,hs,h2=>by
  have e1:now=e:=congrArg Prod.fst h
  rw[e1]
  exact⟨hs,h2,trivial⟩
 |x::l,now,h,h1,hs,h2=>by
  rw[Is h.2.1]at h1
  exact⟨h.1,h.2.1,X2 h.2.2 h1 hs h2⟩
theorem Yo:∀{l:List ByteArray} {now:List Ad},Vp now l→Cb now l=Mh now l∧(Mh now l).2=true
 |[],now,_=>⟨rfl,rfl⟩
 |s::ss,now,h=>by
  obtain⟨a,b⟩:=Yo (now:=(A8 now s).1) h.2.2
  have e2:Cb now (s::ss)=Cb (Di now s).1 ss:=if_neg (by rw[Vj h.1,h.2.1];decide)
  rw[Is h.2.1,e2,Vj h.1,a]
  exact⟨rfl,b⟩
def Yu(l:List Ad)(id:Int):Bool:=l.any fun e=>decide (e.id_=id)
def Xce(old:List Ad)(steps:List ByteArray)(id:Int):Bool:=(List.range (steps.length+1)).any fun k=>Yu (Cb old (steps.take k)).1 id
theorem Xu{id:Int}:∀{l:List ByteArray} {now:List Ad},Vp now l→(XbU now l id=true↔∃k,k≤l.length∧Yu (Mh now (l.take k)).1 id=true)
 |[],now,_=>by
  constructor
  ·intro h;exact⟨0,Nat.le_refl _,h⟩
  ·rintro⟨k,_,h⟩
   rw[List.take_nil]at h
   exact h
 |s::ss,now,h=>by
  have ih:=Xu (id:=id) (now:=(A8 now s).1) h.2.2
  show(Yu now id||XbU (A8 now s).1 ss id)=true↔_
  rw[Bool.or_eq_true,ih]
  constructor
  ·rintro(h1|⟨k,hk,h1⟩)
   ·exact⟨0,Nat.zero_le _,h1⟩
   ·refine⟨k+1,by rw[List.length_cons];omega,?_⟩
    rw[List.take_succ_cons,Is h.2.1]
    exact h1
  ·rintro⟨k,hk,h1⟩
   cases k with
   |zero=>exact .inl h1
   |succ k=>
    rw[List.take_succ_cons,Is h.2.1]at h1
    exact .inr ⟨k,by rw[List.length_cons]at hk;omega,h1⟩
theorem Xgg{old:List Ad}{steps:List ByteArray}(h:Vp old steps)(id:Int):Xce old steps id=XbU old steps id:=by
 rw[Bool.eq_iff_iff,Xu h]
 unfold Xce
 rw[List.any_eq_true]
 constructor
 ·rintro⟨k,hk,h1⟩
  rw[(Yo (R5 k h)).1]at h1
  exact⟨k,by have:=List.mem_range.1 hk;omega,h1⟩
 ·rintro⟨k,hk,h1⟩
  refine⟨k,List.mem_range.2 (by omega),?_⟩
  rw[(Yo (R5 k h)).1]
  exact h1
def Et(d:Aa):Aa:=⟨d.nodes_.filter (fun x=>Xce d.old_ d.steps_ x.id_),d.entries_,d.old_,d.steps_,d.room_,d.next_⟩
theorem Xl{d:Aa}(h:Vp d.old_ d.steps_):Et d=⟨XdQ d.nodes_ d.old_ d.steps_,d.entries_,d.old_,d.steps_,d.room_,d.next_⟩:=by
 unfold Et XdQ
 rw[List.filter_congr fun x _=>Xgg h x.id_]
theorem XiD{n:ByteArray}(h:Bo n=true):∀(j:Nat) x,n.data.toList[j]? =some x→x≠58:=by
 intro j x hx e
 unfold Bo at h
 rw[Bool.and_eq_true]at h
 have:=List.all_eq_true.1 h.1 x (List.mem_of_getElem? hx)
 rw[e]at this
 exact absurd this (by decide)
theorem Xd8{a b:ByteArray}(h:Bo a=true):Nu (a++tx [58]++b)=(a,b,true):=by
 have hl:(a++tx [58]++b).data.toList=a.data.toList++58::b.data.toList:=by
  rw[ByteArray.data_append,ByteArray.data_append,Array.toList_append,Array.toList_append,Rh,List.append_assoc]
  rfl
 have ha:a.data.toList.length=a.size:=Array.length_toList
 have e:L6 (a++tx [58]++b)=(a.size:Int):=by
  unfold L6
  rw[hl,Np _ a.size]
  ·rw[List.getElem?_append_right (by omega),ha,Nat.sub_self]
   rfl
  ·intro j hj x hx
   rw[List.getElem?_append_left (by omega)]at hx
   exact XiD h j x hx
 unfold Nu
 rw[e,if_pos (by omega),Int.toNat_natCast]
 have hz:(a++tx [58]++b).size=a.size+1+b.size:=by rw[ByteArray.size_append,ByteArray.size_append,A4];rfl
 have hb:b.data.toList.length=b.size:=Array.length_toList
 have e1:(a++tx [58]++b).extract 0 a.size=a:=by
  apply L5
  rw[C7,hl,List.drop_zero,List.take_left' ha]
 have e2:(a++tx [58]++b).extract (a.size+1) (a++tx [58]++b).size=b:=by
  apply L5
  rw[C7,List.take_of_length_le (by rw[Array.length_toList];exact Nat.le_refl _),hl,List.drop_append,List.drop_of_length_le (by omega),ha,Nat.add_sub_cancel_left]
  rfl
 rw[e1,e2]
theorem Pe{c:UInt8}{s:ByteArray}:(tx [c]++s).extract 1 (tx [c]++s).size=s:=by
 apply L5
 rw[C7,List.take_of_length_le (by rw[Array.length_toList];exact Nat.le_refl _),ByteArray.data_append,Array.toList_append,Rh]
 rfl
theorem Zs{c:UInt8}{s:ByteArray}:(tx [c]++s).data.toList.head?=some c:=by
 rw[ByteArray.data_append,Array.toList_append,Rh]
 rfl
theorem XgM{c:UInt8}{s:ByteArray}:tx [c]++s≠tx []:=by
 intro e
 have:=congrArg ByteArray.size e
 rw[ByteArray.size_append,A4,A4]at this
 simp at this
theorem XgO{l:List Ad}{n:ByteArray}{i:Int}(hn:Bo n=true)(h0:0≤i)(h1:i≤1000000000):A8 l (tx [43]++(n++tx [58]++Cy i))=(XcI l n i,true):=by
 have hc:Nu ((tx [43]++(n++tx [58]++Cy i)).extract 1 (tx [43]++(n++tx [58]++Cy i)).size)=(n,Cy i,true):=by rw[Pe];exact Xd8 hn
 rw[XaC XgM Zs hc,XiG h0 h1,if_neg (by rw[hn];simp)]
theorem XeR{l:List Ad}{n:ByteArray}(hn:Bo n=true)(h:0≤Aw l n):A8 l (tx [45]++n)=(R6 l (Aw l n) (Aw l n+1),true):=by
 rw[X1 XgM Zs,Pe]
 unfold Jb
 rw[if_neg (by rw[hn];rintro(k|k);omega;cases k)]
theorem XgU{l:List Ad}{a b:ByteArray}(hn:Bo a=true)(hb:Bo b=true)(hne:a≠b)(h:0≤Aw l a):A8 l (tx [62]++(a++tx [58]++b))=(XcI (R6 l (Aw l a) (Aw l a+1)) b (Co l a),true):=by
 have hd:Jb l a=(R6 l (Aw l a) (Aw l a+1),true):=by
  unfold Jb
  rw[if_neg (by rw[hn];rintro(k|k);omega;cases k)]
 have hc:Nu ((tx [62]++(a++tx [58]++b)).extract 1 (tx [62]++(a++tx [58]++b)).size)=(a,b,true):=by rw[Pe];exact Xd8 hn
 rw[XaV XgM Zs hc,hd,if_neg (by rw[hb];simp;exact hne)]
theorem app3(a b c d:ByteArray):a++b++c++d=a++(b++c++d):=by
 rw[ByteArray.append_assoc,ByteArray.append_assoc,ByteArray.append_assoc]
theorem P4{d:Aa}(h:B6 d=true):Vp d.old_ d.steps_∧Mh d.old_ d.steps_=(d.entries_,true)∧Bx d d.entries_=true:=XdV (diskOk_iff.1 h).2.2.2.2
theorem No{d:Aa}(h:B6 d=true):srt d.entries_:=Xfy (P4 h).2.2
theorem Xds{d:Aa}{n:ByteArray}(h:B6 d=true)(hp:0≤Aw d.entries_ n):Bo n=true∧0≤Cr d n:=by
 obtain⟨hi,hq⟩:=Tt (p:=fun e=>B1 e n) (rfl:Aw d.entries_ n=_) hp
 have h1:=XhE (P4 h).2.2 hi
 unfold B1 at hq
 rw[decide_eq_true_eq]at hq
 unfold I0 at h1
 rw[Xhm hi rfl,Bool.and_eq_true,Bool.and_eq_true,decide_eq_true_eq]at h1
 refine⟨by rw[←hq];exact h1.1.2,?_⟩
 unfold Cr
 rw[if_neg (by omega)]
 unfold Co
 rw[if_neg (by omega),←gD hi]
 exact h1.2
theorem Xo{d:Aa}{n:ByteArray}(h:Aw d.entries_ n<0):Cr d n<0:=by
 unfold Cr
 rw[if_pos h]
 decide
theorem Re{d:Aa}{s:ByteArray}{e:List Ad}{nodes:List Cs}{r x:Int}(h:B6 d=true)(hs:A8 d.entries_ s=(e,true)):Et ⟨nodes,e,d.old_,d.steps_++[s],r,x⟩=Mw ⟨nodes,d.entries_,d.old_,d.steps_,r,x⟩ s:=by
 rw[Xl (X2 (P4 h).1 (P4 h).2.1 (No h) (by rw[hs]))]
 unfold Mw
 rw[hs]
theorem Xcu{d:Aa}{name:ByteArray}{nodes:List Cs}{r x:Int}(h:B6 d=true)(hn:Bo name=true):Et ⟨nodes,Cl d.entries_ ⟨name,d.next_⟩,d.old_,d.steps_++[tx [43]++name++tx [58]++Cy d.next_],r,x⟩=Mw ⟨nodes,d.entries_,d.old_,d.steps_,r,x⟩ (tx [43]++name++tx [58]++Cy d.next_):=by
 have hr:=Lg h
 rw[Xbi (No h),app3]
 exact Re h (XgO hn (by omega) (by omega))
theorem Xcx{d:Aa}{name:ByteArray}(h:B6 d=true)(hp:0≤Aw d.entries_ name):Et ⟨d.nodes_,Ck d.entries_ name,d.old_,d.steps_++[tx [45]++name],d.room_,d.next_⟩=Mw d (tx [45]++name):=by
 rw[T1 (No h) hp]
 exact Re h (XeR (Xds h hp).1 hp)
theorem Xc1{d:Aa}{a b:ByteArray}(h:B6 d=true)(hp:0≤Aw d.entries_ a)(hb:Bo b=true)(hne:a≠b):Et ⟨d.nodes_,Cl (Ck d.entries_ a) ⟨b,Co d.entries_ a⟩,d.old_,d.steps_++[tx [62]++a++tx [58]++b],d.room_,d.next_⟩=Mw d (tx [62]++a++tx [58]++b):=by
 rw[Xbi (Xee (No h)),T1 (No h) hp,app3]
 exact Re h (XgU (Xds h hp).1 hb hne hp)
theorem Xb{d:Aa}{n:ByteArray}(h:0≤Aw d.entries_ n):Jv d (Co d.entries_ n)=Cr d n:=by
 unfold Cr
 rw[if_neg (by omega)]
theorem Yf{l:List Ad}{n:ByteArray}(h:Dr l n=true):0≤Aw l n:=by
 unfold Dr at h
 exact of_decide_eq_true h
theorem Xbz{l:List Ad}{n:ByteArray}(h:Dr l n=false):Aw l n<0:=by
 unfold Dr at h
 have:=of_decide_eq_false h
 omega
theorem Wb{p:Nat→Bool}{k:Nat}:(List.range (k+1)).any p=((List.range k).any p||p k):=by
 rw[List.range_succ,List.any_append]
 simp
theorem Wu{old:List Ad}{steps:List ByteArray}{id:Int}{k:Nat}(hk:k≤steps.length+1)(h:true=(List.range k).any fun k=>Yu (Cb old (steps.take k)).1 id):Xce old steps id=true:=by
 obtain⟨j,hj,h1⟩:=List.any_eq_true.1 h.symm
 exact List.any_eq_true.2 ⟨j,List.mem_range.2 (by have:=List.mem_range.1 hj;omega),h1⟩
theorem R4{l:List Ad}{k:Nat}{id:Int}(hk:k<l.length):Yu (l.take (k+1)) id=(Yu (l.take k) id||decide (l[k].id_=id)):=Xiw hk
theorem Xe9(l:List Ad)(s:ByteArray):(Di l s).1.length≤l.length+1:=by
 unfold Di
 split
 ·simp
 ·split
  ·exact C1 rfl
  ·have h1:=Fd (rfl:Ck l (Bi s).1=_)
   split
   ·have h2:=C1 (rfl:Cl (Ck l (Bi s).1) ⟨(Bi s).2.1,Co l (Bi s).1⟩=_)
    show(Cl _ _).length≤_
    omega
   ·show(Ck _ _).length≤_
    omega
theorem XfG:∀(l:List ByteArray) (now:List Ad),(Cb now l).1.length≤now.length+l.length
 |[],_=>Nat.le_refl _
 |s::l,now=>by
  have h1:=Xe9 now s
  have h2:=XfG l (Di now s).1
  unfold Cb
  split
  ·exact Nat.zero_le _
  ·rw[List.length_cons]
   omega
theorem Y1{t:ByteArray}{n:Nat}(h:t.size≤n):t.extract 0 n=t:=by
 apply L5
 rw[C7,List.drop_zero,List.take_of_length_le (by rw[Array.length_toList];exact h)]
end
section
open Go Go.Proofs
set_option maxRecDepth 20000
set_option maxHeartbeats 4000000
def Xae:List (Nat×TyRow):=[ty3,ty9,XjO,XhS,Zy,Xb9,Xfc,Z9]
theorem Z4:B3 Tryz.prog Xae:=B3.of (by kernel_rfl)
theorem Xih:Setup Tryz.prog Xae:=⟨Z4,mixed⟩
theorem Li{Ak:List Cs}{Bj:List (List D)}{Al:List Ad}{Be:List (List D)}{An:List Ad}{Bd:List (List D)}{Am:List ByteArray}{Bf:List (List D)}{Aq:Int}{As:Int}{nn ne no ns:Nat}(Ay:Ak.map B5=Bj)(Av:Al.map Ae=Be)(A3:An.map Ae=Bd)(A5:Am.map cS=Bf)(hn:Ak.length≤4000000000)(he:Al.length≤4000000000)(ho:An.length≤4000000000)(hs:Am.length≤4000000000)(hnn:nn=Ak.length)(hne:ne=Al.length)(hno:no=An.length)(hns:ns=Am.length):Fn Tryz.prog 112 [.agg [.d (.row 3 Bj),.d (.row 2 Be),.d (.row 2 Bd),.d (.row 1 Bf),I Aq,I As]] [] ⟨.agg [.ref 0 0 nn,.ref 1 0 ne,.ref 2 0 no,.ref 3 0 ns,I Aq,I As],[.row 3 false Bj,.row 2 false Be,.row 2 false Bd,.row 1 false Bf],[]⟩:=by
 refine Fn.goR Xih Tryz.func112 fun P hP Q hQ=>?_
 conv=>cbv
 refine .row0 Ay fun aa z1 ai ab=>?_
 conv=>cbv
 refine .row0 Av fun ac z2 aj ad=>?_
 conv=>cbv
 refine .row0 A3 fun ae z3 ak af=>?_
 conv=>cbv
 refine .row0 A5 fun ag z4 al ah=>?_
 conv=>cbv
 obtain rfl:z1=Bj:=by rw[←ab,Ay]
 obtain rfl:z2=Be:=by rw[←ad,Av]
 obtain rfl:z3=Bd:=by rw[←af,A3]
 obtain rfl:z4=Bf:=by rw[←ah,A5]
 obtain rfl:aa=nn:=by omega
 obtain rfl:ac=ne:=by omega
 obtain rfl:ae=no:=by omega
 obtain rfl:ag=ns:=by omega
 exact hQ _ _ (.of [7,9,11,13] (.inl rfl) rfl rfl rfl rfl)
end
section
open Go Go.Proofs
set_option maxRecDepth 20000
set_option maxHeartbeats 4000000
theorem Xd3{α:Type}{f:α→Int}(h0:∀x,0≤f x):∀{l:List α} {x:α},x∈l→∀a,a+f x≤(l.map f).foldl (·+·) a
 |[],_,h,_=>by cases h
 |y::l,x,h,a=>by
  rw[List.map_cons,List.foldl_cons]
  rcases List.mem_cons.1 h with rfl|h
  ·exact XcX h0
  ·have h1:=Xd3 h0 h (a+f y)
   have:=h0 y
   omega
theorem Xil{d:Aa}{n:Cs}(h:n∈d.nodes_):(n.text_.size:Int)≤Ho d:=by
 have:=Xd3 (f:=fun n:Cs=>(n.text_.size:Int)) (fun x=>by omega) h 0
 unfold Ho H0
 omega
theorem Xhf{d:Aa}{i:Int}{x:Cs}(h:Sk d)(hx:x.text_.size≤1000000000):Sk (setN d i x):=by
 obtain⟨⟨h1,h2,h3⟩,h4⟩:=h
 refine⟨⟨by show(d.nodes_.set _ _).length≤_;rw[List.length_set];exact h1,?_,h3⟩,h4⟩
 intro n hn
 rcases List.mem_or_eq_of_mem_set hn with hn|rfl
 ·exact h2 n hn
 ·exact hx
theorem Xjo{d:Aa}{i:Int}(h0:0≤i)(h1:i<d.nodes_.length):gN d i∈d.nodes_:=by
 unfold gN
 have hk:i.toNat<d.nodes_.length:=by omega
 rw[←gD hk]
 exact List.getElem_mem hk
theorem Yz{d:Aa}{s:ByteArray}(h:Sk d)(he:d.entries_.length≤1000000)(hs:s.size≤1000000000)(hl:d.steps_.length<1000000000):Sk (Mw d s):=by
 obtain⟨⟨h1,h2,h3,h4,h5,h6⟩,h7,h8⟩:=h
 obtain⟨e,b,hy⟩:∃e b,A8 d.entries_ s=(e,b):=⟨_,_,rfl⟩
 have hlen:=Ub hy
 have hok:=Xd7 (l:=d.entries_) h4 hs hy
 unfold Mw
 rw[hy]
 refine⟨⟨?_,?_,by show e.length≤_;omega,hok,h5,by rw[List.length_append,List.length_singleton];omega⟩,h7,Tl h8 hs⟩
 ·exact Nat.le_trans (List.length_filter_le _ _) h1
 ·intro n hn
  exact h2 n (List.mem_filter.1 hn).1
def okG(d d':Aa):Prop:=Sk d'∧d'.steps_.length≤d.steps_.length+1
theorem Ii{d:Aa}(h:Sk d):okG d d:=⟨h,Nat.le_succ _⟩
theorem W8{d:Aa}(h:B6 d=true):d.entries_.length≤16:=Xem (P4 h).2.2
section
variable {d:Aa} {name text a b:ByteArray}
theorem Jz(h:Sk d)(hl:d.steps_.length<1000000000)(hm:name.size≤500000000):okG d (Ax d name).1:=by
 unfold Ax
 split
 ·exact Ii h
 ·rename_i hr
  have hr:=by simpa using hr
  split
  ·exact Ii h
  ·split
   ·exact Ii h
   ·split
    ·exact Ii h
    ·rename_i hc
     have hri:=Lg hr
     have hz:=Ww (rfl:Cy d.next_=_) (by unfold Xfw;omega)
     refine⟨Yz ?_ (by show d.entries_.length≤_;omega) ?_ hl,by show(d.steps_++[_]).length≤_;rw[List.length_append];exact Nat.le_refl _⟩
     ·obtain⟨⟨h1,h2,h3⟩,h4⟩:=h
      refine⟨⟨by show(d.nodes_++[_]).length≤_;rw[List.length_append,List.length_singleton];omega,?_,h3⟩,h4⟩
      intro n hn
      rcases List.mem_append.1 hn with hn|hn
      ·exact h2 n hn
      ·rw[List.mem_singleton.1 hn]
       exact Nat.zero_le _
     ·simp only[ByteArray.size_append,A4,List.length_singleton]
      omega
theorem Qi(h:Sk d)(hl:d.steps_.length<1000000000)(hm:name.size≤500000000):okG d (Ch d name).1:=by
 unfold Ch
 split
 ·exact Ii h
 ·rename_i hr
  have hr:B6 d=true:=by
   cases hc:B6 d
   ·exact absurd (.inl hc) hr
   ·rfl
  refine⟨Yz h (by have:=W8 hr;omega) ?_ hl,by show(d.steps_++[_]).length≤_;rw[List.length_append];exact Nat.le_refl _⟩
  simp only[ByteArray.size_append,A4,List.length_singleton]
  omega
theorem XaN(h:Sk d)(hl:d.steps_.length<1000000000)(ha:a.size≤400000000)(hb:b.size≤400000000):okG d (Cv d a b).1:=by
 unfold Cv
 split
 ·exact Ii h
 ·rename_i hr
  have hr:B6 d=true:=by
   cases hc:B6 d
   ·exact absurd (.inl hc) hr
   ·rfl
  split
  ·exact Ii h
  ·refine⟨Yz h (by have:=W8 hr;omega) ?_ hl,by show(d.steps_++[_]).length≤_;rw[List.length_append];exact Nat.le_refl _⟩
   simp only[ByteArray.size_append,A4,List.length_singleton]
   omega
theorem P0(h:Sk d):okG d (Bp d name text).1:=by
 unfold Bp
 split
 ·exact Ii h
 ·rename_i hr
  have hk:0≤Cr d name:=Int.not_lt.1 fun k=>hr (.inr k)
  have hr:B6 d=true:=by
   cases hc:B6 d
   ·exact absurd (.inl hc) hr
   ·rfl
  have hri:=Lg hr
  have hu:=Xil (Xjo hk (Jp rfl).2)
  refine⟨Xhf h ?_,Nat.le_succ _⟩
  show((gN d (Cr d name)).text_++text.extract 0 _).size≤_
  rw[ByteArray.size_append,ByteArray.size_extract]
  omega
theorem Yd(h:Sk d):okG d (Dm d name).1:=by
 unfold Dm
 split
 ·exact Ii h
 ·rename_i hr
  have hk:0≤Cr d name:=Int.not_lt.1 fun k=>hr (.inr k)
  refine⟨Xhf (i:=Cr d name) h ?_,Nat.le_succ _⟩
  show(gN d (Cr d name)).text_.size≤_
  exact h.1.2.1 _ (Xjo hk (Jp rfl).2)
theorem Qm(h:Sk d):okG d (Do d):=by
 unfold Do
 split
 ·exact Ii h
 ·obtain⟨⟨h1,h2,h3,h4,h5,h6⟩,h7,h8⟩:=h
  refine⟨⟨⟨Nat.le_trans (List.length_filter_le _ _) h1,fun n hn=>h2 n (List.mem_filter.1 hn).1,h3,h4,h3,Nat.zero_le _⟩,h4,fun _ hs=>by cases hs⟩,Nat.zero_le _⟩
end
end
section
open Go Go.Proofs
set_option maxRecDepth 20000
set_option maxHeartbeats 4000000
end
section
open Go Go.Proofs
set_option maxRecDepth 20000
set_option maxHeartbeats 4000000
end
end Go.Proofs.YtjbmpmmffjgedaaGreatDoor.Ab
