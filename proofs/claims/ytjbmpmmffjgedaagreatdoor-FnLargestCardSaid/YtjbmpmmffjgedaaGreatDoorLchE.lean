/- What functions of the program come to, for all arguments in the given bounds. -/
import Derived.Test.YtjbmpmmffjgedaaGreatDoorLchN
import Derived.Test.YtjbmpmmffjgedaaGreatDoorLZ10
set_option linter.unusedVariables false
set_option linter.unusedSimpArgs false
namespace Go.Proofs.YtjbmpmmffjgedaaGreatDoor.Ab
section
open Go Go.Proofs
set_option maxRecDepth 20000
set_option maxHeartbeats 4000000
def Fi(b:List UInt8)(i h:Int)(l:List ByteArray):ByteArray×Int×Int:=match Ak b i h l.length with|(x,i,h)=>(l.getD x.toNat (tx []),i,h)
def XfD(b:List UInt8)(m:Int):Nat→Int→Int→Int→List ByteArray×Int×Int
 |0,_,i,h=>([],i,h)
 |f+1,k,i,h=>match Ak b i h (m+1)with|(x,i,h)=>if k<x then match Du b i h with|(y,i,h)=>match XfD b m f (k+1) i h with|(l,i,h)=>(y::l,i,h)else([],i,h)
def Ek(b:List UInt8)(i h m:Int):List ByteArray×Int×Int:=XfD b m (m.toNat+1) 0 i h
def Jo(b:List UInt8)(i h:Int):Bj×Int×Int:=match Ak b i h 2 with
 |(v,i,h)=>match Ak b i h 4 with|(s,i,h)=>match Ak b i h 9 with|(n,i,h)=>match Ak b i h 1000000 with|(l,i,h)=>(⟨1+v,1+s,n,l⟩,i,h)
def Xhm(t:ByteArray)(a z:Nat):ByteArray:=t.extract a z
def flipB(t:ByteArray)(k:Nat)(y:Int):UInt8:=UInt8.ofNat (Jz .xor .u8 (bAt t k) (IntKind.u8.wrap (1*2^min (IntKind.u64.wrap y).toNat IntKind.u8.bits))).toNat
def Dq(b:List UInt8)(i h:Int)(t:ByteArray):ByteArray×Int×Int:=if t=tx []then(t,i,h)else match Bq b i h 2 with
 |(o,i,h)=>if o=true then(t,i,h)else match Ak b i h t.size with
  |(k,i,h)=>match Ak b i h 4 with
   |(x,i,h)=>if x=0 then(Xhm t 0 k.toNat,i,h)else if x=1 then(Xhm t 0 k.toNat++Xhm t (k.toNat+1) t.size,i,h)
    else if x=2 then match Ak b i h 4 with|(y,i,h)=>match D6 b i h (1+y)with|(q,i,h)=>(t++q,i,h)
    else match Ak b i h 8 with|(y,i,h)=>(Xhm t 0 k.toNat++tx [flipB t k.toNat y]++Xhm t (k.toNat+1) t.size,i,h)
def Xhi(v:Int):Int→List ByteArray→ByteArray
 |_,[]=>tx []
 |p,x::l=>Am v p x++Xhi v (p+1) l
def Ep(h:Bj)(l:List ByteArray):ByteArray:=Bf h++Xhi h.version_ h.base_ l
def Hq(b:List UInt8)(i h:Int):ByteArray×Int×Int:=match Jo b i h with
 |(hd,i,h)=>match Ek b i h 6 with|(l,i,h)=>match Bq b i h 2 with|(o,i,h)=>if o=true then Dq b i h (Di hd l)else Dq b i h (Ep hd l)
def nmA:List ByteArray:=[tx [97],tx [98],tx [115,48,48,48,48,48,48,48,48,46,115,101,103],tx [115,48,48,48,48,48,48,48,51,46,115,101,103],tx [115,48,48,48,48,48,48,48,48,46,115,101,103,46,116,109,112],tx [99]]
def nmB:List ByteArray:=[tx [98],tx [120],tx [115,48,48,48,48,48,48,48,51,46,115,101,103]]
def Ha(b:List UInt8)(i h:Int)(d:Aa):Aa×Int×Int:=match Fi b i h nmA with
 |(n,i,h)=>match Ak b i h 8 with
  |(x,i,h)=>if x=0 then((Ce d n).1,i,h)else if x=1 then(Cc d,i,h)else if x=2 then((By d n).1,i,h)
   else if x=3 then match Fi b i h nmB with|(m,i,h)=>((Cu d n m).1,i,h)
   else if x=4∨x=5 then((Ap d n).1,i,h)
   else match Ak b i h 12 with|(y,i,h)=>match D6 b i h y with|(t,i,h)=>((Ai (Ap d n).1 n t).1,i,h)
def Xbe(b:List UInt8):Nat→Int→Int→Int→Aa→Aa×Int×Int
 |0,_,i,h,d=>(d,i,h)
 |f+1,k,i,h,d=>match Ak b i h 9 with|(x,i,h)=>if k<x then match Ha b i h d with|(d,i,h)=>Xbe b f (k+1) i h d else(d,i,h)
def Ih(b:List UInt8)(i h:Int):Aa×Int×Int:=match B9 b i h [4000,4000,4000,300,100]with|(r,i,h)=>Xbe b 9 0 i h (Cq r)
def Ex(b:List UInt8)(i h:Int)(d:Aa)(n t:ByteArray):Aa×Int×Int:=
 match Bq b i h 4 with
 |(o,i,h)=>
  let d:=(Ai (Ap (Ce d n).1 n).1 n t).1
  let d:=if o=true then d else(By d n).1
  match Bq b i h 4 with|(o,i,h)=>(if o=true then d else Cc d,i,h)
def D1(b:List UInt8)(i h:Int):Aa×Int×Int:=match Ih b i h with
 |(d,i,h)=>match Ak b i h 16 with
  |(x,i,h)=>if x=0 then match B9 b i h [-1,0,5,1000000001]with|(y,i,h)=>(⟨d.nodes_,d.entries_,d.old_,d.steps_,y,d.next_⟩,i,h)
   else if x=1 then match B9 b i h [0,1,2,-1,9223372036854775807]with|(y,i,h)=>(⟨d.nodes_,d.entries_,d.old_,d.steps_,d.room_,y⟩,i,h)
   else if x=2 then match Ak b i h 4 with|(y,i,h)=>(⟨d.nodes_,d.entries_++[⟨tx [122],y⟩],d.old_,d.steps_,d.room_,d.next_⟩,i,h)
   else if x=3 then(⟨d.nodes_,d.entries_,d.old_++[⟨tx [122],1⟩],d.steps_,d.room_,d.next_⟩,i,h)
   else if x=4 then match Fi b i h [tx [45,97],tx [43,113,58,49],tx [120],tx [],tx [43,113,58,57],tx [45,122,122],tx [43,58,49],tx [43,113,58]]with
    |(y,i,h)=>(⟨d.nodes_,d.entries_,d.old_,d.steps_++[y],d.room_,d.next_⟩,i,h)
   else if x=5 then match d.nodes_ with
    |[]=>(d,i,h)
    |n::l=>match B9 b i h [-1,0,99]with|(y,i,h)=>(⟨⟨n.id_,n.text_,y⟩::l,d.entries_,d.old_,d.steps_,d.room_,d.next_⟩,i,h)
   else if x=6 then match d.nodes_ with
    |n::m::l=>(⟨n::⟨n.id_,m.text_,m.sure_⟩::l,d.entries_,d.old_,d.steps_,d.room_,d.next_⟩,i,h)
    |_=>(d,i,h)
   else(d,i,h)
def Xfx(b:List UInt8)(i h link:Int):Int×Int×Int:=match Bq b i h 20 with|(o,i,h)=>(if o=true then Jz .xor .i64 link 1 else link,i,h)
def T6(b:List UInt8)(i h:Int)(hd:Bj)(rs:List ByteArray):ByteArray×Int×Int:=match Bq b i h 4 with|(o,i,h)=>(if o=true then Ep hd rs else Di hd rs,i,h)
def Tz(b:List UInt8)(i h:Int)(t:ByteArray):ByteArray×Int×Int:=match Bq b i h 6 with|(o,i,h)=>if o=true then Dq b i h t else(t,i,h)
def Nw(b:List UInt8):Nat→Int→Int→Int→Aa→Int→Int→Aa×Int×Int
 |0,_,i,h,d,_,_=>(d,i,h)
 |f+1,k,i,h,d,base,link=>match Ak b i h 5 with
  |(x,i,h)=>if k<x then match Ak b i h 2 with
   |(v,i,h)=>match Ak b i h 3 with
    |(s,i,h)=>match Du b i h with
     |(r,i,h)=>match Ek b i h 3 with
      |(l,i,h)=>match Bq b i h 20 with
       |(o,i,h)=>
        let rs:List ByteArray:=if o=true then[]else r::l
        match Xfx b i h link with
        |(lk,i,h)=>match T6 b i h ⟨1+v,1+s,base,lk⟩ rs with
         |(t,i,h)=>match Tz b i h t with
            |(t,i,h)=>match Ex b i h d (Af base) t with
             |(d,i,h)=>Nw b f (k+1) i h d (base+rs.length) (rs.foldl Dr link)
   else(d,i,h)
def Fs(b:List UInt8)(i h:Int):Aa×Int×Int:=match B9 b i h [6000,6000,6000,900]with
 |(r,i,h)=>match Nw b 5 0 i h (Cq r) 0 0 with
  |(d,i,h)=>match Ak b i h 6 with
   |(x,i,h)=>if x=0 then match Ak b i h 4 with|(y,i,h)=>Ex b i h d (Gx y) (tx [104,97,108,102])
    else if x=1 then match Ak b i h 9 with|(y,i,h)=>match Hq b i h with|(t,i,h)=>Ex b i h d (Af (20+y)) t
    else if x=2 then Ex b i h d (tx [114,101,97,100,109,101]) (tx [115,111,109,101,32,116,101,120,116])
    else(d,i,h)
def Jw(b:List UInt8)(i h:Int):Aa×Int×Int:=match Bq b i h 10 with|(o,i,h)=>if o=true then D1 b i h else Fs b i h
def okE(m:Nat)(d:Aa):Prop:=Hz d∧d.steps_.length≤m∧d.entries_.length≤m∧d.old_.length≤m
def okX(d d':Aa):Prop:=d'.entries_.length≤d.entries_.length+1∧(d'.old_=d.old_∨d'.old_=d.entries_)
theorem Mi(d:Aa):okX d d:=⟨Nat.le_succ _,.inl rfl⟩
theorem okE.of{m:Nat}{d d':Aa}(h:okE m d)(g:okG d d')(x:okX d d'):okE (m+1) d':=by
 obtain⟨h1,h2,h3,h4⟩:=h
 obtain⟨g1,g2⟩:=g
 obtain⟨x1,x2⟩:=x
 refine⟨g1,by omega,by omega,?_⟩
 rcases x2 with e|e<;>rw[e]<;>omega
theorem okE.st{m:Nat}{d:Aa}(h:okE m d)(hm:m≤1000):d.steps_.length<1000000000:=by have:=h.2.1;omega
theorem okE.up{m n:Nat}{d:Aa}(h:okE m d)(hn:m≤n):okE n d:=by
 obtain⟨h1,h2,h3,h4⟩:=h
 exact⟨h1,by omega,by omega,by omega⟩
theorem XaV{d:Aa}{s:ByteArray}:okX d (K2 d s):=by
 obtain⟨e,b,hy⟩:∃e b,Bb d.entries_ s=(e,b):=⟨_,_,rfl⟩
 have hlen:=Te hy
 unfold K2
 rw[hy]
 exact⟨by show e.length≤_;omega,.inl rfl⟩
theorem Ks{d:Aa}{name:ByteArray}:okX d (Ap d name).1:=by
 unfold Ap
 repeat' split
 all_goals first|exact Mi d|exact(XaV:okX (⟨_,d.entries_,d.old_,_,_,_⟩:Aa) _)
theorem Q6{d:Aa}{name:ByteArray}:okX d (Ce d name).1:=by
 unfold Ce
 split
 ·exact Mi d
 ·exact XaV
theorem XbM{d:Aa}{a b:ByteArray}:okX d (Cu d a b).1:=by
 unfold Cu
 repeat' split
 all_goals first|exact Mi d|exact XaV
theorem Q0{d:Aa}{name text:ByteArray}:okX d (Ai d name text).1:=by
 unfold Ai
 split
 ·exact Mi d
 ·exact⟨Nat.le_succ _,.inl rfl⟩
theorem Xcg{d:Aa}{name:ByteArray}:okX d (By d name).1:=by
 unfold By
 split
 ·exact Mi d
 ·exact⟨Nat.le_succ _,.inl rfl⟩
theorem R6{d:Aa}:okX d (Cc d):=by
 unfold Cc
 split
 ·exact Mi d
 ·exact⟨Nat.le_succ _,.inr rfl⟩
theorem Ip{b:List UInt8}{i h oi oh:Int}{l:List ByteArray}{o:ByteArray}{n:Nat}(e:Fi b i h l=(o,oi,oh))(hc:0≤i∧i≤b.length∧b.length≤1000000000000)(hl:∀x∈l,x.size≤n):o.size≤n∧0≤oi∧oi≤b.length:=by
 unfold Fi at e
 rcases h1:Ak b i h l.length with⟨x,i1,h1'⟩
 have z1:=Au h1 hc
 simp only[h1,Prod.mk.injEq]at e
 refine⟨?_,by omega⟩
 rw[←e.1,List.getD_eq_getElem?_getD]
 rcases h2:l[x.toNat]? with _|y
 ·exact Nat.zero_le _
 ·exact hl y (List.mem_of_getElem? h2)
theorem Xgy{b:List UInt8}{i h oi oh:Int}{d o:Aa}{m:Nat}(e:Ha b i h d=(o,oi,oh))(hc:0≤i∧i≤b.length∧b.length≤1000000000000)(hd:okE m d)(hm:m≤1000):okE (m+2) o∧0≤oi∧oi≤b.length:=by
 unfold Ha at e
 have hs:=hd.2.1
 rcases h1:Fi b i h nmA with⟨n,i1,h1'⟩
 have z1:=Ip (n:=100) h1 hc (by decide)
 rcases h2:Ak b i1 h1' 8 with⟨x,i2,h2'⟩
 have z2:=Au h2 (by omega)
 simp only[h1,h2]at e
 split at e
 ·simp only[Prod.mk.injEq]at e
  rw[←e.1,←e.2.1]
  exact⟨(hd.of (O4 hd.1 (by omega) (by omega)) Q6).up (by omega),z2.2⟩
 split at e
 ·simp only[Prod.mk.injEq]at e
  rw[←e.1,←e.2.1]
  exact⟨(hd.of (Mr hd.1) R6).up (by omega),z2.2⟩
 split at e
 ·simp only[Prod.mk.injEq]at e
  rw[←e.1,←e.2.1]
  exact⟨(hd.of (L6 hd.1) Xcg).up (by omega),z2.2⟩
 split at e
 ·rcases h3:Fi b i2 h2' nmB with⟨q,i3,h3'⟩
  have z3:=Ip (n:=100) h3 (by omega) (by decide)
  simp only[h3,Prod.mk.injEq]at e
  rw[←e.1,←e.2.1]
  exact⟨(hd.of (Xh hd.1 (by omega) (by omega) (by omega)) XbM).up (by omega),z3.2⟩
 split at e
 ·simp only[Prod.mk.injEq]at e
  rw[←e.1,←e.2.1]
  exact⟨(hd.of (Gb hd.1 (by omega) (by omega)) Ks).up (by omega),z2.2⟩
 rcases h3:Ak b i2 h2' 12 with⟨y,i3,h3'⟩
 have z3:=Au h3 (by omega)
 rcases h4:D6 b i3 h3' y with⟨t,i4,h4'⟩
 have z4:=Gq h4 (by omega)
 simp only[h3,h4,Prod.mk.injEq]at e
 rw[←e.1,←e.2.1]
 have g:=hd.of (Gb (name:=n) hd.1 (by omega) (by omega)) Ks
 exact⟨g.of (F7 g.1) Q0,z4.2⟩
theorem XgV{b:List UInt8}:∀{f:Nat} {k i h oi oh:Int} {d o:Aa} {m:Nat},Xbe b f k i h d=(o,oi,oh)→(0≤i∧i≤b.length∧b.length≤1000000000000)→okE m d→m+2*f≤1000→okE (m+2*f) o∧0≤oi∧oi≤b.length
 |0,k,i,h,oi,oh,d,o,m,e,hc,hd,hm=>by
  simp only[Xbe,Prod.mk.injEq]at e
  rw[←e.1,←e.2.1];exact⟨hd,hc.1,hc.2.1⟩
 |f+1,k,i,h,oi,oh,d,o,m,e,hc,hd,hm=>by
  rcases h1:Ak b i h 9 with⟨x,i1,h1'⟩
  have z1:=Au h1 hc
  simp only[Xbe,h1]at e
  split at e
  ·rcases h2:Ha b i1 h1' d with⟨d2,i2,h2'⟩
   have z2:=Xgy h2 (by omega) hd (by omega)
   simp only[h2]at e
   have:=XgV e (by omega) z2.1 (by omega)
   exact⟨this.1.up (by omega),this.2⟩
  ·simp only[Prod.mk.injEq]at e
   rw[←e.1,←e.2.1];exact⟨hd.up (by omega),z1.2⟩
theorem Xb(r:Int):okE 0 (Cq r):=⟨by unfold Hz okD Cq okL okS;simp,Nat.le_refl _,Nat.le_refl _,Nat.le_refl _⟩
theorem Us{b:List UInt8}{i h oi oh:Int}{o:Aa}(e:Ih b i h=(o,oi,oh))(hc:0≤i∧i≤b.length∧b.length≤1000000000000):okE 18 o∧0≤oi∧oi≤b.length:=by
 unfold Ih at e
 rcases h1:B9 b i h [4000,4000,4000,300,100]with⟨r,i1,h1'⟩
 have z1:=Dy h1 hc
 simp only[h1]at e
 exact XgV e (by omega) (Xb r) (by omega)
theorem G6{b:List UInt8}{i h oi oh:Int}{d o:Aa}{n t:ByteArray}{m:Nat}(e:Ex b i h d n t=(o,oi,oh))(hc:0≤i∧i≤b.length∧b.length≤1000000000000)(hd:okE m d)(hm:m≤1000)(hn:n.size≤1000):okE (m+5) o∧0≤oi∧oi≤b.length:=by
 unfold Ex at e
 rcases h1:Bq b i h 4 with⟨o1,i1,h1'⟩
 have z1:=Cd h1 hc
 rcases h2:Bq b i1 h1' 4 with⟨o2,i2,h2'⟩
 have z2:=Cd h2 (by omega)
 simp only[h1,h2,Prod.mk.injEq]at e
 have hs:=hd.2.1
 have g1:=hd.of (O4 (name:=n) hd.1 (by omega) (by omega)) Q6
 have g1s:=g1.2.1
 have g2:=g1.of (Gb (name:=n) g1.1 (by omega) (by omega)) Ks
 have g3:=g2.of (F7 (name:=n) (text:=t) g2.1) Q0
 have g4:okE (m+4) (if o1=true then(Ai (Ap (Ce d n).1 n).1 n t).1 else(By (Ai (Ap (Ce d n).1 n).1 n t).1 n).1):=by
  split
  ·exact g3.up (by omega)
  ·exact g3.of (L6 g3.1) Xcg
 rw[←e.1,←e.2.1]
 refine⟨?_,z2⟩
 generalize(if o1=true then(Ai (Ap (Ce d n).1 n).1 n t).1 else(By (Ai (Ap (Ce d n).1 n).1 n t).1 n).1)=d4 at g4⊢
 split
 ·exact g4.up (by omega)
 ·exact g4.of (Mr g4.1) R6
theorem Zd{b:List UInt8}{i h oi oh:Int}{o:Aa}(e:D1 b i h=(o,oi,oh))(hc:0≤i∧i≤b.length∧b.length≤1000000000000):Hz o∧0≤oi∧oi≤b.length:=by
 unfold D1 at e
 rcases h1:Ih b i h with⟨d,i1,h1'⟩
 have z1:=Us h1 hc
 rcases h2:Ak b i1 h1' 16 with⟨x,i2,h2'⟩
 have z2:=Au h2 (by omega)
 simp only[h1,h2]at e
 obtain⟨⟨⟨⟨k1,k2,k3,k4,k5,k6⟩,k7,k8⟩,n1,n2,n3⟩,-⟩:=z1
 split at e
 ·rcases h3:B9 b i2 h2' [-1,0,5,1000000001]with⟨y,i3,h3'⟩
  have z3:=Dy h3 (by omega)
  simp only[h3,Prod.mk.injEq]at e
  rw[←e.1,←e.2.1];exact⟨⟨⟨k1,k2,k3,k4,k5,k6⟩,k7,k8⟩,z3⟩
 split at e
 ·rcases h3:B9 b i2 h2' [0,1,2,-1,9223372036854775807]with⟨y,i3,h3'⟩
  have z3:=Dy h3 (by omega)
  simp only[h3,Prod.mk.injEq]at e
  rw[←e.1,←e.2.1];exact⟨⟨⟨k1,k2,k3,k4,k5,k6⟩,k7,k8⟩,z3⟩
 split at e
 ·rcases h3:Ak b i2 h2' 4 with⟨y,i3,h3'⟩
  have z3:=Au h3 (by omega)
  simp only[h3,Prod.mk.injEq]at e
  rw[←e.1,←e.2.1]
  refine⟨⟨⟨k1,k2,by show(d.entries_++[_]).length≤_;rw[List.length_append,List.length_singleton];omega,fun z hz=>?_,k5,k6⟩,k7,k8⟩,z3.2⟩
  rcases List.mem_append.1 hz with hz|hz
  ·exact k4 z hz
  ·rw[List.mem_singleton.1 hz];show(tx [122]).size≤_;decide
 split at e
 ·simp only[Prod.mk.injEq]at e
  rw[←e.1,←e.2.1]
  refine⟨⟨⟨k1,k2,k3,k4,by show(d.old_++[_]).length≤_;rw[List.length_append,List.length_singleton];omega,k6⟩,fun z hz=>?_,k8⟩,z2.2⟩
  rcases List.mem_append.1 hz with hz|hz
  ·exact k7 z hz
  ·rw[List.mem_singleton.1 hz];show(tx [122]).size≤_;decide
 split at e
 ·rcases h3:Fi b i2 h2' [tx [45,97],tx [43,113,58,49],tx [120],tx [],tx [43,113,58,57],tx [45,122,122],tx [43,58,49],tx [43,113,58]]with⟨y,i3,h3'⟩
  have z3:=Ip (n:=100) h3 (by omega) (by decide)
  simp only[h3,Prod.mk.injEq]at e
  rw[←e.1,←e.2.1]
  refine⟨⟨⟨k1,k2,k3,k4,k5,by show(d.steps_++[_]).length≤_;rw[List.length_append,List.length_singleton];omega⟩,k7,fun z hz=>?_⟩,z3.2⟩
  rcases List.mem_append.1 hz with hz|hz
  ·exact k8 z hz
  ·rw[List.mem_singleton.1 hz];omega
 split at e
 ·split at e
  ·simp only[Prod.mk.injEq]at e
   rw[←e.1,←e.2.1];exact⟨⟨⟨k1,k2,k3,k4,k5,k6⟩,k7,k8⟩,z2.2⟩
  ·rename_i n l hl
   rcases h3:B9 b i2 h2' [-1,0,99]with⟨y,i3,h3'⟩
   have z3:=Dy h3 (by omega)
   simp only[h3,Prod.mk.injEq]at e
   rw[hl]at k1 k2
   rw[←e.1,←e.2.1]
   refine⟨⟨⟨k1,fun z hz=>?_,k3,k4,k5,k6⟩,k7,k8⟩,z3⟩
   rcases List.mem_cons.1 hz with rfl|hz
   ·exact k2 n (by simp)
   ·exact k2 z (by simp[hz])
 split at e
 ·split at e
  ·rename_i n m l hl
   simp only[Prod.mk.injEq]at e
   rw[hl]at k1 k2
   rw[←e.1,←e.2.1]
   refine⟨⟨⟨k1,fun z hz=>?_,k3,k4,k5,k6⟩,k7,k8⟩,z2.2⟩
   rcases List.mem_cons.1 hz with rfl|hz
   ·exact k2 _ (by simp)
   ·rcases List.mem_cons.1 hz with rfl|hz
    ·exact k2 m (by simp)
    ·exact k2 z (by simp[hz])
  ·simp only[Prod.mk.injEq]at e
   rw[←e.1,←e.2.1];exact⟨⟨⟨k1,k2,k3,k4,k5,k6⟩,k7,k8⟩,z2.2⟩
 ·simp only[Prod.mk.injEq]at e
  rw[←e.1,←e.2.1];exact⟨⟨⟨k1,k2,k3,k4,k5,k6⟩,k7,k8⟩,z2.2⟩
theorem XgL{b:List UInt8}{m:Int}:∀{f:Nat} {k i h oi oh:Int} {l:List ByteArray},XfD b m f k i h=(l,oi,oh)→(0≤i∧i≤b.length∧b.length≤1000000000000)→0≤m→0≤k→(l.length≤f∧(k+l.length≤m∨l.length=0)∧∀x∈l,x.size≤60)∧0≤oi∧oi≤b.length
 |0,k,i,h,oi,oh,l,e,hc,hm,hk=>by
  simp only[XfD,Prod.mk.injEq]at e
  rw[←e.1,←e.2.1];exact⟨⟨Nat.le_refl _,.inr rfl,fun x hx=>by cases hx⟩,hc.1,hc.2.1⟩
 |f+1,k,i,h,oi,oh,l,e,hc,hm,hk=>by
  rcases h1:Ak b i h (m+1)with⟨x,i1,h1'⟩
  have z1:=Au h1 hc
  simp only[XfD,h1]at e
  split at e
  ·rcases h2:Du b i1 h1' with⟨y,i2,h2'⟩
   have z2:=Jf h2 (by omega)
   rcases h3:XfD b m f (k+1) i2 h2' with⟨l3,i3,h3'⟩
   have z3:=XgL h3 (by omega) hm (by omega)
   simp only[h2,h3,Prod.mk.injEq]at e
   rw[←e.1,←e.2.1,List.length_cons]
   refine⟨⟨by omega,by omega,fun z hz=>?_⟩,z3.2⟩
   rcases List.mem_cons.1 hz with rfl|hz
   ·exact z2.1
   ·exact z3.1.2.2 z hz
  ·simp only[Prod.mk.injEq]at e
   rw[←e.1,←e.2.1];exact⟨⟨Nat.zero_le _,.inr rfl,fun x hx=>by cases hx⟩,z1.2⟩
theorem Ic{b:List UInt8}{i h m oi oh:Int}{l:List ByteArray}(e:Ek b i h m=(l,oi,oh))(hc:0≤i∧i≤b.length∧b.length≤1000000000000)(hm:0≤m):((l.length:Int)≤m∧∀x∈l,x.size≤60)∧0≤oi∧oi≤b.length:=by
 have h:=XgL e hc hm (by omega)
 exact⟨⟨by omega,h.1.2.2⟩,h.2⟩
theorem Vb{b:List UInt8}{i h oi oh:Int}{o:Bj}(e:Jo b i h=(o,oi,oh))(hc:0≤i∧i≤b.length∧b.length≤1000000000000):((1≤o.version_∧o.version_≤2)∧(1≤o.stride_∧o.stride_≤4)∧(0≤o.base_∧o.base_≤8)∧(0≤o.link_∧o.link_<1000000))∧0≤oi∧oi≤b.length:=by
 unfold Jo at e
 rcases h1:Ak b i h 2 with⟨x,i1,h1'⟩
 have z1:=Au h1 hc
 rcases h2:Ak b i1 h1' 4 with⟨y,i2,h2'⟩
 have z2:=Au h2 (by omega)
 rcases h3:Ak b i2 h2' 9 with⟨z,i3,h3'⟩
 have z3:=Au h3 (by omega)
 rcases h4:Ak b i3 h3' 1000000 with⟨w,i4,h4'⟩
 have z4:=Au h4 (by omega)
 simp only[h1,h2,h3,h4,Prod.mk.injEq]at e
 rw[←e.1,←e.2.1]
 dsimp only
 omega
theorem XgR(t:ByteArray)(a z:Nat):(Xhm t a z).size≤t.size:=by
 unfold Xhm
 rw[ByteArray.size_extract]
 omega
theorem Hl{b:List UInt8}{i h oi oh:Int}{t o:ByteArray}(e:Dq b i h t=(o,oi,oh))(hc:0≤i∧i≤b.length∧b.length≤1000000000000):o.size≤2*t.size+4∧0≤oi∧oi≤b.length:=by
 unfold Dq at e
 split at e
 ·simp only[Prod.mk.injEq]at e
  rw[←e.1,←e.2.1];exact⟨by omega,hc.1,hc.2.1⟩
 rcases h1:Bq b i h 2 with⟨x,i1,h1'⟩
 have z1:=Cd h1 hc
 simp only[h1]at e
 split at e
 ·simp only[Prod.mk.injEq]at e
  rw[←e.1,←e.2.1];exact⟨by omega,z1⟩
 rcases h2:Ak b i1 h1' t.size with⟨k,i2,h2'⟩
 have z2:=Au h2 (by omega)
 rcases h3:Ak b i2 h2' 4 with⟨x,i3,h3'⟩
 have z3:=Au h3 (by omega)
 simp only[h2,h3]at e
 have c1:=XgR t 0 k.toNat
 have c2:=XgR t (k.toNat+1) t.size
 split at e
 ·simp only[Prod.mk.injEq]at e
  rw[←e.1,←e.2.1];exact⟨by omega,z3.2⟩
 split at e
 ·simp only[Prod.mk.injEq]at e
  rw[←e.1,←e.2.1,ByteArray.size_append];exact⟨by omega,z3.2⟩
 split at e
 ·rcases h4:Ak b i3 h3' 4 with⟨y,i4,h4'⟩
  have z4:=Au h4 (by omega)
  rcases h5:D6 b i4 h4' (1+y)with⟨q,i5,h5'⟩
  have z5:=Gq h5 (by omega)
  simp only[h4,h5,Prod.mk.injEq]at e
  rw[←e.1,←e.2.1,ByteArray.size_append];exact⟨by omega,z5.2⟩
 ·rcases h4:Ak b i3 h3' 8 with⟨y,i4,h4'⟩
  have z4:=Au h4 (by omega)
  simp only[h4,Prod.mk.injEq]at e
  rw[←e.1,←e.2.1,ByteArray.size_append,ByteArray.size_append,Bo,List.length_singleton];exact⟨by omega,z4.2⟩
theorem XgZ{v:Int}:∀{l:List ByteArray} {p:Int},(Xhi v p l).size≤84*l.length
 |[],_=>by simp[Xhi,Bo]
 |x::l,p=>by
  have h1:=XgZ (v:=v) (l:=l) (p:=p+1)
  have h2:=Bz (rfl:Am v p x=_)
  unfold Xhi
  rw[ByteArray.size_append,List.length_cons]
  omega
theorem I7{h:Bj}{l:List ByteArray}{o:ByteArray}(e:Ep h l=o):o.size≤50+84*l.length:=by
 have h1:=Fr (rfl:Bf h=_)
 have h2:=XgZ (v:=h.version_) (l:=l) (p:=h.base_)
 rw[←e]
 unfold Ep
 rw[ByteArray.size_append]
 omega
theorem U9{b:List UInt8}{i h oi oh:Int}{o:ByteArray}(e:Hq b i h=(o,oi,oh))(hc:0≤i∧i≤b.length∧b.length≤1000000000000):o.size≤500000∧0≤oi∧oi≤b.length:=by
 unfold Hq at e
 rcases h1:Jo b i h with⟨hd,i1,h1'⟩
 have z1:=Vb h1 hc
 rcases h2:Ek b i1 h1' 6 with⟨l,i2,h2'⟩
 have z2:=Ic h2 (by omega) (by omega)
 rcases h3:Bq b i2 h2' 2 with⟨x,i3,h3'⟩
 have z3:=Cd h3 (by omega)
 simp only[h1,h2,h3]at e
 split at e
 ·have h4:=Hl e (by omega)
  have h5:=Kl (rfl:Di hd l=_)
  omega
 ·have h4:=Hl e (by omega)
  have h5:=I7 (rfl:Ep hd l=_)
  omega
theorem Xiu{b:List UInt8}{i h link o oi oh:Int}(e:Xfx b i h link=(o,oi,oh))(hc:0≤i∧i≤b.length∧b.length≤1000000000000):0≤oi∧oi≤b.length:=by
 unfold Xfx at e
 rcases h1:Bq b i h 20 with⟨x,i1,h1'⟩
 have z1:=Cd h1 hc
 simp only[h1,Prod.mk.injEq]at e
 rw[←e.2.1];exact z1
theorem Xg7{b:List UInt8}{i h oi oh:Int}{hd:Bj}{rs:List ByteArray}{o:ByteArray}(e:T6 b i h hd rs=(o,oi,oh))(hc:0≤i∧i≤b.length∧b.length≤1000000000000):0≤oi∧oi≤b.length:=by
 unfold T6 at e
 rcases h1:Bq b i h 4 with⟨x,i1,h1'⟩
 have z1:=Cd h1 hc
 simp only[h1,Prod.mk.injEq]at e
 rw[←e.2.1];exact z1
theorem XhH{b:List UInt8}{i h oi oh:Int}{t o:ByteArray}(e:Tz b i h t=(o,oi,oh))(hc:0≤i∧i≤b.length∧b.length≤1000000000000):0≤oi∧oi≤b.length:=by
 unfold Tz at e
 rcases h1:Bq b i h 6 with⟨x,i1,h1'⟩
 have z1:=Cd h1 hc
 simp only[h1]at e
 split at e
 ·exact(Hl e (by omega)).2
 ·simp only[Prod.mk.injEq]at e
  rw[←e.2.1];exact z1
theorem Xfm{b:List UInt8}:∀{f:Nat} {k i h oi oh base link:Int} {d o:Aa} {m:Nat},Nw b f k i h d base link=(o,oi,oh)→(0≤i∧i≤b.length∧b.length≤1000000000000)→okE m d→m+5*f≤1000→okE (m+5*f) o∧0≤oi∧oi≤b.length
 |0,k,i,h,oi,oh,base,link,d,o,m,e,hc,hd,hm=>by
  simp only[Nw,Prod.mk.injEq]at e
  rw[←e.1,←e.2.1];exact⟨hd,hc.1,hc.2.1⟩
 |f+1,k,i,h,oi,oh,base,link,d,o,m,e,hc,hd,hm=>by
  rcases h1:Ak b i h 5 with⟨x,i1,h1'⟩
  have z1:=Au h1 hc
  simp only[Nw,h1]at e
  split at e
  ·rcases h2:Ak b i1 h1' 2 with⟨v,i2,h2'⟩
   have z2:=Au h2 (by omega)
   rcases h3:Ak b i2 h2' 3 with⟨s,i3,h3'⟩
   have z3:=Au h3 (by omega)
   rcases h4:Du b i3 h3' with⟨r,i4,h4'⟩
   have z4:=Jf h4 (by omega)
   rcases h5:Ek b i4 h4' 3 with⟨l,i5,h5'⟩
   have z5:=Ic h5 (by omega) (by omega)
   rcases h6:Bq b i5 h5' 20 with⟨o6,i6,h6'⟩
   have z6:=Cd h6 (by omega)
   simp only[h2,h3,h4,h5,h6]at e
   generalize hrs:(if o6=true then([]:List ByteArray)else r::l)=rs at e
   rcases h7:Xfx b i6 h6' link with⟨lk,i7,h7'⟩
   have z7:=Xiu h7 (by omega)
   rcases h8:T6 b i7 h7' ⟨1+v,1+s,base,lk⟩ rs with⟨t,i8,h8'⟩
   have z8:=Xg7 h8 (by omega)
   rcases h10:Tz b i8 h8' t with⟨t2,aa,h10'⟩
   have ac:=XhH h10 (by omega)
   rcases h11:Ex b aa h10' d (Af base) t2 with⟨d2,ad,h11'⟩
   have ab:=G6 h11 (by omega) hd (by omega) (by have:=Ea (n:=base) rfl;omega)
   simp only[h7,h8,h10,h11]at e
   have:=Xfm e (by omega) ab.1 (by omega)
   exact⟨this.1.up (by omega),this.2⟩
  ·simp only[Prod.mk.injEq]at e
   rw[←e.1,←e.2.1];exact⟨hd.up (by omega),z1.2⟩
theorem Vs{b:List UInt8}{i h oi oh:Int}{o:Aa}(e:Fs b i h=(o,oi,oh))(hc:0≤i∧i≤b.length∧b.length≤1000000000000):okE 30 o∧0≤oi∧oi≤b.length:=by
 unfold Fs at e
 rcases h1:B9 b i h [6000,6000,6000,900]with⟨r,i1,h1'⟩
 have z1:=Dy h1 hc
 rcases h2:Nw b 5 0 i1 h1' (Cq r) 0 0 with⟨d,i2,h2'⟩
 have z2:=Xfm h2 (by omega) (Xb r) (by omega)
 rcases h3:Ak b i2 h2' 6 with⟨x,i3,h3'⟩
 have z3:=Au h3 (by omega)
 simp only[h1,h2,h3]at e
 split at e
 ·rcases h4:Ak b i3 h3' 4 with⟨y,i4,h4'⟩
  have z4:=Au h4 (by omega)
  simp only[h4]at e
  exact G6 e (by omega) z2.1 (by omega) (by have:=Rx (n:=y) rfl;omega)
 split at e
 ·rcases h4:Ak b i3 h3' 9 with⟨y,i4,h4'⟩
  have z4:=Au h4 (by omega)
  rcases h5:Hq b i4 h4' with⟨t,i5,h5'⟩
  have z5:=U9 h5 (by omega)
  simp only[h4,h5]at e
  exact G6 e (by omega) z2.1 (by omega) (by have:=Ea (n:=20+y) rfl;omega)
 split at e
 ·exact G6 e (by omega) z2.1 (by omega) (by decide)
 ·simp only[Prod.mk.injEq]at e
  rw[←e.1,←e.2.1];exact⟨z2.1.up (by omega),z3.2⟩
theorem Zh{b:List UInt8}{i h oi oh:Int}{o:Aa}(e:Jw b i h=(o,oi,oh))(hc:0≤i∧i≤b.length∧b.length≤1000000000000):Hz o∧0≤oi∧oi≤b.length:=by
 unfold Jw at e
 rcases h1:Bq b i h 10 with⟨x,i1,h1'⟩
 have z1:=Cd h1 hc
 simp only[h1]at e
 split at e
 ·exact Zd e (by omega)
 ·have:=Vs e (by omega)
  exact⟨this.1.1,this.2⟩
end
section
open Go Go.Proofs
set_option maxRecDepth 20000
set_option maxHeartbeats 4000000
def Xbq:List (Nat×TyRow):=[ty3,ty5,ty9,XfZ,Xax,Xbj,XfU,Xin,Xit,Xht]
theorem XaN:B3 Tryz.prog Xbq:=B3.of (by kernel_rfl)
theorem Hk:Setup Tryz.prog Xbq:=⟨XaN,mixed⟩
theorem xor8(a b:Int):0≤Jz .xor .u8 a b∧Jz .xor .u8 a b<256:=by
 have h:Jz .xor .u8 a b=IntKind.u8.wrap (BitVec.ofInt 8 a^^^BitVec.ofInt 8 b).toNat:=rfl
 rw[h,Gj]
 omega
variable {cb code:List UInt8} {xcb De Dd Db Dc xcode:List (List D)} {ci ch oi oh oroo onex:Int} {o:ByteArray} {onod:List B5} {oent oold:List Ag} {oste:List ByteArray} {nonod noent noold noste:Nat}
theorem Sv{list:List ByteArray}{xlist:List (List D)}(hcb:cb.map cB=xcb)(hlist:list.map cS=xlist)(hc:0≤ci∧ci≤cb.length∧cb.length≤1000000000000)(hl:0<list.length∧list.length≤1000)(hr:Fi cb ci ch list=(o,oi,oh)):Fn Tryz.prog 176 [.ptr 0 0 0,.d (.row 1 xlist)] [.box 140 [.d (.row 1 xcb),I ci,I ch]] ⟨S o,[],[(0,.box 140 [.d (.row 1 xcb),I oi,I oh])]⟩:=by
 refine Fn.goR Hk Tryz.func176 fun P hP Q hQ=>?_
 conv=>cbv
 refine .go hlist fun v1 ab=>?_
 conv=>cbv
 have ae:v1=(list.length:Int):=ab
 rcases aa:Ak cb ci ch v1 with⟨d3,ri3,rh3⟩
 have zr3:=Au aa (by omega)
 refine .bx [0] [] hP (Bw hcb (by omega) aa) rfl rfl rfl rfl ?_
 conv=>cbv
 refine .go d3.toNat hlist fun ac e4 ad=>?_
 conv=>cbv
 have e:(e4,ri3,rh3)=Fi cb ci ch list:=(by unfold Fi;rw[←ab];simp only[aa];rw[List.getD_eq_getElem?_getD,List.getElem?_eq_getElem ac,Option.getD_some,←ad])
 rw[hr]at e
 simp only[Prod.mk.injEq]at e
 obtain⟨rfl,rfl,rfl⟩:=e
 exact hQ _ _ (.of [] (.inl rfl) rfl rfl rfl rfl)
theorem Qi{most:Int}{o:List ByteArray}{xo:List (List D)}{no:Nat}(hcb:cb.map cB=xcb)(hc:0≤ci∧ci≤cb.length∧cb.length≤1000000000000)(hm:0≤most∧most≤100)(ho:o.map cS=xo)(hr:Ek cb ci ch most=(o,oi,oh))(hno:no=o.length):Fn Tryz.prog 96 [.ptr 0 0 0,I most] [.box 140 [.d (.row 1 xcb),I ci,I ch]] ⟨.ref 1 0 no,[.row 1 false xo],[(0,.box 140 [.d (.row 1 xcb),I oi,I oh])]⟩:=by
 refine Fn.goR Hk Tryz.func96 fun P hP Q hQ=>?_
 conv=>cbv
 refine LoopW.lp (κ:=Int×Int×Int×(List (List D))×Nat) Hk hP [2] [0,1] (fun(i6,aa,ab,ac,ad)=>[(5,.ref 3 0 ad),(6,I i6)]) (fun(i6,aa,ab,ac,ad)=>[(0,.box 140 [.d (.row 1 xcb),I aa,I ab]),(3,.row 1 false ac)])
  (fun(i6,aa,ab,ac,ad)=>∃(w3:List ByteArray),w3.map cS=ac∧ad=w3.length∧0≤i6∧i6≤most∧(0≤aa∧aa≤cb.length)∧w3.length=i6.toNat∧Ek cb ci ch most=(match XfD cb most (most.toNat+1 - i6.toNat) i6 aa ab with|(l,i,h)=>(w3++l,i,h)))
  (fun(i6,aa,ab,ac,ad)=>(most - i6).toNat) (0,ci,ch,[],0) ⟨[],rfl,rfl,by omega,by omega,by omega,rfl,by unfold Ek;simp⟩ ⟨rfl,rfl,trivial⟩ rfl ?_
 rintro⟨i6,aa,ab,ac,ad⟩ J ⟨w3,ag,al,h0,h1,hcu,hwl,hw⟩ hJ
 conv=>cbv
 refine .add fun v1 ah=>?_
 conv=>cbv
 rcases ae:Ak cb aa ab v1 with⟨d3,ri3,rh3⟩
 have zr3:=Au ae (by omega)
 refine .bx [0] [] hP (Bw hcb (by omega) ae) rfl rfl rfl rfl ?_
 conv=>cbv
 refine .lss (fun h4=>?_) fun h4=>?_
 conv=>cbv
 rcases af:Du cb ri3 rh3 with⟨d6,ri6,rh6⟩
 have zr6:=Jf af (by omega)
 refine .bx [0] [] hP (Sh hcb (by omega) af) rfl rfl rfl rfl ?_
 conv=>cbv
 refine .one d6 ag rfl fun ai z7 am aj=>?_
 conv=>cbv
 refine .add fun v8 ak=>?_
 conv=>cbv
 exact .go [5] (v8,ri6,rh6,z7,ai) (hJ _ ⟨_,aj,Em,by omega,by omega,by omega,by rw[List.length_append,hwl];simp;omega,by rw[hw,show most.toNat+1 - i6.toNat=(most.toNat+1 - v8.toNat)+1 by omega,ak];simp only[XfD,←ah,ae];rw[if_pos (by omega)];simp only[af];simp⟩ mlt)
 conv=>cbv
 have e:(w3,ri3,rh3)=Ek cb ci ch most:=(by rw[hw,show most.toNat+1 - i6.toNat=(most.toNat - i6.toNat)+1 by omega];simp only[XfD,←ah,ae];rw[if_neg (by omega)];simp)
 rw[hr]at e
 simp only[Prod.mk.injEq]at e
 obtain⟨rfl,rfl,rfl⟩:=e
 obtain rfl:ac=xo:=by rw[←ag,←ho]
 obtain rfl:ad=no:=by first|omega|(rw[hno];simp;done)|(rw[hno];simp;omega)
 exact hQ _ _ (.of [3] (.inl rfl) rfl rfl rfl rfl)
theorem XdX{XhL:Int}{ostr:Int}{obas:Int}{olin:Int}(hcb:cb.map cB=xcb)(hc:0≤ci∧ci≤cb.length∧cb.length≤1000000000000)(hr:Jo cb ci ch=(⟨XhL,ostr,obas,olin⟩,oi,oh)):Fn Tryz.prog 276 [.ptr 0 0 0] [.box 140 [.d (.row 1 xcb),I ci,I ch]] ⟨.agg [I XhL,I ostr,I obas,I olin],[],[(0,.box 140 [.d (.row 1 xcb),I oi,I oh])]⟩:=by
 refine Fn.goR Hk Tryz.func276 fun P hP Q hQ=>?_
 conv=>cbv
 rcases ab:Ak cb ci ch 2 with⟨d2,ri2,rh2⟩
 have zr2:=Au ab (by omega)
 refine .bx [0] [] hP (Bw hcb (by omega) ab) rfl rfl rfl rfl ?_
 conv=>cbv
 refine .add fun v3 ae=>?_
 conv=>cbv
 rcases ac:Ak cb ri2 rh2 4 with⟨d5,ri5,rh5⟩
 have zr5:=Au ac (by omega)
 refine .bx [0] [] hP (Bw hcb (by omega) ac) rfl rfl rfl rfl ?_
 conv=>cbv
 refine .add fun v6 af=>?_
 conv=>cbv
 rcases ad:Ak cb ri5 rh5 9 with⟨d8,ri8,rh8⟩
 have zr8:=Au ad (by omega)
 refine .bx [0] [] hP (Bw hcb (by omega) ad) rfl rfl rfl rfl ?_
 conv=>cbv
 rcases aa:Ak cb ri8 rh8 1000000 with⟨d10,ri10,rh10⟩
 have zr10:=Au aa (by omega)
 refine .bx [0] [] hP (Bw hcb (by omega) aa) rfl rfl rfl rfl ?_
 conv=>cbv
 have e:((⟨v3,v6,d8,d10⟩:Bj),ri10,rh10)=Jo cb ci ch:=(by unfold Jo;simp only[ab,ac,ad,aa];rw[ae,af])
 rw[hr]at e
 simp only[Prod.mk.injEq,Bj.mk.injEq]at e
 obtain⟨⟨rfl,rfl,rfl,rfl⟩,rfl,rfl⟩:=e
 exact hQ _ _ (.of [] (.inl rfl) rfl rfl rfl rfl)
theorem Oj{t:ByteArray}(hcb:cb.map cB=xcb)(hc:0≤ci∧ci≤cb.length∧cb.length≤1000000000000)(hz:t.size≤1000000)(hr:Dq cb ci ch t=(o,oi,oh)):Fn Tryz.prog 218 [.ptr 0 0 0,S t] [.box 140 [.d (.row 1 xcb),I ci,I ch]] ⟨S o,[],[(0,.box 140 [.d (.row 1 xcb),I oi,I oh])]⟩:=by
 refine Fn.goR Hk Tryz.func218 fun P hP Q hQ=>?_
 conv=>cbv
 refine .eql (fun h1=>?_) fun h1=>?_
 conv=>cbv
 have e:(t,ci,ch)=Dq cb ci ch t:=(by unfold Dq;rw[if_pos (show t=tx []from h1)])
 rw[hr]at e
 simp only[Prod.mk.injEq]at e
 obtain⟨rfl,rfl,rfl⟩:=e
 exact hQ _ _ (.of [] (.inl rfl) rfl rfl rfl rfl)
 conv=>cbv
 rcases aa:Bq cb ci ch 2 with⟨d3,ri3,rh3⟩
 have zr3:=Cd aa (by omega)
 refine .bx [0] [] hP (E5 hcb (by omega) aa) rfl rfl rfl rfl ?_
 cases d3
 conv=>cbv
 have hps:=XbD (t:=t) h1
 refine .go fun v4 ag=>?_
 conv=>cbv
 rcases ac:Ak cb ri3 rh3 v4 with⟨d6,ri6,rh6⟩
 have zr6:=Au ac (by omega)
 refine .bx [0] [] hP (Bw hcb (by omega) ac) rfl rfl rfl rfl ?_
 conv=>cbv
 rcases ad:Ak cb ri6 rh6 4 with⟨d8,ri8,rh8⟩
 have zr8:=Au ad (by omega)
 refine .bx [0] [] hP (Bw hcb (by omega) ad) rfl rfl rfl rfl ?_
 conv=>cbv
 refine .eql (fun h9=>?_) fun h9=>?_
 conv=>cbv
 refine .hi fun az ao=>?_
 conv=>cbv
 have e:(az,ri8,rh8)=Dq cb ci ch t:=(by unfold Dq;rw[if_neg (show¬t=tx []from h1),←ag];simp only[aa,ac,ad,Bool.false_eq_true,if_false];rw[if_pos h9,ao];rfl)
 rw[hr]at e
 simp only[Prod.mk.injEq]at e
 obtain⟨rfl,rfl,rfl⟩:=e
 exact hQ _ _ (.of [] (.inl rfl) rfl rfl rfl rfl)
 conv=>cbv
 refine .eql (fun h10=>?_) fun h10=>?_
 conv=>cbv
 refine .hi fun a0 ah=>?_
 conv=>cbv
 have be:a0.size≤t.size:=by rw[ah,ByteArray.size_extract];omega
 refine .add fun a1 bf=>?_
 conv=>cbv
 refine .lo fun a2 ai=>?_
 conv=>cbv
 have bg:a2.size≤t.size:=by rw[ai,ByteArray.size_extract];omega
 refine .go fun a3 ap bh=>?_
 conv=>cbv
 have e:(a3,ri8,rh8)=Dq cb ci ch t:=(by unfold Dq;rw[if_neg (show¬t=tx []from h1),←ag];simp only[aa,ac,ad,Bool.false_eq_true,if_false];rw[if_neg h9,if_pos h10,ap,ah,ai,show a1.toNat=d6.toNat+1 by omega];rfl)
 rw[hr]at e
 simp only[Prod.mk.injEq]at e
 obtain⟨rfl,rfl,rfl⟩:=e
 exact hQ _ _ (.of [] (.inl rfl) rfl rfl rfl rfl)
 conv=>cbv
 refine .eql (fun h11=>?_) fun h11=>?_
 conv=>cbv
 rcases ae:Ak cb ri8 rh8 4 with⟨d13,ri13,rh13⟩
 have zr13:=Au ae (by omega)
 refine .bx [0] [] hP (Bw hcb (by omega) ae) rfl rfl rfl rfl ?_
 conv=>cbv
 refine .add fun a4 aq=>?_
 conv=>cbv
 rcases ab:D6 cb ri13 rh13 a4 with⟨d16,ri16,rh16⟩
 have zr16:=Gq ab (by omega)
 refine .bx [0] [] hP (Nx hcb (by omega) ab) rfl rfl rfl rfl ?_
 conv=>cbv
 refine .go fun a5 ar bi=>?_
 conv=>cbv
 have e:(a5,ri16,rh16)=Dq cb ci ch t:=(by unfold Dq;rw[if_neg (show¬t=tx []from h1),←ag];simp only[aa,ac,ad,ae,ab,Bool.false_eq_true,if_false];rw[if_neg h9,if_neg h10,if_pos h11];simp only[←aq,ab];rw[ar])
 rw[hr]at e
 simp only[Prod.mk.injEq]at e
 obtain⟨rfl,rfl,rfl⟩:=e
 exact hQ _ _ (.of [] (.inl rfl) rfl rfl rfl rfl)
 conv=>cbv
 refine .hi fun a6 aj=>?_
 conv=>cbv
 refine .go d6.toNat fun hjv13 bp au bv13=>?_
 conv=>cbv
 rcases af:Ak cb ri8 rh8 8 with⟨d15,ri15,rh15⟩
 have zr15:=Au af (by omega)
 refine .bx [0] [] hP (Bw hcb (by omega) af) rfl rfl rfl rfl ?_
 conv=>cbv
 refine .go fun a7 ak=>?_
 conv=>cbv
 have a8:0≤a7:=by rw[ak,Gz];omega
 refine .shlW fun bq aw=>?_
 conv=>cbv
 refine .xor fun a9 al=>?_
 conv=>cbv
 refine .go (hn:=rfl) (show[UInt8.ofNat a9.toNat].map cB=_ from congrArg (fun x=>[x]) (Ow (by rw[al];exact xor8 _ _)).symm) fun ba am=>?_
 conv=>cbv
 have bj:a6.size≤t.size:=by rw[aj,ByteArray.size_extract];omega
 have bk:ba.size=1:=by rw[am];rfl
 refine .go fun bs ax bl=>?_
 conv=>cbv
 refine .add fun bb bm=>?_
 conv=>cbv
 refine .lo fun bc an=>?_
 conv=>cbv
 have bn:bc.size≤t.size:=by rw[an,ByteArray.size_extract];omega
 refine .go fun bd ay bo=>?_
 conv=>cbv
 have e:(bd,ri15,rh15)=Dq cb ci ch t:=(by unfold Dq;rw[if_neg (show¬t=tx []from h1),←ag];simp only[aa,ac,ad,af,Bool.false_eq_true,if_false];rw[if_neg h9,if_neg h10,if_neg h11,ay,ax,aj,an,am,show bb.toNat=d6.toNat+1 by omega,al,aw,ak,au,X0];rfl)
 rw[hr]at e
 simp only[Prod.mk.injEq]at e
 obtain⟨rfl,rfl,rfl⟩:=e
 exact hQ _ _ (.of [] (.inl rfl) rfl rfl rfl rfl)
 conv=>cbv
 have e:(t,ri3,rh3)=Dq cb ci ch t:=(by unfold Dq;rw[if_neg (show¬t=tx []from h1)];simp only[aa,if_true])
 rw[hr]at e
 simp only[Prod.mk.injEq]at e
 obtain⟨rfl,rfl,rfl⟩:=e
 exact hQ _ _ (.of [] (.inl rfl) rfl rfl rfl rfl)
theorem Nl{hver:Int}{hstr:Int}{hbas:Int}{hlin:Int}{records:List ByteArray}{xrecords:List (List D)}(hrecords:records.map cS=xrecords)(hb:0≤hbas∧hbas≤1000000000)(hl:records.length≤1000)(hx:∀x∈records,x.size≤60)(hr:Ep (⟨hver,hstr,hbas,hlin⟩:Bj) records=o):Fn Tryz.prog 217 [.agg [I hver,I hstr,I hbas,I hlin],.d (.row 1 xrecords)] [] ⟨S o,[],[]⟩:=by
 refine Fn.go Hk Tryz.func217 fun P hP Q hQ=>?_
 conv=>cbv
 generalize ab:Bf (⟨hver,hstr,hbas,hlin⟩:Bj)=r1
 have zr1:=Fr ab
 refine .dd hP (J6 ab) ?_
 conv=>cbv
 refine LoopW.lp (κ:=ByteArray×Int) Hk hP [] [1,2] (fun(s5,i6)=>[(5,S s5),(6,I i6)]) (fun(s5,i6)=>[])
  (fun(s5,i6)=>0≤i6∧i6≤records.length∧s5.size≤50+84*i6∧Ep (⟨hver,hstr,hbas,hlin⟩:Bj) records=s5++Xhi hver (hbas+i6) (records.drop i6.toNat))
  (fun(s5,i6)=>(records.length - i6).toNat) (r1,0) ⟨by omega,by omega,by omega,by rw[Int.add_zero];unfold Ep;rw[ab];rfl⟩ ⟨rfl,rfl,trivial⟩ rfl ?_
 rintro⟨s5,i6⟩ J ⟨h0,h1,hsz,hio⟩ hJ
 conv=>cbv
 refine .go hrecords fun v2 ag=>?_
 conv=>cbv
 refine .lss (fun h3=>?_) fun h3=>?_
 conv=>cbv
 refine .add fun v4 ae=>?_
 conv=>cbv
 refine .go i6.toNat hrecords fun aa e5 ad=>?_
 conv=>cbv
 have ah:e5.size≤60:=ad▸hx _ (List.getElem_mem aa)
 generalize ac:Am hver v4 e5=r6
 have zr6:=Bz ac
 refine .dd hP (Ds (by omega) ac) ?_
 conv=>cbv
 refine .go fun s7 af ai=>?_
 conv=>cbv
 refine .add fun v8 aj=>?_
 conv=>cbv
 exact .go [] (s7,v8) (hJ _ ⟨by omega,by omega,by omega,by rw[hio,List.drop_eq_getElem_cons aa,←ad];show s5++(Am hver (hbas+i6) e5++Xhi hver (hbas+i6+1) _)=_;rw[←ae,ac,←ByteArray.append_assoc,←af,show v8.toNat=i6.toNat+1 by omega,show hbas+v8=v4+1 by omega]⟩ mlt)
 conv=>cbv
 have e:s5=Ep (⟨hver,hstr,hbas,hlin⟩:Bj) records:=(by rw[hio,List.drop_of_length_le (by omega)];exact ByteArray.append_empty.symm)
 rw[hr]at e
 subst e
 exact hQ _ _ (.s rfl rfl)
theorem XeI(hcb:cb.map cB=xcb)(hc:0≤ci∧ci≤cb.length∧cb.length≤1000000000000)(hr:Hq cb ci ch=(o,oi,oh)):Fn Tryz.prog 220 [.ptr 0 0 0] [.box 140 [.d (.row 1 xcb),I ci,I ch]] ⟨S o,[],[(0,.box 140 [.d (.row 1 xcb),I oi,I oh])]⟩:=by
 refine Fn.goR Hk Tryz.func220 fun P hP Q hQ=>?_
 conv=>cbv
 rcases ad:Jo cb ci ch with⟨⟨d2ver,d2str,d2bas,d2lin⟩,ri2,rh2⟩
 have zr2:=Vb ad (by omega)
 refine .bx [0] [] hP (XdX hcb (by omega) ad) rfl rfl rfl rfl ?_
 conv=>cbv
 dsimp only at zr2
 rcases ae:Ek cb ri2 rh2 6 with⟨d4,ri4,rh4⟩
 generalize ac:d4.map cS=xd4
 obtain⟨nd4,hnd4⟩:∃m,m=d4.length:=⟨_,rfl⟩
 have zr4:=Ic ae (by omega) (by omega)
 refine .bx [0] [] hP (Qi hcb (by omega) (by omega) ac ae hnd4) rfl rfl rfl rfl ?_
 conv=>cbv
 rcases af:Bq cb ri4 rh4 2 with⟨d6,ri6,rh6⟩
 have zr6:=Cd af (by omega)
 refine .bx [0] [] hP (E5 hcb (by omega) af) rfl rfl rfl rfl ?_
 cases d6
 conv=>cbv
 generalize aa:Ep (⟨d2ver,d2str,d2bas,d2lin⟩:Bj) d4=r7
 have zr7:=I7 aa
 refine .lnt hP (Nl ac (by omega) (by omega) zr4.1.2 aa) (.agg (.d rfl (.d rfl (.d rfl (.d rfl .nil)))) (.ref rfl (Ae ac) .nil)) ?_
 conv=>cbv
 rcases ab:Dq cb ri6 rh6 r7 with⟨d9,ri9,rh9⟩
 have zr9:=Hl ab (by omega)
 refine .bx [0] [] hP (Oj hcb (by omega) (by omega) ab) rfl rfl rfl rfl ?_
 conv=>cbv
 have e:(d9,ri9,rh9)=Hq cb ci ch:=(by unfold Hq;simp only[ad,ae,af,Bool.false_eq_true,if_false];rw[aa];exact ab.symm)
 rw[hr]at e
 simp only[Prod.mk.injEq]at e
 obtain⟨rfl,rfl,rfl⟩:=e
 exact hQ _ _ (.of [] (.inl rfl) rfl rfl rfl rfl)
 conv=>cbv
 generalize aa:Di (⟨d2ver,d2str,d2bas,d2lin⟩:Bj) d4=r7
 have zr7:=Kl aa
 refine .lnt hP (Pz ac (by omega) aa) (.agg (.d rfl (.d rfl (.d rfl (.d rfl .nil)))) (.ref rfl (Ae ac) .nil)) ?_
 conv=>cbv
 rcases ab:Dq cb ri6 rh6 r7 with⟨d9,ri9,rh9⟩
 have zr9:=Hl ab (by omega)
 refine .bx [0] [] hP (Oj hcb (by omega) (by omega) ab) rfl rfl rfl rfl ?_
 conv=>cbv
 have e:(d9,ri9,rh9)=Hq cb ci ch:=(by unfold Hq;simp only[ad,ae,af,if_true];rw[aa];exact ab.symm)
 rw[hr]at e
 simp only[Prod.mk.injEq]at e
 obtain⟨rfl,rfl,rfl⟩:=e
 exact hQ _ _ (.of [] (.inl rfl) rfl rfl rfl rfl)
theorem Uf{room:Int}(hr:Cq room=⟨onod,oent,oold,oste,oroo,onex⟩)(Eb:onod.map A5=De)(Eg:oent.map Ad=Dd)(Ed:oold.map Ad=Db)(D7:oste.map cS=Dc)(hnonod:nonod=onod.length)(hnoent:noent=oent.length)(hnoold:noold=oold.length)(hnoste:noste=oste.length):Fn Tryz.prog 62 [I room] [] ⟨.agg [.ref 0 0 nonod,.ref 1 0 noent,.ref 2 0 noold,.ref 3 0 noste,I oroo,I onex],[.row 3 false De,.row 2 false Dd,.row 2 false Db,.row 1 false Dc],[]⟩:=by
 refine Fn.goR Hk Tryz.func62 fun P hP Q hQ=>?_
 conv=>cbv
 refine .lss (fun h1=>?_) fun h1=>?_
 conv=>cbv
 have e:(⟨[],[],[],[],0,1⟩:Aa)=Cq room:=(by unfold Cq;rw[show max 0 room=0 by omega])
 rw[hr]at e
 simp only[Aa.mk.injEq]at e
 obtain⟨rfl,rfl,rfl,rfl,rfl,rfl⟩:=e
 obtain rfl:[]=De:=by first|(rw[←Eb];done)|(rw[←Eb];rfl)
 obtain rfl:0=nonod:=by first|omega|(rw[hnonod];simp;done)|(rw[hnonod];simp;omega)
 obtain rfl:[]=Dd:=by first|(rw[←Eg];done)|(rw[←Eg];rfl)
 obtain rfl:0=noent:=by first|omega|(rw[hnoent];simp;done)|(rw[hnoent];simp;omega)
 obtain rfl:[]=Db:=by first|(rw[←Ed];done)|(rw[←Ed];rfl)
 obtain rfl:0=noold:=by first|omega|(rw[hnoold];simp;done)|(rw[hnoold];simp;omega)
 obtain rfl:[]=Dc:=by first|(rw[←D7];done)|(rw[←D7];rfl)
 obtain rfl:0=noste:=by first|omega|(rw[hnoste];simp;done)|(rw[hnoste];simp;omega)
 exact hQ _ _ (.of [5,6,7,8] (.inl rfl) rfl rfl rfl rfl)
 conv=>cbv
 have e:(⟨[],[],[],[],room,1⟩:Aa)=Cq room:=(by unfold Cq;rw[show max 0 room=room by omega])
 rw[hr]at e
 simp only[Aa.mk.injEq]at e
 obtain⟨rfl,rfl,rfl,rfl,rfl,rfl⟩:=e
 obtain rfl:[]=De:=by first|(rw[←Eb];done)|(rw[←Eb];rfl)
 obtain rfl:0=nonod:=by first|omega|(rw[hnonod];simp;done)|(rw[hnonod];simp;omega)
 obtain rfl:[]=Dd:=by first|(rw[←Eg];done)|(rw[←Eg];rfl)
 obtain rfl:0=noent:=by first|omega|(rw[hnoent];simp;done)|(rw[hnoent];simp;omega)
 obtain rfl:[]=Db:=by first|(rw[←Ed];done)|(rw[←Ed];rfl)
 obtain rfl:0=noold:=by first|omega|(rw[hnoold];simp;done)|(rw[hnoold];simp;omega)
 obtain rfl:[]=Dc:=by first|(rw[←D7];done)|(rw[←D7];rfl)
 obtain rfl:0=noste:=by first|omega|(rw[hnoste];simp;done)|(rw[hnoste];simp;omega)
 exact hQ _ _ (.of [5,6,7,8] (.inl rfl) rfl rfl rfl rfl)
theorem Nz{Aj:List B5}{Bk:List (List D)}{An:List Ag}{Bh:List (List D)}{Ao:List Ag}{Bg:List (List D)}{Al:List ByteArray}{Bi:List (List D)}{As:Int}{Aq:Int}{name:ByteArray}{text:ByteArray}(hcb:cb.map cB=xcb)(Av:Aj.map A5=Bk)(At:An.map Ad=Bh)(Ax:Ao.map Ad=Bg)(Ay:Al.map cS=Bi)(hc:0≤ci∧ci≤cb.length∧cb.length≤1000000000000){m:Nat}(hd:okE m (⟨Aj,An,Ao,Al,As,Aq⟩:Aa))(hmm:m≤900)(hnz:name.size≤1000)(htz:text.size≤1000000)(Eb:onod.map A5=De)(Eg:oent.map Ad=Dd)(Ed:oold.map Ad=Db)(D7:oste.map cS=Dc)(hr:Ex cb ci ch (⟨Aj,An,Ao,Al,As,Aq⟩:Aa) name text=(⟨onod,oent,oold,oste,oroo,onex⟩,oi,oh))(hnonod:nonod=onod.length)(hnoent:noent=oent.length)(hnoold:noold=oold.length)(hnoste:noste=oste.length):Fn Tryz.prog 219 [.ptr 0 0 0,.agg [.d (.row 3 Bk),.d (.row 2 Bh),.d (.row 2 Bg),.d (.row 1 Bi),I As,I Aq],S name,S text] [.box 140 [.d (.row 1 xcb),I ci,I ch]] ⟨.agg [.ref 1 0 nonod,.ref 2 0 noent,.ref 3 0 noold,.ref 4 0 noste,I oroo,I onex],[.row 3 false De,.row 2 false Dd,.row 2 false Db,.row 1 false Dc],[(0,.box 140 [.d (.row 1 xcb),I oi,I oh])]⟩:=by
 refine Fn.goR Hk Tryz.func219 fun P hP Q hQ=>?_
 conv=>cbv
 rcases bv:Ce (⟨Aj,An,Ao,Al,As,Aq⟩:Aa) name with⟨⟨a1,a2,a3,a4,b9,ca⟩,c5⟩
 generalize ax:a1.map A5=cx
 generalize ay:a2.map Ad=cy
 generalize az:a3.map Ad=cz
 generalize a0:a4.map cS=c0
 obtain⟨nr1anod,hnr1anod⟩:∃m,m=a1.length:=⟨_,rfl⟩
 obtain⟨nr1aent,hnr1aent⟩:∃m,m=a2.length:=⟨_,rfl⟩
 obtain⟨nr1aold,hnr1aold⟩:∃m,m=a3.length:=⟨_,rfl⟩
 obtain⟨nr1aste,hnr1aste⟩:∃m,m=a4.length:=⟨_,rfl⟩
 have g1:=hd.of (O4 (name:=name) hd.1 (okE.st hd (by omega)) (by omega)) Q6
 rw[bv]at g1
 try simp only[]at g1
 refine .ddN hP (Ov Av At Ax Ay hd.1.1.1 hd.1.1.2.2.1 hd.1.1.2.2.2.2.1 (okE.st hd (by omega)) hd.1.2.2 hd.1 (by omega) bv ax ay az a0 hnr1anod hnr1aent hnr1aold hnr1aste) rfl ?_
 conv=>cbv
 rcases bw:Ap (⟨a1,a2,a3,a4,b9,ca⟩:Aa) name with⟨⟨a5,a6,a7,a8,cc,cd⟩,c6⟩
 generalize ai:a5.map A5=c1
 generalize aj:a6.map Ad=c2
 generalize ak:a7.map Ad=c3
 generalize al:a8.map cS=c4
 obtain⟨nr2anod,hnr2anod⟩:∃m,m=a5.length:=⟨_,rfl⟩
 obtain⟨nr2aent,hnr2aent⟩:∃m,m=a6.length:=⟨_,rfl⟩
 obtain⟨nr2aold,hnr2aold⟩:∃m,m=a7.length:=⟨_,rfl⟩
 obtain⟨nr2aste,hnr2aste⟩:∃m,m=a8.length:=⟨_,rfl⟩
 have g2:=g1.of (Gb (name:=name) g1.1 (okE.st g1 (by omega)) (by omega)) Ks
 rw[bw]at g2
 try simp only[]at g2
 refine .lntN hP (In ax ay az a0 g1.1.1.1 g1.1.1.2.2.1 g1.1.1.2.2.2.2.1 (okE.st g1 (by omega)) g1.1.2.2 g1.1 (by omega) bw ai aj ak al hnr2anod hnr2aent hnr2aold hnr2aste) (.agg (.ref rfl (Ae ax) (.ref rfl (Ae ay) (.ref rfl (Ae az) (.ref rfl (Ae a0) (.d rfl (.d rfl .nil)))))) (.d rfl .nil)) rfl rfl rfl (by simp only[List.all_cons,List.all_nil,Bool.and_self,Az (fun _=>rfl) ai,Az (fun _=>rfl) aj,Az (fun _=>rfl) ak,Az (fun _=>rfl) al]) ?_
 conv=>cbv
 rcases bz:Ai (⟨a5,a6,a7,a8,cc,cd⟩:Aa) name text with⟨⟨am,an,ao,ap,a9,ba⟩,c7⟩
 generalize aa:am.map A5=b1
 generalize ab:an.map Ad=b2
 generalize ac:ao.map Ad=b3
 generalize ad:ap.map cS=b4
 obtain⟨nr3anod,hnr3anod⟩:∃m,m=am.length:=⟨_,rfl⟩
 obtain⟨nr3aent,hnr3aent⟩:∃m,m=an.length:=⟨_,rfl⟩
 obtain⟨nr3aold,hnr3aold⟩:∃m,m=ao.length:=⟨_,rfl⟩
 obtain⟨nr3aste,hnr3aste⟩:∃m,m=ap.length:=⟨_,rfl⟩
 have g3:=g2.of (F7 (name:=name) (text:=text) g2.1) Q0
 rw[bz]at g3
 try simp only[]at g3
 refine .lntN hP (Oy ai aj ak al g2.1.1.1 g2.1.1.2.2.1 g2.1.1.2.2.2.2.1 (okE.st g2 (by omega)) g2.1.2.2 g2.1 (by omega) bz aa ab ac ad hnr3anod hnr3aent hnr3aold hnr3aste) (.agg (.ref rfl (Ae ai) (.ref rfl (Ae aj) (.ref rfl (Ae ak) (.ref rfl (Ae al) (.d rfl (.d rfl .nil)))))) (.d rfl (.d rfl .nil))) rfl rfl rfl (by simp only[List.all_cons,List.all_nil,Bool.and_self,Az (fun _=>rfl) aa,Az (fun _=>rfl) ab,Az (fun _=>rfl) ac,Az (fun _=>rfl) ad]) ?_
 conv=>cbv
 rcases b0:Bq cb ci ch 4 with⟨d5,ri5,rh5⟩
 have zr5:=Cd b0 (by omega)
 refine .bx [0] [] hP (E5 hcb (by omega) b0) rfl rfl rfl rfl ?_
 cases d5
 conv=>cbv
 rcases ce:By (⟨am,an,ao,ap,a9,ba⟩:Aa) name with⟨⟨aq,ar,au,aw,bt,bu⟩,c8⟩
 generalize ae:aq.map A5=b5
 generalize af:ar.map Ad=b6
 generalize ag:au.map Ad=b7
 generalize ah:aw.map cS=b8
 obtain⟨nr6anod,hnr6anod⟩:∃m,m=aq.length:=⟨_,rfl⟩
 obtain⟨nr6aent,hnr6aent⟩:∃m,m=ar.length:=⟨_,rfl⟩
 obtain⟨nr6aold,hnr6aold⟩:∃m,m=au.length:=⟨_,rfl⟩
 obtain⟨nr6aste,hnr6aste⟩:∃m,m=aw.length:=⟨_,rfl⟩
 have g6:=g3.of (L6 (name:=name) g3.1) Xcg
 rw[ce]at g6
 try simp only[]at g6
 refine .lntN hP (Rl aa ab ac ad g3.1.1.1 g3.1.1.2.2.1 g3.1.1.2.2.2.2.1 (okE.st g3 (by omega)) g3.1.2.2 g3.1 ce ae af ag ah hnr6anod hnr6aent hnr6aold hnr6aste) (.agg (.ref rfl (Ae aa) (.ref rfl (Ae ab) (.ref rfl (Ae ac) (.ref rfl (Ae ad) (.d rfl (.d rfl .nil)))))) (.d rfl .nil)) rfl rfl rfl (by simp only[List.all_cons,List.all_nil,Bool.and_self,Az (fun _=>rfl) ae,Az (fun _=>rfl) af,Az (fun _=>rfl) ag,Az (fun _=>rfl) ah]) ?_
 conv=>cbv
 rcases bj:Bq cb ri5 rh5 4 with⟨d8,ri8,rh8⟩
 have zr8:=Cd bj (by omega)
 refine .bx [0] [] hP (E5 hcb (by omega) bj) rfl rfl rfl rfl ?_
 cases d8
 conv=>cbv
 rcases cr:Cc (⟨aq,ar,au,aw,bt,bu⟩:Aa)with⟨bk,bl,bm,bn,ct,cu⟩
 generalize bb:bk.map A5=cf
 generalize bc:bl.map Ad=cg
 generalize bd:bm.map Ad=cj
 generalize be:bn.map cS=ck
 obtain⟨nr9nod,hnr9nod⟩:∃m,m=bk.length:=⟨_,rfl⟩
 obtain⟨nr9ent,hnr9ent⟩:∃m,m=bl.length:=⟨_,rfl⟩
 obtain⟨nr9old,hnr9old⟩:∃m,m=bm.length:=⟨_,rfl⟩
 obtain⟨nr9ste,hnr9ste⟩:∃m,m=bn.length:=⟨_,rfl⟩
 have g9:=g6.of (Mr g6.1) R6
 rw[cr]at g9
 try simp only[]at g9
 refine .lntN hP (L4 ae af ag ah g6.1.1.1 g6.1.1.2.2.1 g6.1.1.2.2.2.2.1 (okE.st g6 (by omega)) g6.1.2.2 g6.1 cr bb bc bd be hnr9nod hnr9ent hnr9old hnr9ste) (.agg (.ref rfl (Ae ae) (.ref rfl (Ae af) (.ref rfl (Ae ag) (.ref rfl (Ae ah) (.d rfl (.d rfl .nil)))))) .nil) rfl rfl rfl (by simp only[List.all_cons,List.all_nil,Bool.and_self,Az (fun _=>rfl) bb,Az (fun _=>rfl) bc,Az (fun _=>rfl) bd,Az (fun _=>rfl) be]) ?_
 conv=>cbv
 have e:((⟨bk,bl,bm,bn,ct,cu⟩:Aa),ri8,rh8)=Ex cb ci ch (⟨Aj,An,Ao,Al,As,Aq⟩:Aa) name text:=(by unfold Ex;simp only[b0,bj,bv,bw,bz,ce,cr,Bool.false_eq_true,if_false,if_true])
 rw[hr]at e
 simp only[Prod.mk.injEq,Aa.mk.injEq]at e
 obtain⟨⟨rfl,rfl,rfl,rfl,rfl,rfl⟩,rfl,rfl⟩:=e
 obtain rfl:cf=De:=by rw[←bb,←Eb]
 obtain rfl:nr9nod=nonod:=by first|omega|(rw[hnonod];simp;done)|(rw[hnonod];simp;omega)
 obtain rfl:cg=Dd:=by rw[←bc,←Eg]
 obtain rfl:nr9ent=noent:=by first|omega|(rw[hnoent];simp;done)|(rw[hnoent];simp;omega)
 obtain rfl:cj=Db:=by rw[←bd,←Ed]
 obtain rfl:nr9old=noold:=by first|omega|(rw[hnoold];simp;done)|(rw[hnoold];simp;omega)
 obtain rfl:ck=Dc:=by rw[←be,←D7]
 obtain rfl:nr9ste=noste:=by first|omega|(rw[hnoste];simp;done)|(rw[hnoste];simp;omega)
 exact hQ _ _ (.of [23,24,25,26] (.inl rfl) rfl rfl rfl rfl)
 conv=>cbv
 have e:((⟨aq,ar,au,aw,bt,bu⟩:Aa),ri8,rh8)=Ex cb ci ch (⟨Aj,An,Ao,Al,As,Aq⟩:Aa) name text:=(by unfold Ex;simp only[b0,bj,bv,bw,bz,ce,Bool.false_eq_true,if_false,if_true])
 rw[hr]at e
 simp only[Prod.mk.injEq,Aa.mk.injEq]at e
 obtain⟨⟨rfl,rfl,rfl,rfl,rfl,rfl⟩,rfl,rfl⟩:=e
 obtain rfl:b5=De:=by rw[←ae,←Eb]
 obtain rfl:nr6anod=nonod:=by first|omega|(rw[hnonod];simp;done)|(rw[hnonod];simp;omega)
 obtain rfl:b6=Dd:=by rw[←af,←Eg]
 obtain rfl:nr6aent=noent:=by first|omega|(rw[hnoent];simp;done)|(rw[hnoent];simp;omega)
 obtain rfl:b7=Db:=by rw[←ag,←Ed]
 obtain rfl:nr6aold=noold:=by first|omega|(rw[hnoold];simp;done)|(rw[hnoold];simp;omega)
 obtain rfl:b8=Dc:=by rw[←ah,←D7]
 obtain rfl:nr6aste=noste:=by first|omega|(rw[hnoste];simp;done)|(rw[hnoste];simp;omega)
 exact hQ _ _ (.of [19,20,21,22] (.inl rfl) rfl rfl rfl rfl)
 conv=>cbv
 rcases cm:Bq cb ri5 rh5 4 with⟨d7,ri7,rh7⟩
 have zr7:=Cd cm (by omega)
 refine .bx [0] [] hP (E5 hcb (by omega) cm) rfl rfl rfl rfl ?_
 cases d7
 conv=>cbv
 rcases bj:Cc (⟨am,an,ao,ap,a9,ba⟩:Aa)with⟨bo,bp,bq,bs,cv,cw⟩
 generalize bf:bo.map A5=cn
 generalize bg:bp.map Ad=co
 generalize bh:bq.map Ad=cp
 generalize bi:bs.map cS=cq
 obtain⟨nr8nod,hnr8nod⟩:∃m,m=bo.length:=⟨_,rfl⟩
 obtain⟨nr8ent,hnr8ent⟩:∃m,m=bp.length:=⟨_,rfl⟩
 obtain⟨nr8old,hnr8old⟩:∃m,m=bq.length:=⟨_,rfl⟩
 obtain⟨nr8ste,hnr8ste⟩:∃m,m=bs.length:=⟨_,rfl⟩
 have g8:=g3.of (Mr g3.1) R6
 rw[bj]at g8
 try simp only[]at g8
 refine .lntN hP (L4 aa ab ac ad g3.1.1.1 g3.1.1.2.2.1 g3.1.1.2.2.2.2.1 (okE.st g3 (by omega)) g3.1.2.2 g3.1 bj bf bg bh bi hnr8nod hnr8ent hnr8old hnr8ste) (.agg (.ref rfl (Ae aa) (.ref rfl (Ae ab) (.ref rfl (Ae ac) (.ref rfl (Ae ad) (.d rfl (.d rfl .nil)))))) .nil) rfl rfl rfl (by simp only[List.all_cons,List.all_nil,Bool.and_self,Az (fun _=>rfl) bf,Az (fun _=>rfl) bg,Az (fun _=>rfl) bh,Az (fun _=>rfl) bi]) ?_
 conv=>cbv
 have e:((⟨bo,bp,bq,bs,cv,cw⟩:Aa),ri7,rh7)=Ex cb ci ch (⟨Aj,An,Ao,Al,As,Aq⟩:Aa) name text:=(by unfold Ex;simp only[b0,cm,bv,bw,bz,bj,Bool.false_eq_true,if_false,if_true])
 rw[hr]at e
 simp only[Prod.mk.injEq,Aa.mk.injEq]at e
 obtain⟨⟨rfl,rfl,rfl,rfl,rfl,rfl⟩,rfl,rfl⟩:=e
 obtain rfl:cn=De:=by rw[←bf,←Eb]
 obtain rfl:nr8nod=nonod:=by first|omega|(rw[hnonod];simp;done)|(rw[hnonod];simp;omega)
 obtain rfl:co=Dd:=by rw[←bg,←Eg]
 obtain rfl:nr8ent=noent:=by first|omega|(rw[hnoent];simp;done)|(rw[hnoent];simp;omega)
 obtain rfl:cp=Db:=by rw[←bh,←Ed]
 obtain rfl:nr8old=noold:=by first|omega|(rw[hnoold];simp;done)|(rw[hnoold];simp;omega)
 obtain rfl:cq=Dc:=by rw[←bi,←D7]
 obtain rfl:nr8ste=noste:=by first|omega|(rw[hnoste];simp;done)|(rw[hnoste];simp;omega)
 exact hQ _ _ (.of [19,20,21,22] (.inl rfl) rfl rfl rfl rfl)
 conv=>cbv
 have e:((⟨am,an,ao,ap,a9,ba⟩:Aa),ri7,rh7)=Ex cb ci ch (⟨Aj,An,Ao,Al,As,Aq⟩:Aa) name text:=(by unfold Ex;simp only[b0,cm,bv,bw,bz,Bool.false_eq_true,if_false,if_true])
 rw[hr]at e
 simp only[Prod.mk.injEq,Aa.mk.injEq]at e
 obtain⟨⟨rfl,rfl,rfl,rfl,rfl,rfl⟩,rfl,rfl⟩:=e
 obtain rfl:b1=De:=by rw[←aa,←Eb]
 obtain rfl:nr3anod=nonod:=by first|omega|(rw[hnonod];simp;done)|(rw[hnonod];simp;omega)
 obtain rfl:b2=Dd:=by rw[←ab,←Eg]
 obtain rfl:nr3aent=noent:=by first|omega|(rw[hnoent];simp;done)|(rw[hnoent];simp;omega)
 obtain rfl:b3=Db:=by rw[←ac,←Ed]
 obtain rfl:nr3aold=noold:=by first|omega|(rw[hnoold];simp;done)|(rw[hnoold];simp;omega)
 obtain rfl:b4=Dc:=by rw[←ad,←D7]
 obtain rfl:nr3aste=noste:=by first|omega|(rw[hnoste];simp;done)|(rw[hnoste];simp;omega)
 exact hQ _ _ (.of [15,16,17,18] (.inl rfl) rfl rfl rfl rfl)
def nwF(h:Int)(x:UInt8):Int:=Jz .and .i64 (h*131+x.toNat+7) 1073741823
def L0(b:List UInt8):Int:=(b.take 4000).foldl nwF (94701+b.length)
def XhY(b:List UInt8):Bool:=decide (1048576<b.length)
theorem XfB(hcode:code.map cB=xcode)(hb:code.length≤1000000000000)(hr:L0 code=oh):Fn Tryz.prog 60 [.d (.row 1 xcode)] [] ⟨.ptr 0 0 0,[.box 140 [.d (.row 1 xcode),I 0,I oh]],[]⟩:=by
 refine Fn.goR Hk Tryz.func60 fun P hP Q hQ=>?_
 conv=>cbv
 refine .go hcode fun v1 ae=>?_
 conv=>cbv
 refine .add fun v2 af=>?_
 conv=>cbv
 refine LoopW.lp (κ:=Int×Int) Hk hP [] [0] (fun(i3,i4)=>[(3,I i3),(4,I i4)]) (fun(i3,i4)=>[])
  (fun(i3,i4)=>0≤i4∧i4≤code.length∧i4≤4000∧(0≤i3∧i3≤2000000000000)∧(code.take 4000).foldl nwF (94701+code.length)=((code.take 4000).drop i4.toNat).foldl nwF i3)
  (fun(i3,i4)=>(code.length - i4).toNat) (v2,0) ⟨by omega,by omega,by omega,by omega,by rw[af,ae];rfl⟩ ⟨rfl,rfl,trivial⟩ rfl ?_
 rintro⟨i3,i4⟩ J ⟨h0,h1,h2_,h3_,hx⟩ hJ
 conv=>cbv
 refine .go hcode fun v3 ao=>?_
 conv=>cbv
 refine .lss (fun h4=>?_) fun h4=>?_
 conv=>cbv
 refine .lss (fun h5=>?_) fun h5=>?_
 conv=>cbv
 refine .mul fun v6 ag=>?_
 conv=>cbv
 refine .go i4.toNat hcode fun am e7 ah=>?_
 conv=>cbv
 have hb7_:=e7.toNat_lt
 refine .id (a:=(e7.toNat:Int)) fun v8 ai=>?_
 conv=>cbv
 refine .add fun v9 aj=>?_
 conv=>cbv
 refine .add fun ak ab=>?_
 conv=>cbv
 refine .and fun al aa=>?_
 conv=>cbv
 refine .add fun ac an=>?_
 conv=>cbv
 have ap:=e7.toNat_lt
 have ad:=and30 ak
 rw[←aa]at ad
 exact .go [] (al,ac) (hJ _ ⟨by omega,by omega,by omega,by omega,by rw[hx,List.drop_eq_getElem_cons (by rw[List.length_take];omega),List.foldl_cons,List.getElem_take,←ah,show ac.toNat=i4.toNat+1 by omega];congr 1;unfold nwF;rw[aa,ab,aj,ai,ag]⟩ mlt)
 conv=>cbv
 have e:L0 code=i3:=by unfold L0;rw[hx,List.drop_of_length_le (by rw[List.length_take];omega)];rfl
 rw[hr]at e
 subst e
 exact hQ _ _ (.of [1] (.inl rfl) rfl rfl rfl rfl)
 conv=>cbv
 have e:L0 code=i3:=by unfold L0;rw[hx,List.drop_of_length_le (by rw[List.length_take];omega)];rfl
 rw[hr]at e
 subst e
 exact hQ _ _ (.of [1] (.inl rfl) rfl rfl rfl rfl)
theorem Flbig{o:Bool}(hcode:code.map cB=xcode)(hr:XhY code=o):Fn Tryz.prog 8 [.d (.row 1 xcode)] [] ⟨B o,[],[]⟩:=by
 refine Fn.go Hk Tryz.func8 fun P hP Q hQ=>?_
 conv=>cbv
 refine .go hcode fun v1 aa=>?_
 conv=>cbv
 refine .gtr (fun h2=>?_) fun h2=>?_
 conv=>cbv
 have e:true=XhY code:=(by unfold XhY;symm;rw[decide_eq_true_eq];omega)
 rw[hr]at e
 subst e
 exact hQ _ _ (.b rfl rfl)
 conv=>cbv
 have e:false=XhY code:=(by unfold XhY;symm;rw[decide_eq_false_iff_not];omega)
 rw[hr]at e
 subst e
 exact hQ _ _ (.b rfl rfl)
end
section
open Go Go.Proofs
set_option maxRecDepth 20000
set_option maxHeartbeats 4000000
def V4:List (Nat×TyRow):=[ty3,ty9,Xax,Xbj,XaE,XfU,Xin]
theorem Xa3:B3 Tryz.prog V4:=B3.of (by kernel_rfl)
theorem Xhb:Setup Tryz.prog V4:=⟨Xa3,mixed⟩
theorem Dv:Setup Tryz.prog ((1000054,E7 Tryz.prog 1000054)::((1000049,E7 Tryz.prog 1000049)::((1000040,E7 Tryz.prog 1000040)::V4))):=(Setup.mark 1000054 (Setup.mark 1000049 (Setup.mark 1000040 Xhb)))
theorem Xex{cb:List UInt8}{xcb:List (List D)}{ci:Int}{ch:Int}{onod:List B5}{De:List (List D)}{oent:List Ag}{Dd:List (List D)}{oold:List Ag}{Db:List (List D)}{oste:List ByteArray}{Dc:List (List D)}{oroo:Int}{onex:Int}{oi oh:Int}{nonod:Nat}{noent:Nat}{noold:Nat}{noste:Nat}(hcb:cb.map cB=xcb)(hc:0≤ci∧ci≤cb.length∧cb.length≤1000000000000)(Eb:onod.map A5=De)(Eg:oent.map Ad=Dd)(Ed:oold.map Ad=Db)(D7:oste.map cS=Dc)(hr:Fs cb ci ch=(⟨onod,oent,oold,oste,oroo,onex⟩,oi,oh))(hnonod:nonod=onod.length)(hnoent:noent=oent.length)(hnoold:noold=oold.length)(hnoste:noste=oste.length):Fn Tryz.prog 141 [.ptr 0 0 0] [.box 140 [.d (.row 1 xcb),I ci,I ch]] ⟨.agg [.ref 1 0 nonod,.ref 2 0 noent,.ref 3 0 noold,.ref 4 0 noste,I oroo,I onex],[.row 3 false De,.row 2 false Dd,.row 2 false Db,.row 1 false Dc],[(0,.box 140 [.d (.row 1 xcb),I oi,I oh])]⟩:=by
 refine Fn.goR Dv Tryz.func141 fun P hP Q hQ=>?_
 conv=>cbv
 rcases bc:B9 cb ci ch [6000,6000,6000,900]with⟨d2,ri2,rh2⟩
 have zr2:=Dy bc (by omega)
 refine .bxL [0] [6] (.same (.ref rfl rfl .nil)) hP (Hx hcb rfl (by omega) (by decide) bc) rfl rfl rfl rfl ?_
 conv=>cbv
 rcases cq:Cq d2 with⟨bu,bv,bw,bz,cr,ct⟩
 generalize b1:bu.map A5=cg
 generalize b2:bv.map Ad=cj
 generalize b3:bw.map Ad=ck
 generalize b4:bz.map cS=cm
 obtain⟨nr3nod,hnr3nod⟩:∃m,m=bu.length:=⟨_,rfl⟩
 obtain⟨nr3ent,hnr3ent⟩:∃m,m=bv.length:=⟨_,rfl⟩
 obtain⟨nr3old,hnr3old⟩:∃m,m=bw.length:=⟨_,rfl⟩
 obtain⟨nr3ste,hnr3ste⟩:∃m,m=bz.length:=⟨_,rfl⟩
 have g3:=Xb d2
 rw[cq]at g3
 refine .ddN hP (Uf cq b1 b2 b3 b4 hnr3nod hnr3ent hnr3old hnr3ste) rfl ?_
 conv=>cbv
 refine LoopW.lp (κ:=Int×Int×Int×Int×Int×Int×Int×(List (List D))×Nat×(List (List D))×Nat×(List (List D))×Nat×(List (List D))×Nat) Dv hP [7,8,9,10] [0,2,3] (fun(i4,i5,i6,bb,b0,ad,ae,ar,au,aw,ax,ay,az,a0,a1)=>[(4,I i4),(5,I i5),(6,I i6)]) (fun(i4,i5,i6,bb,b0,ad,ae,ar,au,aw,ax,ay,az,a0,a1)=>[(0,.box 140 [.d (.row 1 xcb),I bb,I b0]),(15,.box 28 [.ref 16 0 au,.ref 17 0 ax,.ref 18 0 az,.ref 19 0 a1,I ad,I ae]),(16,.row 3 false ar),(17,.row 2 false aw),(18,.row 2 false ay),(19,.row 1 false a0)])
  (fun(i4,i5,i6,bb,b0,ad,ae,ar,au,aw,ax,ay,az,a0,a1)=>∃(a2:List B5) (a3:List Ag) (a4:List Ag) (a5:List ByteArray),a2.map A5=ar∧au=a2.length∧a3.map Ad=aw∧ax=a3.length∧a4.map Ad=ay∧az=a4.length∧a5.map cS=a0∧a1=a5.length∧0≤i6∧i6≤4∧(0≤i4∧i4≤10*i6)∧(0≤bb∧bb≤cb.length)∧okE (5*i6.toNat) (⟨a2,a3,a4,a5,ad,ae⟩:Aa)∧Nw cb 5 0 ri2 rh2 (Cq d2) 0 0=Nw cb (5 - i6.toNat) i6 bb b0 (⟨a2,a3,a4,a5,ad,ae⟩:Aa) i4 i5)
  (fun(i4,i5,i6,bb,b0,ad,ae,ar,au,aw,ax,ay,az,a0,a1)=>(4 - i6).toNat) (0,0,0,ri2,rh2,cr,ct,cg,nr3nod,cj,nr3ent,ck,nr3old,cm,nr3ste) ⟨bu,bv,bw,bz,b1,(by first|omega|(simp;omega)),b2,(by first|omega|(simp;omega)),b3,(by first|omega|(simp;omega)),b4,(by first|omega|(simp;omega)),by omega,by omega,⟨by omega,by omega⟩,by omega,g3,by rw[cq];rfl⟩ ⟨rfl,rfl,rfl,trivial⟩ rfl ?_
 rintro⟨i4,i5,i6,bb,b0,ad,ae,ar,au,aw,ax,ay,az,a0,a1⟩ J ⟨a2,a3,a4,a5,ag,c9,ah,da,ai,db,aj,dc,h0,h1,hbb,hcu,hE,hio⟩ hJ
 conv=>cbv
 rcases ba:Ak cb bb b0 5 with⟨d5,ri5,rh5⟩
 have zr5:=Au ba (by omega)
 refine .bx [0] [] hP (Bw hcb (by omega) ba) rfl rfl rfl rfl ?_
 conv=>cbv
 refine .lss (fun h6=>?_) fun h6=>?_
 conv=>cbv
 rcases a6:Ak cb ri5 rh5 2 with⟨d8,ri8,rh8⟩
 have zr8:=Au a6 (by omega)
 refine .bx [0] [] hP (Bw hcb (by omega) a6) rfl rfl rfl rfl ?_
 conv=>cbv
 refine .add fun v9 c2=>?_
 conv=>cbv
 rcases ap:Ak cb ri8 rh8 3 with⟨d11,ri11,rh11⟩
 have zr11:=Au ap (by omega)
 refine .bx [0] [] hP (Bw hcb (by omega) ap) rfl rfl rfl rfl ?_
 conv=>cbv
 refine .add fun bd cn=>?_
 conv=>cbv
 rcases af:Du cb ri11 rh11 with⟨d14,ri14,rh14⟩
 have zr14:=Jf af (by omega)
 refine .bx [0] [] hP (Sh hcb (by omega) af) rfl rfl rfl rfl ?_
 conv=>cbv
 rcases aq:Ek cb ri14 rh14 3 with⟨d16,ri16,rh16⟩
 generalize co:d16.map cS=xd16
 obtain⟨nd16,hnd16⟩:∃m,m=d16.length:=⟨_,rfl⟩
 have zr16:=Ic aq (by omega) (by omega)
 refine .bx [0] [] hP (Qi hcb (by omega) (by omega) co aq hnd16) rfl rfl rfl rfl ?_
 conv=>cbv
 refine .sub (l:=[d14]) (c:=cS) (m:=d16) (hl:=rfl) rfl co fun cp dl cu be=>?_
 conv=>cbv
 have hnz:cp=([d14]++d16).length:=by rw[cu,List.length_append]
 have dk:cp=(d14::d16).length:=hnz
 have hrl:([d14]++d16).length≤4:=by rw[List.length_append,List.length_singleton];omega
 have hrx:∀x∈[d14]++d16,x.size≤60:=by intro x hx;rcases List.mem_append.1 hx with hx|hx;(rw[List.mem_singleton.1 hx];exact zr14.1);exact zr16.1.2 x hx
 rcases b5:Bq cb ri16 rh16 20 with⟨d19,ri19,rh19⟩
 have zr19:=Cd b5 (by omega)
 refine .bx [0] [] hP (E5 hcb (by omega) b5) rfl rfl rfl rfl ?_
 cases d19
 conv=>cbv
 refine JoinW.jn (κ:=Int×Int×Int) Dv hP [] [0,2,3,4,5,6,7,8] (fun(c0b_40,c0c_40,c20d_40)=>[]) (fun(c0b_40,c0c_40,c20d_40)=>[(0,.box 140 [.d (.row 1 xcb),I c0b_40,I c0c_40]),(20,.box 38 [I v9,I bd,I i4,I c20d_40])])
  (fun(c0b_40,c0c_40,c20d_40)=>Xfx cb ri19 rh19 i5=(c20d_40,c0b_40,c0c_40)∧0≤c0b_40∧c0b_40≤cb.length) (fun Jj1 hJj1=>?_) ?_
 conv=>cbv
 rcases ab:Bq cb ri19 rh19 20 with⟨d21,ri21,rh21⟩
 have zr21:=Cd ab (by omega)
 refine .bx [0] [] hP (E5 hcb (by omega) ab) rfl rfl rfl rfl ?_
 cases d21
 conv=>cbv
 exact .go [] (ri21,rh21,i5) (hJj1 _ ⟨by unfold Xfx;rw[ab];first|done|rfl,by omega,by omega⟩)
 conv=>cbv
 refine .xor fun cv b6=>?_
 conv=>cbv
 exact .go [] (ri21,rh21,cv) (hJj1 _ ⟨by unfold Xfx;rw[ab,b6];first|done|rfl,by omega,by omega⟩)
 rintro⟨c0b_40,c0c_40,c20d_40⟩ ⟨hL,hL1,hL2⟩
 conv=>cbv
 generalize a7:Di (⟨v9,bd,i4,c20d_40⟩:Bj) ([d14]++d16)=cw
 have zr20:=Kl a7
 refine .lnt hP (Pz be (by first|omega|simp) a7) (.agg (.d rfl (.d rfl (.d rfl (.d rfl .nil)))) (.ref rfl (Ae be) .nil)) ?_
 conv=>cbv
 refine JoinW.jn (κ:=ByteArray×Int×Int) Dv hP [] [0,2,3,4,5,6,8] (fun(s9_49,c0b_49,c0c_49)=>[(9,S s9_49)]) (fun(s9_49,c0b_49,c0c_49)=>[(0,.box 140 [.d (.row 1 xcb),I c0b_49,I c0c_49])])
  (fun(s9_49,c0b_49,c0c_49)=>T6 cb c0b_40 c0c_40 (⟨v9,bd,i4,c20d_40⟩:Bj) (d14::d16)=(s9_49,c0b_49,c0c_49)∧(0≤c0b_49∧c0b_49≤cb.length)∧s9_49.size≤200400) (fun Jj2 hJj2=>?_) ?_
 conv=>cbv
 rcases aa:Bq cb c0b_40 c0c_40 4 with⟨d22,ri22,rh22⟩
 have zr22:=Cd aa (by omega)
 refine .bx [0] [] hP (E5 hcb (by omega) aa) rfl rfl rfl rfl ?_
 cases d22
 conv=>cbv
 exact .go [] (cw,ri22,rh22) (hJj2 _ ⟨by unfold T6;rw[aa];exact congrArg (fun x=>(x,ri22,rh22)) a7,by omega,by first|omega|(simp at zr20;omega)⟩)
 conv=>cbv
 generalize ac:Ep (⟨v9,bd,i4,c20d_40⟩:Bj) ([d14]++d16)=cx
 have zr23:=I7 ac
 refine .lnt hP (Nl be (by omega) (by first|omega|simp) (by first|exact hrx|(intro x hx;cases hx)) ac) (.agg (.d rfl (.d rfl (.d rfl (.d rfl .nil)))) (.ref rfl (Ae be) .nil)) ?_
 conv=>cbv
 exact .go [] (cx,ri22,rh22) (hJj2 _ ⟨by unfold T6;rw[aa];exact congrArg (fun x=>(x,ri22,rh22)) ac,by omega,by first|omega|(simp at zr23;omega)⟩)
 rintro⟨s9_49,c0b_49,c0c_49⟩ ⟨hT,hT1,hT2⟩
 conv=>cbv
 refine JoinW.jn (κ:=ByteArray×Int×Int) Dv hP [] [0,2,3,4,5,6,8] (fun(s9_54,c0b_54,c0c_54)=>[(9,S s9_54)]) (fun(s9_54,c0b_54,c0c_54)=>[(0,.box 140 [.d (.row 1 xcb),I c0b_54,I c0c_54])])
  (fun(s9_54,c0b_54,c0c_54)=>Tz cb c0b_49 c0c_49 s9_49=(s9_54,c0b_54,c0c_54)∧(0≤c0b_54∧c0b_54≤cb.length)∧s9_54.size≤500000) (fun Jj3 hJj3=>?_) ?_
 conv=>cbv
 rcases aa:Bq cb c0b_49 c0c_49 6 with⟨d22,ri22,rh22⟩
 have zr22:=Cd aa (by omega)
 refine .bx [0] [] hP (E5 hcb (by omega) aa) rfl rfl rfl rfl ?_
 cases d22
 conv=>cbv
 exact .go [] (s9_49,ri22,rh22) (hJj3 _ ⟨by unfold Tz;rw[aa];first|done|rfl,by omega,by omega⟩)
 conv=>cbv
 rcases a8:Dq cb ri22 rh22 s9_49 with⟨d24,ri24,rh24⟩
 have zr24:=Hl a8 (by omega)
 refine .bx [0] [] hP (Oj hcb (by omega) (by omega) a8) rfl rfl rfl rfl ?_
 conv=>cbv
 exact .go [] (d24,ri24,rh24) (hJj3 _ ⟨by unfold Tz;rw[aa];exact a8,by omega,by omega⟩)
 rintro⟨s9_54,c0b_54,c0c_54⟩ ⟨hB,hB1,hB2⟩
 conv=>cbv
 generalize ab:Af i4=cy
 have zr21:=Ea ab
 refine .dd hP (B1 ab) ?_
 conv=>cbv
 rcases ac:Ex cb c0b_54 c0c_54 (⟨a2,a3,a4,a5,ad,ae⟩:Aa) cy s9_54 with⟨⟨d23nod,d23ent,d23old,d23ste,d23roo,d23nex⟩,ri23,rh23⟩
 generalize ak:d23nod.map A5=xd23nod
 generalize al:d23ent.map Ad=xd23ent
 generalize am:d23old.map Ad=xd23old
 generalize an:d23ste.map cS=xd23ste
 obtain⟨nd23nod,hnd23nod⟩:∃m,m=d23nod.length:=⟨_,rfl⟩
 obtain⟨nd23ent,hnd23ent⟩:∃m,m=d23ent.length:=⟨_,rfl⟩
 obtain⟨nd23old,hnd23old⟩:∃m,m=d23old.length:=⟨_,rfl⟩
 obtain⟨nd23ste,hnd23ste⟩:∃m,m=d23ste.length:=⟨_,rfl⟩
 have zr23:=G6 ac (by omega) hE (by omega) (by first|omega|decide)
 refine .bxL [0] [16,17,18,19] (.same (.agg1 (.ref rfl (Ae ag) (.ref rfl (Ae ah) (.ref rfl (Ae ai) (.ref rfl (Ae aj) (.d rfl (.d rfl .nil)))))) (.same (.same .nil)))) hP (Nz hcb ag ah ai aj (by omega) hE (by omega) (by first|omega|decide) (by first|omega|decide) ak al am an ac hnd23nod hnd23ent hnd23old hnd23ste) rfl rfl rfl rfl ?_
 conv=>cbv
 refine .go fun de c3=>?_
 conv=>cbv
 refine .add fun b7 c4=>?_
 conv=>cbv
 refine LoopW.lp (κ:=Int×Int) Dv hP [] [0,2,3,4,6,8] (fun(i5_1,i10_1)=>[(5,I i5_1),(10,I i10_1)]) (fun(i5_1,i10_1)=>[])
  (fun(i5_1,i10_1)=>0≤i10_1∧i10_1≤(d14::d16).length∧i5_1=((d14::d16).take i10_1.toNat).foldl Dr i5)
  (fun(i5_1,i10_1)=>((d14::d16).length - i10_1).toNat) (i5,0) ⟨by omega,by omega,rfl⟩ ⟨rfl,rfl,trivial⟩ rfl ?_
 rintro⟨i5_1,i10_1⟩ J4 ⟨m0,m1,hlk⟩ cz
 conv=>cbv
 refine .go fun df c5=>?_
 conv=>cbv
 refine .lss (fun h27=>?_) fun h27=>?_
 conv=>cbv
 refine .go i10_1.toNat fun dg b8 c0=>?_
 conv=>cbv
 refine .go be fun ao b9 bf=>?_
 conv=>cbv
 have c6:b9.size≤60:=by first|exact bf▸hrx _ (List.getElem_mem ao)|simp at ao
 generalize bg:Dr i5_1 b9=c1
 refine .dd hP (Pl (by omega) bg) ?_
 conv=>cbv
 refine .add fun ca c7=>?_
 conv=>cbv
 subst b8
 exact .go [] (c1,ca) (cz _ ⟨by omega,by omega,by rw[show ca.toNat=i10_1.toNat+1 by omega,List.take_succ_eq_append_getElem (l:=d14::d16) ao,List.foldl_append,←hlk,List.foldl_cons,List.foldl_nil];exact(bg.symm.trans (congrArg (Dr i5_1) bf))⟩ mlt)
 conv=>cbv
 refine .add fun cc cd=>?_
 conv=>cbv
 have hlf:i5_1=(d14::d16).foldl Dr i5:=by rw[hlk,List.take_of_length_le (by first|omega|(simp;omega)|simp)]
 have hbs:b7=i4+((d14::d16).length:Int):=by first|omega|(simp;omega)|simp
 exact .go [24,25,26,27] (b7,i5_1,cc,ri23,rh23,d23roo,d23nex,xd23nod,nd23nod,xd23ent,nd23ent,xd23old,nd23old,xd23ste,nd23ste) (hJ _ ⟨_,_,_,_,ak,Em,al,Em,am,Em,an,Em,by omega,by omega,⟨by omega,by first|omega|(simp at hbs;omega)⟩,by omega,zr23.1.up (by omega),by rw[hio,show 5 - i6.toNat=(5 - cc.toNat)+1 by omega,cd];simp only[Nw,ba];rw[if_pos (by omega)];simp only[bc,ba,a6,ap,af,aq,b5,ac,Bool.false_eq_true,if_false,if_true,←c2,←cn,hL,hT,hB,ab];rw[hbs,hlf]⟩ mlt)
 conv=>cbv
 refine JoinW.jn (κ:=Int×Int×Int) Dv hP [] [0,2,3,4,5,6,7,8] (fun(c0b_40,c0c_40,c20d_40)=>[]) (fun(c0b_40,c0c_40,c20d_40)=>[(0,.box 140 [.d (.row 1 xcb),I c0b_40,I c0c_40]),(20,.box 38 [I v9,I bd,I i4,I c20d_40])])
  (fun(c0b_40,c0c_40,c20d_40)=>Xfx cb ri19 rh19 i5=(c20d_40,c0b_40,c0c_40)∧0≤c0b_40∧c0b_40≤cb.length) (fun Jj1 hJj1=>?_) ?_
 conv=>cbv
 rcases ab:Bq cb ri19 rh19 20 with⟨d21,ri21,rh21⟩
 have zr21:=Cd ab (by omega)
 refine .bx [0] [] hP (E5 hcb (by omega) ab) rfl rfl rfl rfl ?_
 cases d21
 conv=>cbv
 exact .go [] (ri21,rh21,i5) (hJj1 _ ⟨by unfold Xfx;rw[ab];first|done|rfl,by omega,by omega⟩)
 conv=>cbv
 refine .xor fun cv b6=>?_
 conv=>cbv
 exact .go [] (ri21,rh21,cv) (hJj1 _ ⟨by unfold Xfx;rw[ab,b6];first|done|rfl,by omega,by omega⟩)
 rintro⟨c0b_40,c0c_40,c20d_40⟩ ⟨hL,hL1,hL2⟩
 conv=>cbv
 generalize a7:Di (⟨v9,bd,i4,c20d_40⟩:Bj) []=cw
 have zr20:=Kl a7
 refine .lnt hP (Pz rfl (by first|omega|simp) a7) (.agg (.d rfl (.d rfl (.d rfl (.d rfl .nil)))) (.ref rfl rfl .nil)) ?_
 conv=>cbv
 refine JoinW.jn (κ:=ByteArray×Int×Int) Dv hP [] [0,2,3,4,5,6,8] (fun(s9_49,c0b_49,c0c_49)=>[(9,S s9_49)]) (fun(s9_49,c0b_49,c0c_49)=>[(0,.box 140 [.d (.row 1 xcb),I c0b_49,I c0c_49])])
  (fun(s9_49,c0b_49,c0c_49)=>T6 cb c0b_40 c0c_40 (⟨v9,bd,i4,c20d_40⟩:Bj) (([]:List ByteArray))=(s9_49,c0b_49,c0c_49)∧(0≤c0b_49∧c0b_49≤cb.length)∧s9_49.size≤200400) (fun Jj2 hJj2=>?_) ?_
 conv=>cbv
 rcases aa:Bq cb c0b_40 c0c_40 4 with⟨d22,ri22,rh22⟩
 have zr22:=Cd aa (by omega)
 refine .bx [0] [] hP (E5 hcb (by omega) aa) rfl rfl rfl rfl ?_
 cases d22
 conv=>cbv
 exact .go [] (cw,ri22,rh22) (hJj2 _ ⟨by unfold T6;rw[aa];exact congrArg (fun x=>(x,ri22,rh22)) a7,by omega,by first|omega|(simp at zr20;omega)⟩)
 conv=>cbv
 generalize ac:Ep (⟨v9,bd,i4,c20d_40⟩:Bj) []=cx
 have zr23:=I7 ac
 refine .lnt hP (Nl rfl (by omega) (by first|omega|simp) (by first|exact hrx|(intro x hx;cases hx)) ac) (.agg (.d rfl (.d rfl (.d rfl (.d rfl .nil)))) (.ref rfl rfl .nil)) ?_
 conv=>cbv
 exact .go [] (cx,ri22,rh22) (hJj2 _ ⟨by unfold T6;rw[aa];exact congrArg (fun x=>(x,ri22,rh22)) ac,by omega,by first|omega|(simp at zr23;omega)⟩)
 rintro⟨s9_49,c0b_49,c0c_49⟩ ⟨hT,hT1,hT2⟩
 conv=>cbv
 refine JoinW.jn (κ:=ByteArray×Int×Int) Dv hP [] [0,2,3,4,5,6,8] (fun(s9_54,c0b_54,c0c_54)=>[(9,S s9_54)]) (fun(s9_54,c0b_54,c0c_54)=>[(0,.box 140 [.d (.row 1 xcb),I c0b_54,I c0c_54])])
  (fun(s9_54,c0b_54,c0c_54)=>Tz cb c0b_49 c0c_49 s9_49=(s9_54,c0b_54,c0c_54)∧(0≤c0b_54∧c0b_54≤cb.length)∧s9_54.size≤500000) (fun Jj3 hJj3=>?_) ?_
 conv=>cbv
 rcases aa:Bq cb c0b_49 c0c_49 6 with⟨d22,ri22,rh22⟩
 have zr22:=Cd aa (by omega)
 refine .bx [0] [] hP (E5 hcb (by omega) aa) rfl rfl rfl rfl ?_
 cases d22
 conv=>cbv
 exact .go [] (s9_49,ri22,rh22) (hJj3 _ ⟨by unfold Tz;rw[aa];first|done|rfl,by omega,by omega⟩)
 conv=>cbv
 rcases a8:Dq cb ri22 rh22 s9_49 with⟨d24,ri24,rh24⟩
 have zr24:=Hl a8 (by omega)
 refine .bx [0] [] hP (Oj hcb (by omega) (by omega) a8) rfl rfl rfl rfl ?_
 conv=>cbv
 exact .go [] (d24,ri24,rh24) (hJj3 _ ⟨by unfold Tz;rw[aa];exact a8,by omega,by omega⟩)
 rintro⟨s9_54,c0b_54,c0c_54⟩ ⟨hB,hB1,hB2⟩
 conv=>cbv
 generalize ab:Af i4=cy
 have zr21:=Ea ab
 refine .dd hP (B1 ab) ?_
 conv=>cbv
 rcases ac:Ex cb c0b_54 c0c_54 (⟨a2,a3,a4,a5,ad,ae⟩:Aa) cy s9_54 with⟨⟨d23nod,d23ent,d23old,d23ste,d23roo,d23nex⟩,ri23,rh23⟩
 generalize ak:d23nod.map A5=xd23nod
 generalize al:d23ent.map Ad=xd23ent
 generalize am:d23old.map Ad=xd23old
 generalize an:d23ste.map cS=xd23ste
 obtain⟨nd23nod,hnd23nod⟩:∃m,m=d23nod.length:=⟨_,rfl⟩
 obtain⟨nd23ent,hnd23ent⟩:∃m,m=d23ent.length:=⟨_,rfl⟩
 obtain⟨nd23old,hnd23old⟩:∃m,m=d23old.length:=⟨_,rfl⟩
 obtain⟨nd23ste,hnd23ste⟩:∃m,m=d23ste.length:=⟨_,rfl⟩
 have zr23:=G6 ac (by omega) hE (by omega) (by first|omega|decide)
 refine .bxL [0] [16,17,18,19] (.same (.agg1 (.ref rfl (Ae ag) (.ref rfl (Ae ah) (.ref rfl (Ae ai) (.ref rfl (Ae aj) (.d rfl (.d rfl .nil)))))) (.same (.same .nil)))) hP (Nz hcb ag ah ai aj (by omega) hE (by omega) (by first|omega|decide) (by first|omega|decide) ak al am an ac hnd23nod hnd23ent hnd23old hnd23ste) rfl rfl rfl rfl ?_
 conv=>cbv
 refine .go fun de c3=>?_
 conv=>cbv
 refine .add fun b7 c4=>?_
 conv=>cbv
 refine LoopW.lp (κ:=Int×Int) Dv hP [] [0,2,3,4,6,8] (fun(i5_1,i10_1)=>[(5,I i5_1),(10,I i10_1)]) (fun(i5_1,i10_1)=>[])
  (fun(i5_1,i10_1)=>0≤i10_1∧i10_1≤(([]:List ByteArray)).length∧i5_1=((([]:List ByteArray)).take i10_1.toNat).foldl Dr i5)
  (fun(i5_1,i10_1)=>((([]:List ByteArray)).length - i10_1).toNat) (i5,0) ⟨by omega,by omega,rfl⟩ ⟨rfl,rfl,trivial⟩ rfl ?_
 rintro⟨i5_1,i10_1⟩ J4 ⟨m0,m1,hlk⟩ cz
 conv=>cbv
 refine .go fun df c5=>?_
 conv=>cbv
 refine .lss (fun h27=>?_) fun h27=>?_
 conv=>cbv
 refine .go i10_1.toNat fun dg b8 c0=>?_
 conv=>cbv
 refine .go (l:=[]) (c:=cS) rfl fun ao b9 bf=>?_
 conv=>cbv
 have c6:b9.size≤60:=by first|exact bf▸hrx _ (List.getElem_mem ao)|simp at ao
 generalize bg:Dr i5_1 b9=c1
 refine .dd hP (Pl (by omega) bg) ?_
 conv=>cbv
 refine .add fun ca c7=>?_
 conv=>cbv
 subst b8
 exact .go [] (c1,ca) (cz _ ⟨by omega,by omega,by rw[show ca.toNat=i10_1.toNat+1 by omega,List.take_succ_eq_append_getElem (l:=([]:List ByteArray)) ao,List.foldl_append,←hlk,List.foldl_cons,List.foldl_nil];exact(bg.symm.trans (congrArg (Dr i5_1) bf))⟩ mlt)
 conv=>cbv
 refine .add fun cc cd=>?_
 conv=>cbv
 have hlf:i5_1=(([]:List ByteArray)).foldl Dr i5:=by rw[hlk,List.take_of_length_le (by first|omega|(simp;omega)|simp)]
 have hbs:b7=i4+((([]:List ByteArray)).length:Int):=by first|omega|(simp;omega)|simp
 exact .go [25,26,27,28] (b7,i5_1,cc,ri23,rh23,d23roo,d23nex,xd23nod,nd23nod,xd23ent,nd23ent,xd23old,nd23old,xd23ste,nd23ste) (hJ _ ⟨_,_,_,_,ak,Em,al,Em,am,Em,an,Em,by omega,by omega,⟨by omega,by first|omega|(simp at hbs;omega)⟩,by omega,zr23.1.up (by omega),by rw[hio,show 5 - i6.toNat=(5 - cc.toNat)+1 by omega,cd];simp only[Nw,ba];rw[if_pos (by omega)];simp only[bc,ba,a6,ap,af,aq,b5,ac,Bool.false_eq_true,if_false,if_true,←c2,←cn,hL,hT,hB,ab];rw[hbs,hlf]⟩ mlt)
 conv=>cbv
 rcases a6:Ak cb ri5 rh5 6 with⟨d8,ri8,rh8⟩
 have zr8:=Au a6 (by omega)
 refine .bx [0] [] hP (Bw hcb (by omega) a6) rfl rfl rfl rfl ?_
 conv=>cbv
 refine .eql (fun h9=>?_) fun h9=>?_
 conv=>cbv
 rcases ap:Ak cb ri8 rh8 4 with⟨d11,ri11,rh11⟩
 have zr11:=Au ap (by omega)
 refine .bx [0] [] hP (Bw hcb (by omega) ap) rfl rfl rfl rfl ?_
 conv=>cbv
 generalize a9:Gx d11=dh
 have zr12:=Rx a9
 refine .dd hP (XcO a9) ?_
 conv=>cbv
 rcases af:Ex cb ri11 rh11 (⟨a2,a3,a4,a5,ad,ae⟩:Aa) dh (tx [104,97,108,102])with⟨⟨d14nod,d14ent,d14old,d14ste,d14roo,d14nex⟩,ri14,rh14⟩
 generalize bh:d14nod.map A5=xd14nod
 generalize bi:d14ent.map Ad=xd14ent
 generalize bj:d14old.map Ad=xd14old
 generalize bk:d14ste.map cS=xd14ste
 obtain⟨nd14nod,hnd14nod⟩:∃m,m=d14nod.length:=⟨_,rfl⟩
 obtain⟨nd14ent,hnd14ent⟩:∃m,m=d14ent.length:=⟨_,rfl⟩
 obtain⟨nd14old,hnd14old⟩:∃m,m=d14old.length:=⟨_,rfl⟩
 obtain⟨nd14ste,hnd14ste⟩:∃m,m=d14ste.length:=⟨_,rfl⟩
 have zr14:=G6 af (by omega) hE (by omega) (by first|omega|decide)
 refine .bxL [0] [16,17,18,19] (.same (.agg1 (.ref rfl (Ae ag) (.ref rfl (Ae ah) (.ref rfl (Ae ai) (.ref rfl (Ae aj) (.d rfl (.d rfl .nil)))))) (.same (.same .nil)))) hP (Nz hcb ag ah ai aj (by omega) hE (by omega) (by first|omega|decide) (by first|omega|decide) bh bi bj bk af hnd14nod hnd14ent hnd14old hnd14ste) rfl rfl rfl rfl ?_
 conv=>cbv
 have e:((⟨d14nod,d14ent,d14old,d14ste,d14roo,d14nex⟩:Aa),ri14,rh14)=Fs cb ci ch:=(by unfold Fs;simp only[bc];rw[hio,show 5 - i6.toNat=(4 - i6.toNat)+1 by omega];simp only[Nw,ba];rw[if_neg (show¬i6<d5 by omega)];simp only[a6];rw[if_pos h9];simp only[ap,a9];exact af.symm)
 rw[hr]at e
 simp only[Prod.mk.injEq,Aa.mk.injEq]at e
 obtain⟨⟨rfl,rfl,rfl,rfl,rfl,rfl⟩,rfl,rfl⟩:=e
 obtain rfl:xd14nod=De:=by rw[←bh,←Eb]
 obtain rfl:nd14nod=nonod:=by first|omega|(rw[hnonod];simp;done)|(rw[hnonod];simp;omega)
 obtain rfl:xd14ent=Dd:=by rw[←bi,←Eg]
 obtain rfl:nd14ent=noent:=by first|omega|(rw[hnoent];simp;done)|(rw[hnoent];simp;omega)
 obtain rfl:xd14old=Db:=by rw[←bj,←Ed]
 obtain rfl:nd14old=noold:=by first|omega|(rw[hnoold];simp;done)|(rw[hnoold];simp;omega)
 obtain rfl:xd14ste=Dc:=by rw[←bk,←D7]
 obtain rfl:nd14ste=noste:=by first|omega|(rw[hnoste];simp;done)|(rw[hnoste];simp;omega)
 exact hQ _ _ (.of [20,21,22,23] (.inl rfl) rfl rfl rfl rfl)
 conv=>cbv
 refine .eql (fun h10=>?_) fun h10=>?_
 conv=>cbv
 rcases a9:Ak cb ri8 rh8 9 with⟨d12,ri12,rh12⟩
 have zr12:=Au a9 (by omega)
 refine .bx [0] [] hP (Bw hcb (by omega) a9) rfl rfl rfl rfl ?_
 conv=>cbv
 refine .add fun di c8=>?_
 conv=>cbv
 generalize af:Af di=dj
 have zr14:=Ea af
 refine .dd hP (B1 af) ?_
 conv=>cbv
 rcases aq:Hq cb ri12 rh12 with⟨d16,ri16,rh16⟩
 have zr16:=U9 aq (by omega)
 refine .bx [0] [] hP (XeI hcb (by omega) aq) rfl rfl rfl rfl ?_
 conv=>cbv
 rcases ce:Ex cb ri16 rh16 (⟨a2,a3,a4,a5,ad,ae⟩:Aa) dj d16 with⟨⟨d18nod,d18ent,d18old,d18ste,d18roo,d18nex⟩,ri18,rh18⟩
 generalize bl:d18nod.map A5=xd18nod
 generalize bm:d18ent.map Ad=xd18ent
 generalize bn:d18old.map Ad=xd18old
 generalize bo:d18ste.map cS=xd18ste
 obtain⟨nd18nod,hnd18nod⟩:∃m,m=d18nod.length:=⟨_,rfl⟩
 obtain⟨nd18ent,hnd18ent⟩:∃m,m=d18ent.length:=⟨_,rfl⟩
 obtain⟨nd18old,hnd18old⟩:∃m,m=d18old.length:=⟨_,rfl⟩
 obtain⟨nd18ste,hnd18ste⟩:∃m,m=d18ste.length:=⟨_,rfl⟩
 have zr18:=G6 ce (by omega) hE (by omega) (by first|omega|decide)
 refine .bxL [0] [16,17,18,19] (.same (.agg1 (.ref rfl (Ae ag) (.ref rfl (Ae ah) (.ref rfl (Ae ai) (.ref rfl (Ae aj) (.d rfl (.d rfl .nil)))))) (.same (.same .nil)))) hP (Nz hcb ag ah ai aj (by omega) hE (by omega) (by first|omega|decide) (by first|omega|decide) bl bm bn bo ce hnd18nod hnd18ent hnd18old hnd18ste) rfl rfl rfl rfl ?_
 conv=>cbv
 have e:((⟨d18nod,d18ent,d18old,d18ste,d18roo,d18nex⟩:Aa),ri18,rh18)=Fs cb ci ch:=(by unfold Fs;simp only[bc];rw[hio,show 5 - i6.toNat=(4 - i6.toNat)+1 by omega];simp only[Nw,ba];rw[if_neg (show¬i6<d5 by omega)];simp only[a6];rw[if_neg h9,if_pos h10];simp only[a9,←c8,af,aq];exact ce.symm)
 rw[hr]at e
 simp only[Prod.mk.injEq,Aa.mk.injEq]at e
 obtain⟨⟨rfl,rfl,rfl,rfl,rfl,rfl⟩,rfl,rfl⟩:=e
 obtain rfl:xd18nod=De:=by rw[←bl,←Eb]
 obtain rfl:nd18nod=nonod:=by first|omega|(rw[hnonod];simp;done)|(rw[hnonod];simp;omega)
 obtain rfl:xd18ent=Dd:=by rw[←bm,←Eg]
 obtain rfl:nd18ent=noent:=by first|omega|(rw[hnoent];simp;done)|(rw[hnoent];simp;omega)
 obtain rfl:xd18old=Db:=by rw[←bn,←Ed]
 obtain rfl:nd18old=noold:=by first|omega|(rw[hnoold];simp;done)|(rw[hnoold];simp;omega)
 obtain rfl:xd18ste=Dc:=by rw[←bo,←D7]
 obtain rfl:nd18ste=noste:=by first|omega|(rw[hnoste];simp;done)|(rw[hnoste];simp;omega)
 exact hQ _ _ (.of [20,21,22,23] (.inl rfl) rfl rfl rfl rfl)
 conv=>cbv
 refine .eql (fun h11=>?_) fun h11=>?_
 conv=>cbv
 rcases cf:Ex cb ri8 rh8 (⟨a2,a3,a4,a5,ad,ae⟩:Aa) (tx [114,101,97,100,109,101]) (tx [115,111,109,101,32,116,101,120,116])with⟨⟨d13nod,d13ent,d13old,d13ste,d13roo,d13nex⟩,ri13,rh13⟩
 generalize bp:d13nod.map A5=xd13nod
 generalize bq:d13ent.map Ad=xd13ent
 generalize bs:d13old.map Ad=xd13old
 generalize bt:d13ste.map cS=xd13ste
 obtain⟨nd13nod,hnd13nod⟩:∃m,m=d13nod.length:=⟨_,rfl⟩
 obtain⟨nd13ent,hnd13ent⟩:∃m,m=d13ent.length:=⟨_,rfl⟩
 obtain⟨nd13old,hnd13old⟩:∃m,m=d13old.length:=⟨_,rfl⟩
 obtain⟨nd13ste,hnd13ste⟩:∃m,m=d13ste.length:=⟨_,rfl⟩
 have zr13:=G6 cf (by omega) hE (by omega) (by first|omega|decide)
 refine .bxL [0] [16,17,18,19] (.same (.agg1 (.ref rfl (Ae ag) (.ref rfl (Ae ah) (.ref rfl (Ae ai) (.ref rfl (Ae aj) (.d rfl (.d rfl .nil)))))) (.same (.same .nil)))) hP (Nz hcb ag ah ai aj (by omega) hE (by omega) (by first|omega|decide) (by first|omega|decide) bp bq bs bt cf hnd13nod hnd13ent hnd13old hnd13ste) rfl rfl rfl rfl ?_
 conv=>cbv
 have e:((⟨d13nod,d13ent,d13old,d13ste,d13roo,d13nex⟩:Aa),ri13,rh13)=Fs cb ci ch:=(by unfold Fs;simp only[bc];rw[hio,show 5 - i6.toNat=(4 - i6.toNat)+1 by omega];simp only[Nw,ba];rw[if_neg (show¬i6<d5 by omega)];simp only[a6];rw[if_neg h9,if_neg h10,if_pos h11];exact cf.symm)
 rw[hr]at e
 simp only[Prod.mk.injEq,Aa.mk.injEq]at e
 obtain⟨⟨rfl,rfl,rfl,rfl,rfl,rfl⟩,rfl,rfl⟩:=e
 obtain rfl:xd13nod=De:=by rw[←bp,←Eb]
 obtain rfl:nd13nod=nonod:=by first|omega|(rw[hnonod];simp;done)|(rw[hnonod];simp;omega)
 obtain rfl:xd13ent=Dd:=by rw[←bq,←Eg]
 obtain rfl:nd13ent=noent:=by first|omega|(rw[hnoent];simp;done)|(rw[hnoent];simp;omega)
 obtain rfl:xd13old=Db:=by rw[←bs,←Ed]
 obtain rfl:nd13old=noold:=by first|omega|(rw[hnoold];simp;done)|(rw[hnoold];simp;omega)
 obtain rfl:xd13ste=Dc:=by rw[←bt,←D7]
 obtain rfl:nd13ste=noste:=by first|omega|(rw[hnoste];simp;done)|(rw[hnoste];simp;omega)
 exact hQ _ _ (.of [20,21,22,23] (.inl rfl) rfl rfl rfl rfl)
 conv=>cbv
 have e:((⟨a2,a3,a4,a5,ad,ae⟩:Aa),ri8,rh8)=Fs cb ci ch:=(by unfold Fs;simp only[bc];rw[hio,show 5 - i6.toNat=(4 - i6.toNat)+1 by omega];simp only[Nw,ba];rw[if_neg (show¬i6<d5 by omega)];simp only[a6];rw[if_neg h9,if_neg h10,if_neg h11])
 rw[hr]at e
 simp only[Prod.mk.injEq,Aa.mk.injEq]at e
 obtain⟨⟨rfl,rfl,rfl,rfl,rfl,rfl⟩,rfl,rfl⟩:=e
 obtain rfl:ar=De:=by rw[←ag,←Eb]
 obtain rfl:au=nonod:=by first|omega|(rw[hnonod];simp;done)|(rw[hnonod];simp;omega)
 obtain rfl:aw=Dd:=by rw[←ah,←Eg]
 obtain rfl:ax=noent:=by first|omega|(rw[hnoent];simp;done)|(rw[hnoent];simp;omega)
 obtain rfl:ay=Db:=by rw[←ai,←Ed]
 obtain rfl:az=noold:=by first|omega|(rw[hnoold];simp;done)|(rw[hnoold];simp;omega)
 obtain rfl:a0=Dc:=by rw[←aj,←D7]
 obtain rfl:a1=noste:=by first|omega|(rw[hnoste];simp;done)|(rw[hnoste];simp;omega)
 exact hQ _ _ (.of [16,17,18,19] (.inl rfl) rfl rfl rfl rfl)
end
section
open Go Go.Proofs
set_option maxRecDepth 20000
set_option maxHeartbeats 4000000
def Xcv:List (Nat×TyRow):=[ty3,ty9,Xg4,XgU,Xax,Xbj,XaE,Xin,XcB,Xc0]
theorem XaS:B3 Tryz.prog Xcv:=B3.of (by kernel_rfl)
theorem XaI:Setup Tryz.prog Xcv:=⟨XaS,mixed⟩
variable {cb:List UInt8} {xcb De Dd Db Dc:List (List D)} {ci ch oroo onex oi oh:Int} {onod:List B5} {oent oold:List Ag} {oste:List ByteArray} {nonod noent noold noste:Nat}
theorem Xdt(hcb:cb.map cB=xcb)(hc:0≤ci∧ci≤cb.length∧cb.length≤1000000000000)(Eb:onod.map A5=De)(Eg:oent.map Ad=Dd)(Ed:oold.map Ad=Db)(D7:oste.map cS=Dc)(hr:Ih cb ci ch=(⟨onod,oent,oold,oste,oroo,onex⟩,oi,oh))(hnonod:nonod=onod.length)(hnoent:noent=oent.length)(hnoold:noold=oold.length)(hnoste:noste=oste.length):Fn Tryz.prog 173 [.ptr 0 0 0] [.box 140 [.d (.row 1 xcb),I ci,I ch]] ⟨.agg [.ref 1 0 nonod,.ref 2 0 noent,.ref 3 0 noold,.ref 4 0 noste,I oroo,I onex],[.row 3 false De,.row 2 false Dd,.row 2 false Db,.row 1 false Dc],[(0,.box 140 [.d (.row 1 xcb),I oi,I oh])]⟩:=by
 refine Fn.goR XaI Tryz.func173 fun P hP Q hQ=>?_
 conv=>cbv
 rcases ds:B9 cb ci ch [4000,4000,4000,300,100]with⟨d2,ri2,rh2⟩
 have zr2:=Dy ds (by omega)
 refine .bxL [0] [6] (.same (.ref rfl rfl .nil)) hP (Hx hcb rfl (by omega) (by decide) ds) rfl rfl rfl rfl ?_
 conv=>cbv
 rcases ed:Cq d2 with⟨cz,c0,c1,c2,ee,ef⟩
 generalize c4:cz.map A5=d7
 generalize c5:c0.map Ad=d9
 generalize c6:c1.map Ad=ea
 generalize c7:c2.map cS=eb
 obtain⟨nr3nod,hnr3nod⟩:∃m,m=cz.length:=⟨_,rfl⟩
 obtain⟨nr3ent,hnr3ent⟩:∃m,m=c0.length:=⟨_,rfl⟩
 obtain⟨nr3old,hnr3old⟩:∃m,m=c1.length:=⟨_,rfl⟩
 obtain⟨nr3ste,hnr3ste⟩:∃m,m=c2.length:=⟨_,rfl⟩
 have g3:=Xb d2
 rw[ed]at g3
 refine .ddN hP (Uf ed c4 c5 c6 c7 hnr3nod hnr3ent hnr3old hnr3ste) rfl ?_
 conv=>cbv
 refine LoopW.lp (κ:=Int×Int×Int×Int×Int×(List (List D))×Nat×(List (List D))×Nat×(List (List D))×Nat×(List (List D))×Nat) XaI hP [7,8,9,10] [0,2,3] (fun(i4,ck,c3,ai,aj,bk,bl,bm,bn,bo,bp,bq,bs)=>[(4,I i4)]) (fun(i4,ck,c3,ai,aj,bk,bl,bm,bn,bo,bp,bq,bs)=>[(0,.box 140 [.d (.row 1 xcb),I ck,I c3]),(15,.box 28 [.ref 16 0 bl,.ref 17 0 bn,.ref 18 0 bp,.ref 19 0 bs,I ai,I aj]),(16,.row 3 false bk),(17,.row 2 false bm),(18,.row 2 false bo),(19,.row 1 false bq)])
  (fun(i4,ck,c3,ai,aj,bk,bl,bm,bn,bo,bp,bq,bs)=>∃(aq:List B5) (ar:List Ag) (au:List Ag) (aw:List ByteArray),aq.map A5=bk∧bl=aq.length∧ar.map Ad=bm∧bn=ar.length∧au.map Ad=bo∧bp=au.length∧aw.map cS=bq∧bs=aw.length∧0≤i4∧i4≤8∧(0≤ck∧ck≤cb.length)∧okE (2*i4.toNat) (⟨aq,ar,au,aw,ai,aj⟩:Aa)∧Ih cb ci ch=Xbe cb (9 - i4.toNat) i4 ck c3 (⟨aq,ar,au,aw,ai,aj⟩:Aa))
  (fun(i4,ck,c3,ai,aj,bk,bl,bm,bn,bo,bp,bq,bs)=>(8 - i4).toNat) (0,ri2,rh2,ee,ef,d7,nr3nod,d9,nr3ent,ea,nr3old,eb,nr3ste) ⟨cz,c0,c1,c2,c4,(by first|omega|(simp;omega)),c5,(by first|omega|(simp;omega)),c6,(by first|omega|(simp;omega)),c7,(by first|omega|(simp;omega)),by omega,by omega,by omega,g3,by unfold Ih;rw[ds];exact congrArg (Xbe cb 9 0 ri2 rh2) ed⟩ ⟨rfl,trivial⟩ rfl ?_
 rintro⟨i4,ck,c3,ai,aj,bk,bl,bm,bn,bo,bp,bq,bs⟩ J ⟨aq,ar,au,aw,ak,eu,al,ew,am,ex,an,ey,h0,h1,hcu,hE,hio⟩ hJ
 conv=>cbv
 rcases bj:Ak cb ck c3 9 with⟨d5,ri5,rh5⟩
 have zr5:=Au bj (by omega)
 refine .bx [0] [] hP (Bw hcb (by omega) bj) rfl rfl rfl rfl ?_
 conv=>cbv
 refine .lss (fun h6=>?_) fun h6=>?_
 conv=>cbv
 rcases bt:Fi cb ri5 rh5 [(tx [97]),(tx [98]),(tx [115,48,48,48,48,48,48,48,48,46,115,101,103]),(tx [115,48,48,48,48,48,48,48,51,46,115,101,103]),(tx [115,48,48,48,48,48,48,48,48,46,115,101,103,46,116,109,112]),(tx [99])]with⟨d8,ri8,rh8⟩
 have zr8:=Ip (n:=100) bt (by omega) (by decide)
 refine .bxL [0] [20] (.same (.ref rfl rfl .nil)) hP (Sv hcb rfl (by omega) (by decide) bt) rfl rfl rfl rfl ?_
 conv=>cbv
 rcases ax:Ak cb ri8 rh8 8 with⟨d10,ri10,rh10⟩
 have zr10:=Au ax (by omega)
 refine .bx [0] [] hP (Bw hcb (by omega) ax) rfl rfl rfl rfl ?_
 conv=>cbv
 refine .eql (fun h11=>?_) fun h11=>?_
 conv=>cbv
 rcases dt:Ce (⟨aq,ar,au,aw,ai,aj⟩:Aa) d8 with⟨⟨bu,bv,bw,bz,cq,cr⟩,e0⟩
 generalize a3:bu.map A5=da
 generalize a4:bv.map Ad=db
 generalize a5:bw.map Ad=dc
 generalize a6:bz.map cS=de
 obtain⟨nr12anod,hnr12anod⟩:∃m,m=bu.length:=⟨_,rfl⟩
 obtain⟨nr12aent,hnr12aent⟩:∃m,m=bv.length:=⟨_,rfl⟩
 obtain⟨nr12aold,hnr12aold⟩:∃m,m=bw.length:=⟨_,rfl⟩
 obtain⟨nr12aste,hnr12aste⟩:∃m,m=bz.length:=⟨_,rfl⟩
 have g12:=hE.of (O4 (name:=d8) hE.1 (okE.st hE (by omega)) (by omega)) Q6
 rw[dt]at g12
 try simp only[]at g12
 refine .lntN hP (Ov ak al am an hE.1.1.1 hE.1.1.2.2.1 hE.1.1.2.2.2.2.1 (okE.st hE (by omega)) hE.1.2.2 hE.1 (by omega) dt a3 a4 a5 a6 hnr12anod hnr12aent hnr12aold hnr12aste) (.agg (.ref rfl (Ae ak) (.ref rfl (Ae al) (.ref rfl (Ae am) (.ref rfl (Ae an) (.d rfl (.d rfl .nil)))))) (.d rfl .nil)) rfl rfl rfl (by simp only[List.all_cons,List.all_nil,Bool.and_self,Az (fun _=>rfl) a3,Az (fun _=>rfl) a4,Az (fun _=>rfl) a5,Az (fun _=>rfl) a6]) ?_
 conv=>cbv
 refine .add fun eg eh=>?_
 conv=>cbv
 have hst:Ha cb ri5 rh5 (⟨aq,ar,au,aw,ai,aj⟩:Aa)=((⟨bu,bv,bw,bz,cq,cr⟩:Aa),ri10,rh10):=by unfold Ha nmA;simp only[bt,ax];rw[if_pos h11];simp only[dt]
 exact .go [21,22,23,24] (eg,ri10,rh10,cq,cr,da,nr12anod,db,nr12aent,dc,nr12aold,de,nr12aste) (hJ _ ⟨_,_,_,_,a3,Em,a4,Em,a5,Em,a6,Em,by omega,by omega,by omega,g12.up (by omega),by rw[hio,show 9 - i4.toNat=(9 - eg.toNat)+1 by omega,eh];simp only[Xbe,bj,hst];rw[if_pos (by omega)]⟩ mlt)
 conv=>cbv
 refine .eql (fun h12=>?_) fun h12=>?_
 conv=>cbv
 rcases du:Cc (⟨aq,ar,au,aw,ai,aj⟩:Aa)with⟨cm,cn,co,cp,c8,c9⟩
 generalize b0:cm.map A5=dv
 generalize b1:cn.map Ad=dw
 generalize b2:co.map Ad=dx
 generalize b3:cp.map cS=dy
 obtain⟨nr13nod,hnr13nod⟩:∃m,m=cm.length:=⟨_,rfl⟩
 obtain⟨nr13ent,hnr13ent⟩:∃m,m=cn.length:=⟨_,rfl⟩
 obtain⟨nr13old,hnr13old⟩:∃m,m=co.length:=⟨_,rfl⟩
 obtain⟨nr13ste,hnr13ste⟩:∃m,m=cp.length:=⟨_,rfl⟩
 have g13:=hE.of (Mr hE.1) R6
 rw[du]at g13
 try simp only[]at g13
 refine .lntN hP (L4 ak al am an hE.1.1.1 hE.1.1.2.2.1 hE.1.1.2.2.2.2.1 (okE.st hE (by omega)) hE.1.2.2 hE.1 du b0 b1 b2 b3 hnr13nod hnr13ent hnr13old hnr13ste) (.agg (.ref rfl (Ae ak) (.ref rfl (Ae al) (.ref rfl (Ae am) (.ref rfl (Ae an) (.d rfl (.d rfl .nil)))))) .nil) rfl rfl rfl (by simp only[List.all_cons,List.all_nil,Bool.and_self,Az (fun _=>rfl) b0,Az (fun _=>rfl) b1,Az (fun _=>rfl) b2,Az (fun _=>rfl) b3]) ?_
 conv=>cbv
 refine .add fun ei ej=>?_
 conv=>cbv
 have hst:Ha cb ri5 rh5 (⟨aq,ar,au,aw,ai,aj⟩:Aa)=((⟨cm,cn,co,cp,c8,c9⟩:Aa),ri10,rh10):=by unfold Ha nmA;simp only[bt,ax];rw[if_neg h11,if_pos h12];simp only[du]
 exact .go [21,22,23,24] (ei,ri10,rh10,c8,c9,dv,nr13nod,dw,nr13ent,dx,nr13old,dy,nr13ste) (hJ _ ⟨_,_,_,_,b0,Em,b1,Em,b2,Em,b3,Em,by omega,by omega,by omega,g13.up (by omega),by rw[hio,show 9 - i4.toNat=(9 - ei.toNat)+1 by omega,ej];simp only[Xbe,bj,hst];rw[if_pos (by omega)]⟩ mlt)
 conv=>cbv
 refine .eql (fun h13=>?_) fun h13=>?_
 conv=>cbv
 rcases dz:By (⟨aq,ar,au,aw,ai,aj⟩:Aa) d8 with⟨⟨b4,b5,b6,b7,ct,cu⟩,e1⟩
 generalize a7:b4.map A5=df
 generalize a8:b5.map Ad=dg
 generalize a9:b6.map Ad=dh
 generalize ba:b7.map cS=di
 obtain⟨nr14anod,hnr14anod⟩:∃m,m=b4.length:=⟨_,rfl⟩
 obtain⟨nr14aent,hnr14aent⟩:∃m,m=b5.length:=⟨_,rfl⟩
 obtain⟨nr14aold,hnr14aold⟩:∃m,m=b6.length:=⟨_,rfl⟩
 obtain⟨nr14aste,hnr14aste⟩:∃m,m=b7.length:=⟨_,rfl⟩
 have g14:=hE.of (L6 (name:=d8) hE.1) Xcg
 rw[dz]at g14
 try simp only[]at g14
 refine .lntN hP (Rl ak al am an hE.1.1.1 hE.1.1.2.2.1 hE.1.1.2.2.2.2.1 (okE.st hE (by omega)) hE.1.2.2 hE.1 dz a7 a8 a9 ba hnr14anod hnr14aent hnr14aold hnr14aste) (.agg (.ref rfl (Ae ak) (.ref rfl (Ae al) (.ref rfl (Ae am) (.ref rfl (Ae an) (.d rfl (.d rfl .nil)))))) (.d rfl .nil)) rfl rfl rfl (by simp only[List.all_cons,List.all_nil,Bool.and_self,Az (fun _=>rfl) a7,Az (fun _=>rfl) a8,Az (fun _=>rfl) a9,Az (fun _=>rfl) ba]) ?_
 conv=>cbv
 refine .add fun ek eo=>?_
 conv=>cbv
 have hst:Ha cb ri5 rh5 (⟨aq,ar,au,aw,ai,aj⟩:Aa)=((⟨b4,b5,b6,b7,ct,cu⟩:Aa),ri10,rh10):=by unfold Ha nmA;simp only[bt,ax];rw[if_neg h11,if_neg h12,if_pos h13];simp only[dz]
 exact .go [21,22,23,24] (ek,ri10,rh10,ct,cu,df,nr14anod,dg,nr14aent,dh,nr14aold,di,nr14aste) (hJ _ ⟨_,_,_,_,a7,Em,a8,Em,a9,Em,ba,Em,by omega,by omega,by omega,g14.up (by omega),by rw[hio,show 9 - i4.toNat=(9 - ek.toNat)+1 by omega,eo];simp only[Xbe,bj,hst];rw[if_pos (by omega)]⟩ mlt)
 conv=>cbv
 refine .eql (fun h14=>?_) fun h14=>?_
 conv=>cbv
 rcases b8:Fi cb ri10 rh10 [(tx [98]),(tx [120]),(tx [115,48,48,48,48,48,48,48,51,46,115,101,103])]with⟨d16,ri16,rh16⟩
 have zr16:=Ip (n:=100) b8 (by omega) (by decide)
 refine .bxL [0] [21] (.same (.ref rfl rfl .nil)) hP (Sv hcb rfl (by omega) (by decide) b8) rfl rfl rfl rfl ?_
 conv=>cbv
 rcases ay:Cu (⟨aq,ar,au,aw,ai,aj⟩:Aa) d8 d16 with⟨⟨ae,af,ag,ah,ao,ap⟩,ec⟩
 generalize aa:ae.map A5=az
 generalize ab:af.map Ad=a0
 generalize ac:ag.map Ad=a1
 generalize ad:ah.map cS=a2
 obtain⟨nr17anod,hnr17anod⟩:∃m,m=ae.length:=⟨_,rfl⟩
 obtain⟨nr17aent,hnr17aent⟩:∃m,m=af.length:=⟨_,rfl⟩
 obtain⟨nr17aold,hnr17aold⟩:∃m,m=ag.length:=⟨_,rfl⟩
 obtain⟨nr17aste,hnr17aste⟩:∃m,m=ah.length:=⟨_,rfl⟩
 have g17:=hE.of (Xh (a:=d8) (b:=d16) hE.1 (okE.st hE (by omega)) (by omega) (by omega)) XbM
 rw[ay]at g17
 try simp only[]at g17
 refine .lntN hP (V0 ak al am an hE.1.1.1 hE.1.1.2.2.1 hE.1.1.2.2.2.2.1 (okE.st hE (by omega)) hE.1.2.2 hE.1 (by omega) ay aa ab ac ad hnr17anod hnr17aent hnr17aold hnr17aste) (.agg (.ref rfl (Ae ak) (.ref rfl (Ae al) (.ref rfl (Ae am) (.ref rfl (Ae an) (.d rfl (.d rfl .nil)))))) (.d rfl (.d rfl .nil))) rfl rfl rfl (by simp only[List.all_cons,List.all_nil,Bool.and_self,Az (fun _=>rfl) aa,Az (fun _=>rfl) ab,Az (fun _=>rfl) ac,Az (fun _=>rfl) ad]) ?_
 conv=>cbv
 refine .add fun d0 d1=>?_
 conv=>cbv
 have hst:Ha cb ri5 rh5 (⟨aq,ar,au,aw,ai,aj⟩:Aa)=((⟨ae,af,ag,ah,ao,ap⟩:Aa),ri16,rh16):=by unfold Ha nmA nmB;simp only[bt,ax];rw[if_neg h11,if_neg h12,if_neg h13,if_pos h14];simp only[ds,bj,bt,ax,b8,ay]
 exact .go [22,23,24,25] (d0,ri16,rh16,ao,ap,az,nr17anod,a0,nr17aent,a1,nr17aold,a2,nr17aste) (hJ _ ⟨_,_,_,_,aa,Em,ab,Em,ac,Em,ad,Em,by omega,by omega,by omega,g17.up (by omega),by rw[hio,show 9 - i4.toNat=(9 - d0.toNat)+1 by omega,d1];simp only[Xbe,bj,hst];rw[if_pos (by omega)]⟩ mlt)
 conv=>cbv
 refine .eql (fun h15=>?_) fun h15=>?_
 conv=>cbv
 rcases b8:Ap (⟨aq,ar,au,aw,ai,aj⟩:Aa) d8 with⟨⟨b9,ca,cc,cd,cv,cw⟩,e2⟩
 generalize bb:b9.map A5=dj
 generalize bc:ca.map Ad=dk
 generalize bd:cc.map Ad=dl
 generalize be:cd.map cS=dm
 obtain⟨nr16anod,hnr16anod⟩:∃m,m=b9.length:=⟨_,rfl⟩
 obtain⟨nr16aent,hnr16aent⟩:∃m,m=ca.length:=⟨_,rfl⟩
 obtain⟨nr16aold,hnr16aold⟩:∃m,m=cc.length:=⟨_,rfl⟩
 obtain⟨nr16aste,hnr16aste⟩:∃m,m=cd.length:=⟨_,rfl⟩
 have g16:=hE.of (Gb (name:=d8) hE.1 (okE.st hE (by omega)) (by omega)) Ks
 rw[b8]at g16
 try simp only[]at g16
 refine .lntN hP (In ak al am an hE.1.1.1 hE.1.1.2.2.1 hE.1.1.2.2.2.2.1 (okE.st hE (by omega)) hE.1.2.2 hE.1 (by omega) b8 bb bc bd be hnr16anod hnr16aent hnr16aold hnr16aste) (.agg (.ref rfl (Ae ak) (.ref rfl (Ae al) (.ref rfl (Ae am) (.ref rfl (Ae an) (.d rfl (.d rfl .nil)))))) (.d rfl .nil)) rfl rfl rfl (by simp only[List.all_cons,List.all_nil,Bool.and_self,Az (fun _=>rfl) bb,Az (fun _=>rfl) bc,Az (fun _=>rfl) bd,Az (fun _=>rfl) be]) ?_
 conv=>cbv
 refine .add fun ep er=>?_
 conv=>cbv
 have hst:Ha cb ri5 rh5 (⟨aq,ar,au,aw,ai,aj⟩:Aa)=((⟨b9,ca,cc,cd,cv,cw⟩:Aa),ri10,rh10):=by unfold Ha nmA;simp only[bt,ax];rw[if_neg h11,if_neg h12,if_neg h13,if_neg h14,if_pos (.inl h15)];simp only[b8]
 exact .go [21,22,23,24] (ep,ri10,rh10,cv,cw,dj,nr16anod,dk,nr16aent,dl,nr16aold,dm,nr16aste) (hJ _ ⟨_,_,_,_,bb,Em,bc,Em,bd,Em,be,Em,by omega,by omega,by omega,g16.up (by omega),by rw[hio,show 9 - i4.toNat=(9 - ep.toNat)+1 by omega,er];simp only[Xbe,bj,hst];rw[if_pos (by omega)]⟩ mlt)
 conv=>cbv
 refine .eql (fun h16=>?_) fun h16=>?_
 conv=>cbv
 rcases ay:Ap (⟨aq,ar,au,aw,ai,aj⟩:Aa) d8 with⟨⟨ae,af,ag,ah,ao,ap⟩,ec⟩
 generalize aa:ae.map A5=az
 generalize ab:af.map Ad=a0
 generalize ac:ag.map Ad=a1
 generalize ad:ah.map cS=a2
 obtain⟨nr17anod,hnr17anod⟩:∃m,m=ae.length:=⟨_,rfl⟩
 obtain⟨nr17aent,hnr17aent⟩:∃m,m=af.length:=⟨_,rfl⟩
 obtain⟨nr17aold,hnr17aold⟩:∃m,m=ag.length:=⟨_,rfl⟩
 obtain⟨nr17aste,hnr17aste⟩:∃m,m=ah.length:=⟨_,rfl⟩
 have g17:=hE.of (Gb (name:=d8) hE.1 (okE.st hE (by omega)) (by omega)) Ks
 rw[ay]at g17
 try simp only[]at g17
 refine .lntN hP (In ak al am an hE.1.1.1 hE.1.1.2.2.1 hE.1.1.2.2.2.2.1 (okE.st hE (by omega)) hE.1.2.2 hE.1 (by omega) ay aa ab ac ad hnr17anod hnr17aent hnr17aold hnr17aste) (.agg (.ref rfl (Ae ak) (.ref rfl (Ae al) (.ref rfl (Ae am) (.ref rfl (Ae an) (.d rfl (.d rfl .nil)))))) (.d rfl .nil)) rfl rfl rfl (by simp only[List.all_cons,List.all_nil,Bool.and_self,Az (fun _=>rfl) aa,Az (fun _=>rfl) ab,Az (fun _=>rfl) ac,Az (fun _=>rfl) ad]) ?_
 conv=>cbv
 refine .add fun d0 d1=>?_
 conv=>cbv
 have hst:Ha cb ri5 rh5 (⟨aq,ar,au,aw,ai,aj⟩:Aa)=((⟨ae,af,ag,ah,ao,ap⟩:Aa),ri10,rh10):=by unfold Ha nmA;simp only[bt,ax];rw[if_neg h11,if_neg h12,if_neg h13,if_neg h14,if_pos (.inr h16)];simp only[ay]
 exact .go [21,22,23,24] (d0,ri10,rh10,ao,ap,az,nr17anod,a0,nr17aent,a1,nr17aold,a2,nr17aste) (hJ _ ⟨_,_,_,_,aa,Em,ab,Em,ac,Em,ad,Em,by omega,by omega,by omega,g17.up (by omega),by rw[hio,show 9 - i4.toNat=(9 - d0.toNat)+1 by omega,d1];simp only[Xbe,bj,hst];rw[if_pos (by omega)]⟩ mlt)
 conv=>cbv
 rcases ay:Ap (⟨aq,ar,au,aw,ai,aj⟩:Aa) d8 with⟨⟨ae,af,ag,ah,ao,ap⟩,ec⟩
 generalize aa:ae.map A5=az
 generalize ab:af.map Ad=a0
 generalize ac:ag.map Ad=a1
 generalize ad:ah.map cS=a2
 obtain⟨nr17anod,hnr17anod⟩:∃m,m=ae.length:=⟨_,rfl⟩
 obtain⟨nr17aent,hnr17aent⟩:∃m,m=af.length:=⟨_,rfl⟩
 obtain⟨nr17aold,hnr17aold⟩:∃m,m=ag.length:=⟨_,rfl⟩
 obtain⟨nr17aste,hnr17aste⟩:∃m,m=ah.length:=⟨_,rfl⟩
 have g17:=hE.of (Gb (name:=d8) hE.1 (okE.st hE (by omega)) (by omega)) Ks
 rw[ay]at g17
 try simp only[]at g17
 refine .lntN hP (In ak al am an hE.1.1.1 hE.1.1.2.2.1 hE.1.1.2.2.2.2.1 (okE.st hE (by omega)) hE.1.2.2 hE.1 (by omega) ay aa ab ac ad hnr17anod hnr17aent hnr17aold hnr17aste) (.agg (.ref rfl (Ae ak) (.ref rfl (Ae al) (.ref rfl (Ae am) (.ref rfl (Ae an) (.d rfl (.d rfl .nil)))))) (.d rfl .nil)) rfl rfl rfl (by simp only[List.all_cons,List.all_nil,Bool.and_self,Az (fun _=>rfl) aa,Az (fun _=>rfl) ab,Az (fun _=>rfl) ac,Az (fun _=>rfl) ad]) ?_
 conv=>cbv
 rcases d3:Ak cb ri10 rh10 12 with⟨d19,ri19,rh19⟩
 have zr19:=Au d3 (by omega)
 refine .bx [0] [] hP (Bw hcb (by omega) d3) rfl rfl rfl rfl ?_
 conv=>cbv
 rcases d4:D6 cb ri19 rh19 d19 with⟨d21,ri21,rh21⟩
 have zr21:=Gq d4 (by omega)
 refine .bx [0] [] hP (Nx hcb (by omega) d4) rfl rfl rfl rfl ?_
 conv=>cbv
 rcases d6:Ai (⟨ae,af,ag,ah,ao,ap⟩:Aa) d8 d21 with⟨⟨ce,cf,cg,cj,cx,cy⟩,e3⟩
 generalize bf:ce.map A5=dn
 generalize bg:cf.map Ad=dp
 generalize bh:cg.map Ad=dq
 generalize bi:cj.map cS=dr
 obtain⟨nr22anod,hnr22anod⟩:∃m,m=ce.length:=⟨_,rfl⟩
 obtain⟨nr22aent,hnr22aent⟩:∃m,m=cf.length:=⟨_,rfl⟩
 obtain⟨nr22aold,hnr22aold⟩:∃m,m=cg.length:=⟨_,rfl⟩
 obtain⟨nr22aste,hnr22aste⟩:∃m,m=cj.length:=⟨_,rfl⟩
 have g22:=g17.of (F7 (name:=d8) (text:=d21) g17.1) Q0
 rw[d6]at g22
 try simp only[]at g22
 refine .lntN hP (Oy aa ab ac ad g17.1.1.1 g17.1.1.2.2.1 g17.1.1.2.2.2.2.1 (okE.st g17 (by omega)) g17.1.2.2 g17.1 (by omega) d6 bf bg bh bi hnr22anod hnr22aent hnr22aold hnr22aste) (.agg (.ref rfl (Ae aa) (.ref rfl (Ae ab) (.ref rfl (Ae ac) (.ref rfl (Ae ad) (.d rfl (.d rfl .nil)))))) (.d rfl (.d rfl .nil))) rfl rfl rfl (by simp only[List.all_cons,List.all_nil,Bool.and_self,Az (fun _=>rfl) bf,Az (fun _=>rfl) bg,Az (fun _=>rfl) bh,Az (fun _=>rfl) bi]) ?_
 conv=>cbv
 refine .add fun es et=>?_
 conv=>cbv
 have hst:Ha cb ri5 rh5 (⟨aq,ar,au,aw,ai,aj⟩:Aa)=((⟨ce,cf,cg,cj,cx,cy⟩:Aa),ri21,rh21):=by unfold Ha nmA;simp only[bt,ax];rw[if_neg h11,if_neg h12,if_neg h13,if_neg h14,if_neg (by omega)];simp only[ds,bj,bt,ax,d3,d4,ay,d6]
 exact .go [25,26,27,28] (es,ri21,rh21,cx,cy,dn,nr22anod,dp,nr22aent,dq,nr22aold,dr,nr22aste) (hJ _ ⟨_,_,_,_,bf,Em,bg,Em,bh,Em,bi,Em,by omega,by omega,by omega,g22.up (by omega),by rw[hio,show 9 - i4.toNat=(9 - es.toNat)+1 by omega,et];simp only[Xbe,bj,hst];rw[if_pos (by omega)]⟩ mlt)
 conv=>cbv
 have e:((⟨aq,ar,au,aw,ai,aj⟩:Aa),ri5,rh5)=Ih cb ci ch:=(by rw[hio,show 9 - i4.toNat=(8 - i4.toNat)+1 by omega];simp only[Xbe,bj];rw[if_neg (by omega)])
 rw[hr]at e
 simp only[Prod.mk.injEq,Aa.mk.injEq]at e
 obtain⟨⟨rfl,rfl,rfl,rfl,rfl,rfl⟩,rfl,rfl⟩:=e
 obtain rfl:bk=De:=by rw[←ak,←Eb]
 obtain rfl:bl=nonod:=by first|omega|(rw[hnonod];simp;done)|(rw[hnonod];simp;omega)
 obtain rfl:bm=Dd:=by rw[←al,←Eg]
 obtain rfl:bn=noent:=by first|omega|(rw[hnoent];simp;done)|(rw[hnoent];simp;omega)
 obtain rfl:bo=Db:=by rw[←am,←Ed]
 obtain rfl:bp=noold:=by first|omega|(rw[hnoold];simp;done)|(rw[hnoold];simp;omega)
 obtain rfl:bq=Dc:=by rw[←an,←D7]
 obtain rfl:bs=noste:=by first|omega|(rw[hnoste];simp;done)|(rw[hnoste];simp;omega)
 exact hQ _ _ (.of [16,17,18,19] (.inl rfl) rfl rfl rfl rfl)
theorem XfH(hcb:cb.map cB=xcb)(hc:0≤ci∧ci≤cb.length∧cb.length≤1000000000000)(Eb:onod.map A5=De)(Eg:oent.map Ad=Dd)(Ed:oold.map Ad=Db)(D7:oste.map cS=Dc)(hr:D1 cb ci ch=(⟨onod,oent,oold,oste,oroo,onex⟩,oi,oh))(hnonod:nonod=onod.length)(hnoent:noent=oent.length)(hnoold:noold=oold.length)(hnoste:noste=oste.length):Fn Tryz.prog 91 [.ptr 0 0 0] [.box 140 [.d (.row 1 xcb),I ci,I ch]] ⟨.agg [.ref 1 0 nonod,.ref 2 0 noent,.ref 3 0 noold,.ref 4 0 noste,I oroo,I onex],[.row 3 false De,.row 2 false Dd,.row 2 false Db,.row 1 false Dc],[(0,.box 140 [.d (.row 1 xcb),I oi,I oh])]⟩:=by
 refine Fn.goR XaI Tryz.func91 fun P hP Q hQ=>?_
 conv=>cbv
 rcases ae:Ih cb ci ch with⟨⟨d2nod,d2ent,d2old,d2ste,d2roo,d2nex⟩,ri2,rh2⟩
 generalize aa:d2nod.map A5=xd2nod
 generalize ab:d2ent.map Ad=xd2ent
 generalize ac:d2old.map Ad=xd2old
 generalize ad:d2ste.map cS=xd2ste
 obtain⟨nd2nod,hnd2nod⟩:∃m,m=d2nod.length:=⟨_,rfl⟩
 obtain⟨nd2ent,hnd2ent⟩:∃m,m=d2ent.length:=⟨_,rfl⟩
 obtain⟨nd2old,hnd2old⟩:∃m,m=d2old.length:=⟨_,rfl⟩
 obtain⟨nd2ste,hnd2ste⟩:∃m,m=d2ste.length:=⟨_,rfl⟩
 have zr2:=Us ae (by omega)
 refine .bx [0] [] hP (Xdt hcb (by omega) aa ab ac ad ae hnd2nod hnd2ent hnd2old hnd2ste) rfl rfl rfl rfl ?_
 conv=>cbv
 rcases af:Ak cb ri2 rh2 16 with⟨d4,ri4,rh4⟩
 have zr4:=Au af (by omega)
 refine .bx [0] [] hP (Bw hcb (by omega) af) rfl rfl rfl rfl ?_
 conv=>cbv
 have hq:d2ste.length≤18∧d2ent.length≤18∧d2old.length≤18:=zr2.1.2
 refine .eql (fun h5=>?_) fun h5=>?_
 conv=>cbv
 rcases al:B9 cb ri4 rh4 [(-1),0,5,1000000001]with⟨d7,ri7,rh7⟩
 have zr7:=Dy al (by omega)
 refine .bxL [0] [15] (.same (.ref rfl rfl .nil)) hP (Hx hcb rfl (by omega) (by decide) al) rfl rfl rfl rfl ?_
 conv=>cbv
 have e:((⟨d2nod,d2ent,d2old,d2ste,d7,d2nex⟩:Aa),ri7,rh7)=D1 cb ci ch:=(by unfold D1;simp only[ae,af];rw[if_pos h5];simp only[ae,af,al])
 rw[hr]at e
 simp only[Prod.mk.injEq,Aa.mk.injEq]at e
 obtain⟨⟨rfl,rfl,rfl,rfl,rfl,rfl⟩,rfl,rfl⟩:=e
 obtain rfl:xd2nod=De:=by rw[←aa,←Eb]
 obtain rfl:nd2nod=nonod:=by first|omega|(rw[hnonod];simp;done)|(rw[hnonod];simp;omega)
 obtain rfl:xd2ent=Dd:=by rw[←ab,←Eg]
 obtain rfl:nd2ent=noent:=by first|omega|(rw[hnoent];simp;done)|(rw[hnoent];simp;omega)
 obtain rfl:xd2old=Db:=by rw[←ac,←Ed]
 obtain rfl:nd2old=noold:=by first|omega|(rw[hnoold];simp;done)|(rw[hnoold];simp;omega)
 obtain rfl:xd2ste=Dc:=by rw[←ad,←D7]
 obtain rfl:nd2ste=noste:=by first|omega|(rw[hnoste];simp;done)|(rw[hnoste];simp;omega)
 exact hQ _ _ (.of [6,7,8,9] (.inl rfl) rfl rfl rfl rfl)
 conv=>cbv
 refine .eql (fun h6=>?_) fun h6=>?_
 conv=>cbv
 rcases am:B9 cb ri4 rh4 [0,1,2,(-1),9223372036854775807]with⟨d8,ri8,rh8⟩
 have zr8:=Dy am (by omega)
 refine .bxL [0] [15] (.same (.ref rfl rfl .nil)) hP (Hx hcb rfl (by omega) (by decide) am) rfl rfl rfl rfl ?_
 conv=>cbv
 have e:((⟨d2nod,d2ent,d2old,d2ste,d2roo,d8⟩:Aa),ri8,rh8)=D1 cb ci ch:=(by unfold D1;simp only[ae,af];rw[if_neg h5,if_pos h6];simp only[ae,af,am])
 rw[hr]at e
 simp only[Prod.mk.injEq,Aa.mk.injEq]at e
 obtain⟨⟨rfl,rfl,rfl,rfl,rfl,rfl⟩,rfl,rfl⟩:=e
 obtain rfl:xd2nod=De:=by rw[←aa,←Eb]
 obtain rfl:nd2nod=nonod:=by first|omega|(rw[hnonod];simp;done)|(rw[hnonod];simp;omega)
 obtain rfl:xd2ent=Dd:=by rw[←ab,←Eg]
 obtain rfl:nd2ent=noent:=by first|omega|(rw[hnoent];simp;done)|(rw[hnoent];simp;omega)
 obtain rfl:xd2old=Db:=by rw[←ac,←Ed]
 obtain rfl:nd2old=noold:=by first|omega|(rw[hnoold];simp;done)|(rw[hnoold];simp;omega)
 obtain rfl:xd2ste=Dc:=by rw[←ad,←D7]
 obtain rfl:nd2ste=noste:=by first|omega|(rw[hnoste];simp;done)|(rw[hnoste];simp;omega)
 exact hQ _ _ (.of [6,7,8,9] (.inl rfl) rfl rfl rfl rfl)
 conv=>cbv
 refine .eql (fun h7=>?_) fun h7=>?_
 conv=>cbv
 rcases an:Ak cb ri4 rh4 4 with⟨d9,ri9,rh9⟩
 have zr9:=Au an (by omega)
 refine .bx [0] [] hP (Bw hcb (by omega) an) rfl rfl rfl rfl ?_
 conv=>cbv
 refine .one (⟨tx [122],d9⟩:Ag) ab rfl fun ao a3 a4 ap=>?_
 conv=>cbv
 have e:((⟨d2nod,d2ent++[(⟨tx [122],d9⟩:Ag)],d2old,d2ste,d2roo,d2nex⟩:Aa),ri9,rh9)=D1 cb ci ch:=(by unfold D1;simp only[ae,af];rw[if_neg h5,if_neg h6,if_pos h7];simp only[ae,af,an])
 rw[hr]at e
 simp only[Prod.mk.injEq,Aa.mk.injEq]at e
 obtain⟨⟨rfl,rfl,rfl,rfl,rfl,rfl⟩,rfl,rfl⟩:=e
 obtain rfl:xd2nod=De:=by rw[←aa,←Eb]
 obtain rfl:nd2nod=nonod:=by first|omega|(rw[hnonod];simp;done)|(rw[hnonod];simp;omega)
 obtain rfl:a3=Dd:=by rw[←ap,←Eg]
 obtain rfl:ao=noent:=by first|omega|(rw[hnoent];simp;done)|(rw[hnoent];simp;omega)
 obtain rfl:xd2old=Db:=by rw[←ac,←Ed]
 obtain rfl:nd2old=noold:=by first|omega|(rw[hnoold];simp;done)|(rw[hnoold];simp;omega)
 obtain rfl:xd2ste=Dc:=by rw[←ad,←D7]
 obtain rfl:nd2ste=noste:=by first|omega|(rw[hnoste];simp;done)|(rw[hnoste];simp;omega)
 exact hQ _ _ (.of [6,16,8,9] (.inl rfl) rfl rfl rfl rfl)
 conv=>cbv
 refine .eql (fun h8=>?_) fun h8=>?_
 conv=>cbv
 refine .one (⟨tx [122],1⟩:Ag) ac rfl fun a5 z9 bf a6=>?_
 conv=>cbv
 have e:((⟨d2nod,d2ent,d2old++[(⟨tx [122],1⟩:Ag)],d2ste,d2roo,d2nex⟩:Aa),ri4,rh4)=D1 cb ci ch:=(by unfold D1;simp only[ae,af];rw[if_neg h5,if_neg h6,if_neg h7,if_pos h8])
 rw[hr]at e
 simp only[Prod.mk.injEq,Aa.mk.injEq]at e
 obtain⟨⟨rfl,rfl,rfl,rfl,rfl,rfl⟩,rfl,rfl⟩:=e
 obtain rfl:xd2nod=De:=by rw[←aa,←Eb]
 obtain rfl:nd2nod=nonod:=by first|omega|(rw[hnonod];simp;done)|(rw[hnonod];simp;omega)
 obtain rfl:xd2ent=Dd:=by rw[←ab,←Eg]
 obtain rfl:nd2ent=noent:=by first|omega|(rw[hnoent];simp;done)|(rw[hnoent];simp;omega)
 obtain rfl:z9=Db:=by rw[←a6,←Ed]
 obtain rfl:a5=noold:=by first|omega|(rw[hnoold];simp;done)|(rw[hnoold];simp;omega)
 obtain rfl:xd2ste=Dc:=by rw[←ad,←D7]
 obtain rfl:nd2ste=noste:=by first|omega|(rw[hnoste];simp;done)|(rw[hnoste];simp;omega)
 exact hQ _ _ (.of [6,7,16,9] (.inl rfl) rfl rfl rfl rfl)
 conv=>cbv
 refine .eql (fun h9=>?_) fun h9=>?_
 conv=>cbv
 rcases aj:Fi cb ri4 rh4 [(tx [45,97]),(tx [43,113,58,49]),(tx [120]),(tx []),(tx [43,113,58,57]),(tx [45,122,122]),(tx [43,58,49]),(tx [43,113,58])]with⟨d11,ri11,rh11⟩
 have zr11:=Ip (n:=100) aj (by omega) (by decide)
 refine .bxL [0] [15] (.same (.ref rfl rfl .nil)) hP (Sv hcb rfl (by omega) (by decide) aj) rfl rfl rfl rfl ?_
 conv=>cbv
 refine .one d11 ad rfl fun aq a7 a8 ar=>?_
 conv=>cbv
 have e:((⟨d2nod,d2ent,d2old,d2ste++[d11],d2roo,d2nex⟩:Aa),ri11,rh11)=D1 cb ci ch:=(by unfold D1;simp only[ae,af];rw[if_neg h5,if_neg h6,if_neg h7,if_neg h8,if_pos h9];simp only[ae,af,aj])
 rw[hr]at e
 simp only[Prod.mk.injEq,Aa.mk.injEq]at e
 obtain⟨⟨rfl,rfl,rfl,rfl,rfl,rfl⟩,rfl,rfl⟩:=e
 obtain rfl:xd2nod=De:=by rw[←aa,←Eb]
 obtain rfl:nd2nod=nonod:=by first|omega|(rw[hnonod];simp;done)|(rw[hnonod];simp;omega)
 obtain rfl:xd2ent=Dd:=by rw[←ab,←Eg]
 obtain rfl:nd2ent=noent:=by first|omega|(rw[hnoent];simp;done)|(rw[hnoent];simp;omega)
 obtain rfl:xd2old=Db:=by rw[←ac,←Ed]
 obtain rfl:nd2old=noold:=by first|omega|(rw[hnoold];simp;done)|(rw[hnoold];simp;omega)
 obtain rfl:a7=Dc:=by rw[←ar,←D7]
 obtain rfl:aq=noste:=by first|omega|(rw[hnoste];simp;done)|(rw[hnoste];simp;omega)
 exact hQ _ _ (.of [6,7,8,17] (.inl rfl) rfl rfl rfl rfl)
 conv=>cbv
 refine .eql (fun h10=>?_) fun h10=>?_
 conv=>cbv
 refine .go fun bi bg=>?_
 conv=>cbv
 refine .gtr (fun h12=>?_) fun h12=>?_
 conv=>cbv
 rcases ak:B9 cb ri4 rh4 [(-1),0,99]with⟨d14,ri14,rh14⟩
 have zr14:=Dy ak (by omega)
 refine .bxL [0] [15] (.same (.ref rfl rfl .nil)) hP (Hx hcb rfl (by omega) (by decide) ak) rfl rfl rfl rfl ?_
 conv=>cbv
 refine .go 0 fun ah au a9=>?_
 conv=>cbv
 refine .go (⟨(d2nod.getD ah ⟨0,tx [],0⟩).id_,(d2nod.getD ah ⟨0,tx [],0⟩).text_,d14⟩:B5) aa (by omega) (by rw[←gD (show ah<d2nod.length by omega)];rfl) (show 2+1≤3 by decide) fun ba aw=>?_
 conv=>cbv
 have e:((⟨d2nod.set ah (⟨(d2nod.getD ah ⟨0,tx [],0⟩).id_,(d2nod.getD ah ⟨0,tx [],0⟩).text_,d14⟩:B5),d2ent,d2old,d2ste,d2roo,d2nex⟩:Aa),ri14,rh14)=D1 cb ci ch:=(by unfold D1;simp only[ae,af];rw[if_neg h5,if_neg h6,if_neg h7,if_neg h8,if_neg h9,if_pos h10];cases d2nod with|nil=>(exfalso;have h00:nd2nod=0:=hnd2nod;omega)|cons n l=>(subst au;simp only[ae,af,ak];rfl))
 rw[hr]at e
 simp only[Prod.mk.injEq,Aa.mk.injEq]at e
 obtain⟨⟨rfl,rfl,rfl,rfl,rfl,rfl⟩,rfl,rfl⟩:=e
 obtain rfl:ba=De:=by rw[←aw,←Eb]
 obtain rfl:nd2nod=nonod:=by first|omega|(rw[hnonod];simp;done)|(rw[hnonod];simp;omega)
 obtain rfl:xd2ent=Dd:=by rw[←ab,←Eg]
 obtain rfl:nd2ent=noent:=by first|omega|(rw[hnoent];simp;done)|(rw[hnoent];simp;omega)
 obtain rfl:xd2old=Db:=by rw[←ac,←Ed]
 obtain rfl:nd2old=noold:=by first|omega|(rw[hnoold];simp;done)|(rw[hnoold];simp;omega)
 obtain rfl:xd2ste=Dc:=by rw[←ad,←D7]
 obtain rfl:nd2ste=noste:=by first|omega|(rw[hnoste];simp;done)|(rw[hnoste];simp;omega)
 exact hQ _ _ (.of [6,7,8,9] (.inl rfl) rfl rfl rfl rfl)
 conv=>cbv
 have e:((⟨d2nod,d2ent,d2old,d2ste,d2roo,d2nex⟩:Aa),ri4,rh4)=D1 cb ci ch:=(by unfold D1;simp only[ae,af];rw[if_neg h5,if_neg h6,if_neg h7,if_neg h8,if_neg h9,if_pos h10];cases d2nod with|nil=>rfl|cons n l=>(exfalso;rw[List.length_cons]at hnd2nod;omega))
 rw[hr]at e
 simp only[Prod.mk.injEq,Aa.mk.injEq]at e
 obtain⟨⟨rfl,rfl,rfl,rfl,rfl,rfl⟩,rfl,rfl⟩:=e
 obtain rfl:xd2nod=De:=by rw[←aa,←Eb]
 obtain rfl:nd2nod=nonod:=by first|omega|(rw[hnonod];simp;done)|(rw[hnonod];simp;omega)
 obtain rfl:xd2ent=Dd:=by rw[←ab,←Eg]
 obtain rfl:nd2ent=noent:=by first|omega|(rw[hnoent];simp;done)|(rw[hnoent];simp;omega)
 obtain rfl:xd2old=Db:=by rw[←ac,←Ed]
 obtain rfl:nd2old=noold:=by first|omega|(rw[hnoold];simp;done)|(rw[hnoold];simp;omega)
 obtain rfl:xd2ste=Dc:=by rw[←ad,←D7]
 obtain rfl:nd2ste=noste:=by first|omega|(rw[hnoste];simp;done)|(rw[hnoste];simp;omega)
 exact hQ _ _ (.of [6,7,8,9] (.inl rfl) rfl rfl rfl rfl)
 conv=>cbv
 refine .eql (fun h11=>?_) fun h11=>?_
 conv=>cbv
 refine .go fun bj bh=>?_
 conv=>cbv
 refine .gtr (fun h13=>?_) fun h13=>?_
 conv=>cbv
 refine .go 0 fun bk ax bb=>?_
 conv=>cbv
 refine .go aa fun bc ⟨ag,a1,a2⟩ ay=>?_
 conv=>cbv
 refine .go 1 fun ai az bd=>?_
 conv=>cbv
 refine .go (⟨ag,(d2nod.getD ai ⟨0,tx [],0⟩).text_,(d2nod.getD ai ⟨0,tx [],0⟩).sure_⟩:B5) aa (by omega) (by rw[←gD (show ai<d2nod.length by omega)];rfl) (show 0+1≤3 by decide) fun be a0=>?_
 conv=>cbv
 have e:((⟨d2nod.set ai (⟨ag,(d2nod.getD ai ⟨0,tx [],0⟩).text_,(d2nod.getD ai ⟨0,tx [],0⟩).sure_⟩:B5),d2ent,d2old,d2ste,d2roo,d2nex⟩:Aa),ri4,rh4)=D1 cb ci ch:=(by unfold D1;simp only[ae,af];rw[if_neg h5,if_neg h6,if_neg h7,if_neg h8,if_neg h9,if_neg h10,if_pos h11];cases d2nod with|nil=>(exfalso;have h00:nd2nod=0:=hnd2nod;omega)|cons n l=>(cases l with|nil=>(exfalso;have h00:nd2nod=1:=hnd2nod;omega)|cons q l=>(subst ax az;obtain rfl:ag=n.id_:=(congrArg B5.id_ ay:_);rfl)))
 rw[hr]at e
 simp only[Prod.mk.injEq,Aa.mk.injEq]at e
 obtain⟨⟨rfl,rfl,rfl,rfl,rfl,rfl⟩,rfl,rfl⟩:=e
 obtain rfl:be=De:=by rw[←a0,←Eb]
 obtain rfl:nd2nod=nonod:=by first|omega|(rw[hnonod];simp;done)|(rw[hnonod];simp;omega)
 obtain rfl:xd2ent=Dd:=by rw[←ab,←Eg]
 obtain rfl:nd2ent=noent:=by first|omega|(rw[hnoent];simp;done)|(rw[hnoent];simp;omega)
 obtain rfl:xd2old=Db:=by rw[←ac,←Ed]
 obtain rfl:nd2old=noold:=by first|omega|(rw[hnoold];simp;done)|(rw[hnoold];simp;omega)
 obtain rfl:xd2ste=Dc:=by rw[←ad,←D7]
 obtain rfl:nd2ste=noste:=by first|omega|(rw[hnoste];simp;done)|(rw[hnoste];simp;omega)
 exact hQ _ _ (.of [6,7,8,9] (.inl rfl) rfl rfl rfl rfl)
 conv=>cbv
 have e:((⟨d2nod,d2ent,d2old,d2ste,d2roo,d2nex⟩:Aa),ri4,rh4)=D1 cb ci ch:=(by unfold D1;simp only[ae,af];rw[if_neg h5,if_neg h6,if_neg h7,if_neg h8,if_neg h9,if_neg h10,if_pos h11];cases d2nod with|nil=>rfl|cons n l=>(cases l with|nil=>rfl|cons q l=>(exfalso;rw[List.length_cons,List.length_cons]at hnd2nod;omega)))
 rw[hr]at e
 simp only[Prod.mk.injEq,Aa.mk.injEq]at e
 obtain⟨⟨rfl,rfl,rfl,rfl,rfl,rfl⟩,rfl,rfl⟩:=e
 obtain rfl:xd2nod=De:=by rw[←aa,←Eb]
 obtain rfl:nd2nod=nonod:=by first|omega|(rw[hnonod];simp;done)|(rw[hnonod];simp;omega)
 obtain rfl:xd2ent=Dd:=by rw[←ab,←Eg]
 obtain rfl:nd2ent=noent:=by first|omega|(rw[hnoent];simp;done)|(rw[hnoent];simp;omega)
 obtain rfl:xd2old=Db:=by rw[←ac,←Ed]
 obtain rfl:nd2old=noold:=by first|omega|(rw[hnoold];simp;done)|(rw[hnoold];simp;omega)
 obtain rfl:xd2ste=Dc:=by rw[←ad,←D7]
 obtain rfl:nd2ste=noste:=by first|omega|(rw[hnoste];simp;done)|(rw[hnoste];simp;omega)
 exact hQ _ _ (.of [6,7,8,9] (.inl rfl) rfl rfl rfl rfl)
 conv=>cbv
 have e:((⟨d2nod,d2ent,d2old,d2ste,d2roo,d2nex⟩:Aa),ri4,rh4)=D1 cb ci ch:=(by unfold D1;simp only[ae,af];rw[if_neg h5,if_neg h6,if_neg h7,if_neg h8,if_neg h9,if_neg h10,if_neg h11])
 rw[hr]at e
 simp only[Prod.mk.injEq,Aa.mk.injEq]at e
 obtain⟨⟨rfl,rfl,rfl,rfl,rfl,rfl⟩,rfl,rfl⟩:=e
 obtain rfl:xd2nod=De:=by rw[←aa,←Eb]
 obtain rfl:nd2nod=nonod:=by first|omega|(rw[hnonod];simp;done)|(rw[hnonod];simp;omega)
 obtain rfl:xd2ent=Dd:=by rw[←ab,←Eg]
 obtain rfl:nd2ent=noent:=by first|omega|(rw[hnoent];simp;done)|(rw[hnoent];simp;omega)
 obtain rfl:xd2old=Db:=by rw[←ac,←Ed]
 obtain rfl:nd2old=noold:=by first|omega|(rw[hnoold];simp;done)|(rw[hnoold];simp;omega)
 obtain rfl:xd2ste=Dc:=by rw[←ad,←D7]
 obtain rfl:nd2ste=noste:=by first|omega|(rw[hnoste];simp;done)|(rw[hnoste];simp;omega)
 exact hQ _ _ (.of [6,7,8,9] (.inl rfl) rfl rfl rfl rfl)
end
end Go.Proofs.YtjbmpmmffjgedaaGreatDoor.Ab
