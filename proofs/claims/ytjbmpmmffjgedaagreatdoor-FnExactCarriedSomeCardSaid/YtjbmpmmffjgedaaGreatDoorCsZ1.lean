/- A relation between the machine and an abstract state, evaluators for single operations and for code, proved sound (part 1). No conditions. -/
import Derived.WalkKit
import Derived.Orders
import Derived.Test.YtjbmpmmffjgedaaGreatDoorProg
import Derived.KernelRfl
import Derived.Lib.LaidTab
import Derived.Laws.BytesString
set_option linter.unusedVariables false
set_option linter.unusedSimpArgs false
namespace Go.Proofs.YtjbmpmmffjgedaaGreatDoor.Ab
section
open Go
inductive D where
 |sc (v:Value)
 |row (sz:Nat) (xs:List (List D))
inductive AV where
 |d (x:D)
 |ref (r off len:Nat)
 |ptr (r i j:Nat)
 |rptr (cs:List D)
 |agg (l:List AV)
 |tup (l:List AV)
 |clo (f:FuncId) (caps:List AV)
 |anyb (p:Bool)
 |junk
inductive Root where
 |row (sz:Nat) (fz:Bool) (xs:List (List D))
 |box (t:TypeId) (l:List AV)
 |buf (e:TypeId) (fz:Bool) (bs:List UInt8)
 |map (ks:List Int)
 |dead
inductive Kind where
 |row (sz:Nat)|box|map|dead
def Root.kind:Root→Kind
 | .row sz _ _=>.row sz
 | .box _ _=>.box
 | .buf _ _ _=>.row 1
 | .map _=>.map
 | .dead=>.dead
def Kind.sz:Kind→Nat
 | .row sz=>sz
 |_=>0
@[simp] def Kind.ptrV:Kind→Nat→Nat→Value
  | .map,b,_=>.map (some b)
  | .row _,b,o=>.pointer (some ⟨b,o,none⟩)
  | .box,b,o=>.pointer (some ⟨b,o,none⟩)
  | .dead,b,o=>.pointer (some ⟨b,o,none⟩)
theorem XdL(k:Kind)(b o:Nat):(k.ptrV b o).oneCell'=true:=by cases k<;>rfl
structure Env where
 rt:Nat→Option Root
 pres:Nat→Prop
 β:Nat→Option Nat
 S:Nat→Prop
 w:World
inductive RelD (w:World) (S:Nat→Prop):D→Value→Prop
 |sc (v:Value) (h:v.oneCell'=true):RelD w S (.sc v) v
 |nil (sz:Nat) (a:Option Addr) (cap:Nat):RelD w S (.row sz []) (.slice a 0 cap)
 |row (sz:Nat) (xs:List (List D)) (b off cap:Nat) (us:Nat→Nat→Value) (hS:S b) (hc:xs.length≤cap)
   (hl:∀(i:Nat) (x:List D),xs[i]? =some x→x.length=sz)
   (hu:∀(i:Nat) (x:List D) (j:Nat) (y:D),xs[i]? =some x→x[j]? =some y→w.cell? ⟨b,off+i*sz+j,none⟩=some (us i j))
   (hr:∀(i:Nat) (x:List D) (j:Nat) (y:D),xs[i]? =some x→x[j]? =some y→RelD w S y (us i j)):
   RelD w S (.row sz xs) (.slice (some ⟨b,off,none⟩) xs.length cap)
inductive RelAV (E:Env):AV→Value→Prop
 |d (x:D) (v:Value) (h:RelD E.w E.S x v):RelAV E (.d x) v
 |ref (r off len:Nat) (R:Root) (sz b cap t n:Nat) (h1:E.rt r=some R) (hk:R.kind= .row sz) (h2:E.pres r) (h3:E.β r=some b) (h4:E.w.shape? b=some (t,n))
   (h5:len≤cap) (h6:(off+cap)*sz≤n):RelAV E (.ref r off len) (.slice (some ⟨b,off*sz,none⟩) len cap)
 |refz (r off:Nat) (R:Root) (sz:Nat) (a:Option Addr) (h1:E.rt r=some R) (hk:R.kind= .row sz) (h2:E.pres r):RelAV E (.ref r off 0) (.slice a 0 0)
 |ptr (r i j:Nat) (R:Root) (b:Nat) (h1:E.rt r=some R) (h2:E.pres r) (h3:E.β r=some b):RelAV E (.ptr r i j) (R.kind.ptrV b (i*R.kind.sz+j))
 |dref (r off len:Nat) (v:Value) (h1:E.rt r=some .dead) (ho:v.oneCell'=true):RelAV E (.ref r off len) v
 |dptr (r i j:Nat) (v:Value) (h1:E.rt r=some .dead) (ho:v.oneCell'=true):RelAV E (.ptr r i j) v
 |rptr (cs:List D) (b o:Nat) (us:Nat→Value) (hS:E.S b) (hu:∀(j:Nat) (y:D),cs[j]? =some y→E.w.cell? ⟨b,o+j,none⟩=some (us j))
   (hr:∀(j:Nat) (y:D),cs[j]? =some y→RelD E.w E.S y (us j)):RelAV E (.rptr cs) (.pointer (some ⟨b,o,none⟩))
 |agg (l:List AV) (us:Array Value) (hs:us.size=l.length) (hr:∀(j:Nat) y,l[j]? =some y→RelAV E y (us.getD j undef)) (ho:∀u∈us,u.oneCell'=true):RelAV E (.agg l) (.agg us)
 |tup (l:List AV) (us:Array Value) (hs:us.size=l.length) (hr:∀(j:Nat) y,l[j]? =some y→RelAV E y (us.getD j undef)):RelAV E (.tup l) (.tuple us)
 |clo (f:FuncId) (caps:List AV) (us:Array Value) (hs:us.size=caps.length) (hr:∀(j:Nat) y,caps[j]? =some y→RelAV E y (us.getD j undef)):RelAV E (.clo f caps) (.func (.func f) #[] us)
 |anyb (p b:Bool) (h:b=true→p=true):RelAV E (.anyb p) (.bool b)
 |junk (v:Value):RelAV E .junk v
structure Step (E E':Env):Prop where
 rt:∀r R,E.rt r=some R→∃R',E'.rt r=some R'∧(R'= .dead∨R'.kind=R.kind)
 pres:∀r,E.pres r→E'.pres r
 β:∀r,E.pres r→E'.β r=E.β r
 S:∀b,E.S b→E'.S b
 heap:∀b,E.S b→E'.w.heap[b]? =E.w.heap[b]?
 shape:∀b s,E.w.shape? b=some s→E'.w.shape? b=some s
theorem Ql{w w':World}{a:Addr}(h:w'.heap[a.block]? =w.heap[a.block]?):w'.cell? a=w.cell? a:=by
 unfold World.cell?;rw[h]
theorem RelD.step{w w':World}{S S':Nat→Prop}(hS:∀b,S b→S' b)(hh:∀b,S b→w'.heap[b]? =w.heap[b]?){x:D}{v:Value}(h:RelD w S x v):RelD w' S' x v:=by
 induction h with
 |sc v h=>exact .sc v h
 |nil sz a cap=>exact .nil sz a cap
 |row sz xs b off cap us hb hc hl hu _ ih=>
  refine .row sz xs b off cap us (hS b hb) hc hl ?_ ih
  intro i x j y hx hy
  rw[←hu i x j y hx hy]
  exact Ql (hh b hb)
theorem RelAV.step{E E':Env}(s:Step E E'){x:AV}{v:Value}(h:RelAV E x v):RelAV E' x v:=by
 induction h with
 |d x v h=>exact .d x v (h.step s.S s.heap)
 |ref r off len R sz b cap t n h1 hk h2 h3 h4 h5 h6=>
  obtain⟨R',hR',hd|hk'⟩:=s.rt r R h1
  ·subst hd;exact .dref _ _ _ _ hR' rfl
  ·exact .ref r off len R' sz b cap t n hR' (hk'.trans hk) (s.pres r h2) ((s.β r h2).trans h3) (s.shape b _ h4) h5 h6
 |refz r off R sz a h1 hk h2=>
  obtain⟨R',hR',hd|hk'⟩:=s.rt r R h1
  ·subst hd;exact .dref _ _ _ _ hR' rfl
  ·exact .refz r off R' sz a hR' (hk'.trans hk) (s.pres r h2)
 |ptr r i j R b h1 h2 h3=>
  obtain⟨R',hR',hd|hk'⟩:=s.rt r R h1
  ·subst hd;exact .dptr _ _ _ _ hR' (XdL _ _ _)
  ·rw[←hk'];exact .ptr r i j R' b hR' (s.pres r h2) ((s.β r h2).trans h3)
 |dref r off len v h1 ho=>
  obtain⟨R',hR',hd|hk'⟩:=s.rt r _ h1
  ·subst hd;exact .dref _ _ _ _ hR' ho
  ·cases R' with
   |row=>simp[Root.kind]at hk'
   |buf=>simp[Root.kind]at hk'
   |map=>simp[Root.kind]at hk'
   |box=>simp[Root.kind]at hk'
   |dead=>exact .dref _ _ _ _ hR' ho
 |dptr r i j v h1 ho=>
  obtain⟨R',hR',hd|hk'⟩:=s.rt r _ h1
  ·subst hd;exact .dptr _ _ _ _ hR' ho
  ·cases R' with
   |row=>simp[Root.kind]at hk'
   |buf=>simp[Root.kind]at hk'
   |map=>simp[Root.kind]at hk'
   |box=>simp[Root.kind]at hk'
   |dead=>exact .dptr _ _ _ _ hR' ho
 |rptr cs b o us hS hu hr=>
  refine .rptr cs b o us (s.S b hS) ?_ (fun j y hy=>(hr j y hy).step s.S s.heap)
  intro j y hy
  rw[←hu j y hy]
  exact Ql (s.heap b hS)
 |agg l us hs _ ho ih=>exact .agg l us hs ih ho
 |tup l us hs _ ih=>exact .tup l us hs ih
 |clo f caps us hs _ ih=>exact .clo f caps us hs ih
 |anyb p b h=>exact .anyb p b h
 |junk v=>exact .junk v
theorem Step.refl(E:Env):Step E E:=⟨fun _ R h=>⟨R,h,.inr rfl⟩,fun _ h=>h,fun _ _=>rfl,fun _ h=>h,fun _ _=>rfl,fun _ _ h=>h⟩
theorem Step.trans{A B C:Env}(h:Step A B)(k:Step B C):Step A C where
 rt:=fun r R hR=>by
  obtain⟨R1,h1,e1⟩:=h.rt r R hR
  obtain⟨R2,h2,e2⟩:=k.rt r R1 h1
  refine⟨R2,h2,?_⟩
  rcases e2 with e2|e2
  ·exact .inl e2
  ·rcases e1 with e1|e1
   ·subst e1
    cases R2 with
    |row=>simp[Root.kind]at e2
    |buf=>simp[Root.kind]at e2
    |map=>simp[Root.kind]at e2
    |box=>simp[Root.kind]at e2
    |dead=>exact .inl rfl
   ·exact .inr (e2.trans e1)
 pres:=fun r hr=>k.pres r (h.pres r hr)
 β:=fun r hr=>(k.β r (h.pres r hr)).trans (h.β r hr)
 S:=fun b hb=>k.S b (h.S b hb)
 heap:=fun b hb=>(k.heap b (h.S b hb)).trans (h.heap b hb)
 shape:=fun b s hs=>k.shape b s (h.shape b s hs)
def Xaw(sz:Nat)(fr:Nat×Nat):Prop:=sz=1∨fr=(0,0)
def I1(n:Nat)(fr:Nat×Nat):Prop:=∀o,o<n→¬(fr.1≤o∧o<fr.2)
def RootRel(E:Env)(r:Nat):Root→Prop
 | .row sz fz xs=>(E.β r=none∧xs=[])∨∃b cs t fr,E.β r=some b∧E.w.heap[b]? =some (.cells cs t fr)∧(∀(i:Nat) x,xs[i]? =some x→x.length=sz)∧xs.length*sz≤cs.size∧
   (∀(i:Nat) x (j:Nat) y,xs[i]? =some x→x[j]? =some y→∃u,cs[i*sz+j]? =some u∧RelD E.w E.S y u)∧
   ((fz=true∧E.S b)∨(fz=false∧¬E.S b∧I1 cs.size fr∧Xaw sz fr))
 | .box t l=>∃b cs fr,E.β r=some b∧E.w.heap[b]? =some (.cells cs t fr)∧cs.size=l.length∧(∀(j:Nat) y,l[j]? =some y→∃u,cs[j]? =some u∧u.oneCell'=true∧RelAV E y u)∧¬E.S b∧I1 cs.size fr
 | .buf e fz bs=>(E.β r=none∧bs=[])∨∃b cs fr,E.β r=some b∧E.w.heap[b]? =some (.cells cs e fr)∧bs.length≤cs.size∧(∀(i:Nat) x,bs[i]? =some x→cs[i]? =some (.int .u8 x.toNat))∧¬E.S b∧(fz=false→I1 cs.size fr)
 | .map ks=>∃b es clock,E.β r=some b∧E.w.heap[b]? =some (.map es clock)∧es.toList.map (fun e=>(e.key,e.val))=ks.map (fun k=>(Value.int .i64 k,Value.bool true))∧¬E.S b
 | .dead=>True
theorem RootRel.step{E E':Env}(s:Step E E'){r:Nat}{R:Root}(hp:E.pres r)(hb:∀b,E.β r=some b→E'.w.heap[b]? =E.w.heap[b]?)(hS:∀b,E.β r=some b→E'.S b→E.S b)(h:RootRel E r R):RootRel E' r R:=by
 cases R with
 |dead=>trivial
 |map ks=>
  obtain⟨b,es,cl,h1,h2,h3,h4⟩:=h
  exact⟨b,es,cl,(s.β r hp).trans h1,(hb b h1).trans h2,h3,fun h=>h4 (hS b h1 h)⟩
 |buf e fz bs=>
  rcases h with⟨h1,h2⟩|⟨b,cs,fr,h1,h2,h3,h4,h5,h6⟩
  ·exact .inl ⟨(s.β r hp).trans h1,h2⟩
  ·exact .inr ⟨b,cs,fr,(s.β r hp).trans h1,(hb b h1).trans h2,h3,h4,fun h=>h5 (hS b h1 h),h6⟩
 |row sz fz xs=>
  rcases h with⟨h1,h2⟩|⟨b,cs,t,fr,h1,h2,h3,h4,h5,h6⟩
  ·exact .inl ⟨(s.β r hp).trans h1,h2⟩
  ·refine .inr ⟨b,cs,t,fr,(s.β r hp).trans h1,(hb b h1).trans h2,h3,h4,?_,?_⟩
   ·intro i x j y hx hy
    obtain⟨u,hu,hr⟩:=h5 i x j y hx hy
    exact⟨u,hu,hr.step s.S s.heap⟩
   ·rcases h6 with⟨h6,h7⟩|⟨h6,h7,h8⟩
    ·exact .inl ⟨h6,s.S b h7⟩
    ·exact .inr ⟨h6,fun h=>h7 (hS b h1 h),h8⟩
 |box t l=>
  obtain⟨b,cs,fr,h1,h2,h3,h4,h5,h6⟩:=h
  refine⟨b,cs,fr,(s.β r hp).trans h1,(hb b h1).trans h2,h3,?_,fun h=>h5 (hS b h1 h),h6⟩
  intro j y hy
  obtain⟨u,hu,ho,hr⟩:=h4 j y hy
  exact⟨u,hu,ho,hr.step s⟩
def XbQ:List Int:=[0,1,28,2,29,14,24,3,30,22,20,15,25,17,4,8,31,27,13,23,21,19,16,7,26,12,18,6,11,5,10,9]
theorem gn4:Tryz.prog.globalNamed "math/bits.deBruijn32tab"=some 4:=by kernel_rfl
def Th:List Int:=[0,1,56,2,57,49,28,3,61,58,42,50,38,29,17,4,62,47,59,36,45,43,51,22,53,39,33,30,24,18,12,5,63,55,48,27,60,41,37,16,46,35,44,21,52,32,23,11,54,26,40,15,34,20,31,10,25,14,19,9,13,8,7,6]
theorem gn5:Tryz.prog.globalNamed "math/bits.deBruijn64tab"=some 5:=by kernel_rfl
def Xp:List Int:=[1,10,100,1000,10000,100000,1000000,10000000,100000000,1000000000,10000000000,100000000000,1000000000000,10000000000000,100000000000000,1000000000000000,10000000000000000,100000000000000000,1000000000000000000,10000000000000000000]
theorem gn2:Tryz.prog.globalNamed "internal/strconv.uint64pow10"=some 2:=by kernel_rfl
theorem Rv{P:Program}{w w':World}{name:String}{k:IntKind}{zs:List Int}{g:Nat}(hg:P.globalNamed name=some g)(h:w'.heap[g]? =w.heap[g]?)(ht:Lib.TabIs P w name k zs):Lib.TabIs P w' name k zs:=by
 unfold Lib.TabIs World.var? at*
 rw[hg]at*
 simpa only[Option.bind_some,h]using ht
def Io(w:World)(g:Nat):Prop:=∃v,w.cell? ⟨g,0,none⟩=some v∧(v= .nilIface∨∃te pe,v= .iface te pe)
theorem S7{w w':World}{g:Nat}(h:w'.heap[g]? =w.heap[g]?)(ht:Io w g):Io w' g:=by
 obtain⟨v,h1,h2⟩:=ht
 exact⟨v,by rw[World.cell?_of_block (w:=w) (w':=w') h];exact h1,h2⟩
def Globs.ok(w:World)(S:Nat→Prop):Prop:=(S 4∧Lib.TabIs Tryz.prog w "math/bits.deBruijn32tab" .u8 XbQ)∧(S 5∧Lib.TabIs Tryz.prog w "math/bits.deBruijn64tab" .u8 Th)∧(S 2∧Lib.TabIs Tryz.prog w "internal/strconv.uint64pow10" .u64 Xp)∧(S 1∧Io w 1)∧(S 0∧Io w 0)
theorem Globs.step{w w':World}{S S':Nat→Prop}:(∀b,S b→S' b)→(∀b,S b→w'.heap[b]? =w.heap[b]?)→Globs.ok w S→Globs.ok w' S':=by
  rintro hS hh ⟨⟨a0,b0⟩,⟨a1,b1⟩,⟨a2,b2⟩,⟨a3,b3⟩,⟨a4,b4⟩⟩
  exact⟨⟨hS _ a0,Rv gn4 (hh _ a0) b0⟩,⟨hS _ a1,Rv gn5 (hh _ a1) b1⟩,⟨hS _ a2,Rv gn2 (hh _ a2) b2⟩,⟨hS _ a3,S7 (hh _ a3) b3⟩,⟨hS _ a4,S7 (hh _ a4) b4⟩⟩
structure Ctx where
 w0:World
 own:Nat→Prop
 S0:Nat→Prop
 m:Nat
 β0:Nat→Option Nat
structure Mem (c:Ctx) (E:Env):Prop where
 os:E.w.os=c.w0.os
 output:E.w.output=c.w0.output
 tape:E.w.tape=c.w0.tape
 size:c.w0.heap.size≤E.w.heap.size
 keep:∀b,b<c.w0.heap.size→¬c.own b→E.w.heap[b]? =c.w0.heap[b]?
 shape:∀b s,c.w0.shape? b=some s→E.w.shape? b=some s
 s0:∀b,c.S0 b→E.S b
 slt:∀b,E.S b→b<E.w.heap.size
 snew:∀b,E.S b→c.S0 b∨c.w0.heap.size≤b∨c.own b
 blt:∀r b,E.pres r→E.β r=some b→b<E.w.heap.size
 bown:∀r R b,E.pres r→E.rt r=some R→R≠.dead→E.β r=some b→c.w0.heap.size≤b∨c.own b
 bkeep:∀r R,r<c.m→E.pres r→E.rt r=some R→R≠.dead→E.β r=c.β0 r
 inj:∀r r' R R' b,E.pres r→E.pres r'→E.rt r=some R→R≠.dead→E.rt r'=some R'→R'≠.dead→E.β r=some b→E.β r'=some b→r=r'
 roots:∀r R,E.pres r→E.rt r=some R→RootRel E r R
 glob:Globs.ok E.w E.S
open Go
def Q4(op:BinOp)(k:IntKind)(a b:Int):Option Value:=
 match op with
 | .add=>some (.int k (k.wrap (a+b)))
 | .sub=>some (.int k (k.wrap (a - b)))
 | .mul=>some (.int k (k.wrap (a*b)))
 | .quo=>if b=0 then none else some (.int k (k.wrap (a.tdiv b)))
 | .rem=>if b=0 then none else some (.int k (a.tmod b))
 | .and=>some (.int k (k.wrap (BitVec.ofInt k.bits a&&&BitVec.ofInt k.bits b).toNat))
 | .or=>some (.int k (k.wrap (BitVec.ofInt k.bits a|||BitVec.ofInt k.bits b).toNat))
 | .xor=>some (.int k (k.wrap (BitVec.ofInt k.bits a^^^BitVec.ofInt k.bits b).toNat))
 | .andNot=>some (.int k (k.wrap (BitVec.ofInt k.bits a&&& ~~~BitVec.ofInt k.bits b).toNat))
 | .eql=>some (.bool (a==b))
 | .neq=>some (.bool (a !=b))
 | .lss=>some (.bool (a<b))
 | .leq=>some (.bool (a≤b))
 | .gtr=>some (.bool (a>b))
 | .geq=>some (.bool (a≥b))
 | .shl| .shr=>none
def Ym(op:BinOp)(x y:ByteArray):Option Value:=
 match op with
 | .add=>if((x.size+y.size:Nat):Int)>IntKind.i64.max then none else some (.string (x++y))
 | .eql=>some (.bool (x.toList==y.toList))
 | .neq=>some (.bool !(x.toList==y.toList))
 | .lss=>some (.bool (Op.bytesLess x.toList y.toList))
 | .leq=>some (.bool (Op.bytesLess x.toList y.toList||x.toList==y.toList))
 | .gtr=>some (.bool !(Op.bytesLess x.toList y.toList||x.toList==y.toList))
 | .geq=>some (.bool !(Op.bytesLess x.toList y.toList))
 |_=>none
def Kg(op:BinOp)(isB:Bool)(x y:Value):Option Value:=
 match x,y with
 | .int k a,.int k' b=>
   match op with
   | .shl=>if b<0 then none else some (.int k (k.wrap (a*2^ (min b.toNat k.bits))))
   | .shr=>if b<0 then none else some (.int k (a.fdiv (2^ (min b.toNat k.bits))))
   |_=>if k=k' then Q4 op k a b else none
 | .string a,.string b=>Ym op a b
 | .bool a,.bool b=>if isB then(match op with| .eql=>some (.bool (a==b))| .neq=>some (.bool !(a==b))|_=>none)else none
 |_,_=>none
theorem XcK{P:Program}{w:World}{op:BinOp}{t:TypeId}{x y v:Value}{isB:Bool}(hB:isB=true→P.underlying t=some .bool)(X Y:Operand)
  (h:Kg op isB x y=some v):(do eqGuard op t X Y x y;binOp op t x y).run P w= .ok v w∧v.oneCell'=true:=by
 cases x<;>cases y<;>simp only[Kg]at h<;>try (cases h;done)
 case int.int k a k' b=>
  cases op<;>simp only[Q4]at h<;>(try split at h)<;>(try split at h)<;>(try cases h)<;>(subst_vars)<;>
   simp_all [eqGuard,binOp,Op.shift,Op.intArith,Op.intDiv,Op.intBits,Op.intCmp,Value.oneCell']<;>(try omega)
 case string.string a b=>
  cases op<;>simp only[Ym]at h<;>(try split at h)<;>(try cases h)<;>
   simp_all [eqGuard,binOp,Op.stringOp,Value.oneCell']<;>(try omega)
 case bool.bool a b=>
  split at h
  ·rename_i hb
   have hu:=hB hb
   cases op<;>simp only[]at h<;>(try cases h)<;>simp[eqGuard,binOp,run_equal_bool w t a b hu,Value.oneCell']
  ·cases h
open Go
def addP(p:Nat→Prop)(r:Nat):Nat→Prop:=fun x=>p x∨x=r
def XfL(β:Nat→Option Nat)(r:Nat)(b:Option Nat):Nat→Option Nat:=fun x=>if x=r then b else β x
theorem Ea(β:Nat→Option Nat)(r:Nat)(b:Option Nat):XfL β r b r=b:=by simp[XfL]
theorem G2{β:Nat→Option Nat}{r x:Nat}{b:Option Nat}(h:x≠r):XfL β r b x=β x:=by simp[XfL,h]
structure Grow (w w':World) (o:Obj):Prop where
 heap:w'.heap=w.heap.push o
 os:w'.os=w.os
 output:w'.output=w.output
 tape:w'.tape=w.tape
theorem Grow.alloc(w:World)(o:Obj):Grow w (w.alloc o) o:=⟨rfl,rfl,rfl,rfl⟩
theorem Grow.old{w w':World}{o:Obj}(g:Grow w w' o){b:Nat}(h:b<w.heap.size):w'.heap[b]? =w.heap[b]? :=by
 rw[g.heap,Array.getElem?_push,if_neg (by omega)]
theorem Grow.new{w w':World}{o:Obj}(g:Grow w w' o):w'.heap[w.heap.size]? =some o:=by rw[g.heap];simp
theorem Grow.size{w w':World}{o:Obj}(g:Grow w w' o):w'.heap.size=w.heap.size+1:=by rw[g.heap];simp
theorem Iz{w w':World}{b:Nat}(h:w'.heap[b]? =w.heap[b]?):w'.shape? b=w.shape? b:=by unfold World.shape?;rw[h]
theorem XeO{w:World}{b:Nat}{s:TypeId×Nat}(h:w.shape? b=some s):b<w.heap.size:=by
 unfold World.shape? at h
 split at h
 ·rename_i hb;exact(Array.getElem?_eq_some_iff.1 hb).1
 ·cases h
theorem Grow.shape{w w':World}{o:Obj}(g:Grow w w' o){b:Nat}{s:TypeId×Nat}(h:w.shape? b=some s):w'.shape? b=some s:=by
 rw[Iz (g.old (XeO h)),h]
def Env.withNil(E:Env)(r:Nat):Env:={E with pres:=addP E.pres r,β:=XfL E.β r none}
def Env.withBlk(E:Env)(r:Nat)(w:World):Env:={E with pres:=addP E.pres r,β:=XfL E.β r (some E.w.heap.size),w:=w}
section
variable {c:Ctx} {E:Env}
theorem Step.withNil{r:Nat}(hp:¬E.pres r):Step E (E.withNil r) where
 rt:=fun x R h=>⟨R,h,.inr rfl⟩
 pres:=fun x h=>.inl h
 β:=fun x h=>G2 (fun e=>hp (e▸h))
 S:=fun b h=>h
 heap:=fun b h=>rfl
 shape:=fun b s h=>h
theorem Step.withBlk(hM:Mem c E){r:Nat}{w:World}{o:Obj}(hp:¬E.pres r)(g:Grow E.w w o):Step E (E.withBlk r w) where
 rt:=fun x R h=>⟨R,h,.inr rfl⟩
 pres:=fun x h=>.inl h
 β:=fun x h=>G2 (fun e=>hp (e▸h))
 S:=fun b h=>h
 heap:=fun b h=>g.old (hM.slt b h)
 shape:=fun b s h=>g.shape h
theorem Mem.withNilG(hM:Mem c E){r:Nat}{R0:Root}(hr:E.rt r=some R0)(h0:RootRel (E.withNil r) r R0)(hp:¬E.pres r)(hm:c.m≤r):Mem c (E.withNil r) where
 os:=hM.os
 output:=hM.output
 tape:=hM.tape
 size:=hM.size
 keep:=hM.keep
 shape:=hM.shape
 s0:=hM.s0
 slt:=hM.slt
 glob:=hM.glob
 snew:=hM.snew
 blt:=by
  intro x b hx hb
  by_cases e:x=r
  ·subst e;simp[Env.withNil,XfL]at hb
  ·rw[show(E.withNil r).β x=E.β x from G2 e]at hb
   exact hM.blt x b (hx.resolve_right e) hb
 bown:=by
  intro x R b hx hR hd hb
  by_cases e:x=r
  ·subst e;simp[Env.withNil,XfL]at hb
  ·rw[show(E.withNil r).β x=E.β x from G2 e]at hb
   exact hM.bown x R b (hx.resolve_right e) hR hd hb
 bkeep:=by
  intro x R hlt hx hR hd
  have e:x≠r:=by omega
  rw[show(E.withNil r).β x=E.β x from G2 e]
  exact hM.bkeep x R hlt (hx.resolve_right e) hR hd
 inj:=by
  intro x y R R' b hx hy hR hd hR' hd' hb hb'
  have ex:x≠r:=by rintro rfl;simp[Env.withNil,XfL]at hb
  have ey:y≠r:=by rintro rfl;simp[Env.withNil,XfL]at hb'
  rw[show(E.withNil r).β x=E.β x from G2 ex]at hb
  rw[show(E.withNil r).β y=E.β y from G2 ey]at hb'
  exact hM.inj x y R R' b (hx.resolve_right ex) (hy.resolve_right ey) hR hd hR' hd' hb hb'
 roots:=by
  intro x R hx hR
  by_cases e:x=r
  ·subst e
   have:R=R0:=by
    have h2:E.rt x=some R:=hR
    rw[hr]at h2;exact(Option.some.inj h2).symm
   subst this
   exact h0
  ·exact(hM.roots x R (hx.resolve_right e) hR).step (Step.withNil hp) (hx.resolve_right e) (fun b hb=>rfl) (fun b _ h=>h)
theorem Mem.withNil(hM:Mem c E){r s:Nat}(hr:E.rt r=some (.row s false []))(hp:¬E.pres r)(hm:c.m≤r):Mem c (E.withNil r):=hM.withNilG hr (.inl ⟨by simp[Env.withNil,XfL],rfl⟩) hp hm
theorem Mem.withNilB(hM:Mem c E){r:Nat}{e:TypeId}{fz:Bool}(hr:E.rt r=some (.buf e fz []))(hp:¬E.pres r)(hm:c.m≤r):Mem c (E.withNil r):=hM.withNilG hr (.inl ⟨by simp[Env.withNil,XfL],rfl⟩) hp hm
theorem Mem.withBlk(hM:Mem c E){r:Nat}{R0:Root}{w:World}{o:Obj}(hr:E.rt r=some R0)(hp:¬E.pres r)(hm:c.m≤r)(g:Grow E.w w o)
  (hR0:RootRel (E.withBlk r w) r R0):Mem c (E.withBlk r w) where
 os:=g.os.trans hM.os
 output:=g.output.trans hM.output
 tape:=g.tape.trans hM.tape
 size:=by have:=hM.size;show _≤w.heap.size;rw[g.size];omega
 keep:=by
  intro b hb ho
  have:=hM.size
  exact(g.old (by omega)).trans (hM.keep b hb ho)
 shape:=fun b s h=>g.shape (hM.shape b s h)
 s0:=hM.s0
 slt:=by intro b hb;show b<w.heap.size;rw[g.size];have:=hM.slt b hb;omega
 glob:=Globs.step (fun _ h=>h) (fun b hb=>g.old (hM.slt b hb)) hM.glob
 snew:=hM.snew
 blt:=by
  intro x b hx hb
  show b<w.heap.size
  rw[g.size]
  by_cases e:x=r
  ·subst e
   have:(E.withBlk x w).β x=some E.w.heap.size:=Ea _ _ _
   rw[this]at hb
   have:=Option.some.inj hb
   omega
  ·rw[show(E.withBlk r w).β x=E.β x from G2 e]at hb
   have:=hM.blt x b (hx.resolve_right e) hb
   omega
 bown:=by
  intro x R b hx hR hd hb
  by_cases e:x=r
  ·subst e
   have:(E.withBlk x w).β x=some E.w.heap.size:=Ea _ _ _
   rw[this]at hb
   have:=Option.some.inj hb
   have:=hM.size
   left;omega
  ·rw[show(E.withBlk r w).β x=E.β x from G2 e]at hb
   exact hM.bown x R b (hx.resolve_right e) hR hd hb
 bkeep:=by
  intro x R hlt hx hR hd
  have e:x≠r:=by omega
  rw[show(E.withBlk r w).β x=E.β x from G2 e]
  exact hM.bkeep x R hlt (hx.resolve_right e) hR hd
 inj:=by
  intro x y R R' b hx hy hR hd hR' hd' hb hb'
  have key:∀z b,(E.withBlk r w).pres z→z≠r→(E.withBlk r w).β z=some b→b<E.w.heap.size:=by
   intro z b hz e hb
   rw[show(E.withBlk r w).β z=E.β z from G2 e]at hb
   exact hM.blt z b (hz.resolve_right e) hb
  have self:(E.withBlk r w).β r=some E.w.heap.size:=Ea _ _ _
  by_cases ex:x=r<;>by_cases ey:y=r
  ·rw[ex,ey]
  ·subst ex
   rw[self]at hb
   have h1:=Option.some.inj hb
   have h2:=key y b hy ey hb'
   omega
  ·subst ey
   rw[self]at hb'
   have h1:=Option.some.inj hb'
   have h2:=key x b hx ex hb
   omega
  ·rw[show(E.withBlk r w).β x=E.β x from G2 ex]at hb
   rw[show(E.withBlk r w).β y=E.β y from G2 ey]at hb'
   exact hM.inj x y R R' b (hx.resolve_right ex) (hy.resolve_right ey) hR hd hR' hd' hb hb'
 roots:=by
  intro x R hx hR
  by_cases e:x=r
  ·subst e
   have h2:E.rt x=some R:=hR
   rw[hr]at h2
   rw[←Option.some.inj h2]
   exact hR0
  ·have hx':=hx.resolve_right e
   exact(hM.roots x R hx' hR).step (Step.withBlk hM hp g) hx' (fun b hb=>g.old (hM.blt x b hx' hb)) (fun b _ h=>h)
end
open Go
def szT(P:Program)(t:TypeId):Option Nat:=(P.info? t).map (·.size)
def XeP:TypeDesc→Bool
 | .struct _| .array _ _=>true
 |_=>false
def Xq(P:Program)(t:TypeId):Option Bool:=(P.underlying t).map XeP
def elT(P:Program)(t:TypeId):Option (Nat×Nat):=
 match P.underlying t with
 |some (.slice e)=>(P.info? e).map fun i=>(i.size,i.bytes)
 |_=>none
def Xjm(P:Program)(t:TypeId)(f:Nat):Option (Nat×Nat×Bool):=
 match P.underlying t with
 |some (.struct fs)=>(fs[f]?).bind fun g=>(P.info? g.type).bind fun i=>(P.underlying g.type).map fun d=>(g.offset,i.size,XeP d)
 |_=>none
section
variable {P:Program} {w:World}
theorem L5{t:TypeId}{b:Bool}(h:Xq P t=some b):(isAgg t).run P w= .ok b w:=by
 unfold Xq at h
 cases hu:P.underlying t with
 |none=>simp[hu]at h
 |some d=>
  simp only[hu,Option.map_some,Option.some.injEq]at h
  subst h
  cases d<;>simp[isAgg,run_underlying hu,XeP]
theorem Cz{t:TypeId}{n:Nat}(h:szT P t=some n):(sizeOf t).run P w= .ok n w:=by
 unfold szT at h
 cases hi:P.info? t with
 |none=>simp[hi]at h
 |some i=>
  simp only[hi,Option.map_some,Option.some.injEq]at h
  subst h
  simp[sizeOf,typeInfo,hi]
theorem He(b o n:Nat):(⟨b,o,none⟩:Addr).add n=⟨b,o+n,none⟩:=by
 unfold Addr.add;split<;>simp_all
theorem Ws{t:TypeId}{n b o:Nat}{f:Nat→Value}(ha:Xq P t=some true)(hs:szT P t=some n)(h:∀j,j<n→w.cell? ⟨b,o+j,none⟩=some (f j)):
  (Instr.loadAt t (.pointer (some ⟨b,o,none⟩))).run P w= .ok (.agg ((List.range n).map f).toArray) w:=by
 have hl:=run_loadCells (P:=P) w ⟨b,o,none⟩ n f (fun j hj=>by rw[He];exact h j hj)
 simp[Instr.loadAt,Instr.sureAddr,loadVar,L5 ha,Cz hs,hl]
theorem Wx{t:TypeId}{b o:Nat}{u:Value}(ha:Xq P t=some false)(h:w.cell? ⟨b,o,none⟩=some u):
  (Instr.loadAt t (.pointer (some ⟨b,o,none⟩))).run P w= .ok u w:=by
 simp[Instr.loadAt,Instr.sureAddr,loadVar,L5 ha,h]
end
def Lo(l:List AV)(j n:Nat)(agg:Bool):Option AV:=
 if agg then(if j+n≤l.length then some (.agg ((l.drop j).take n))else none)else l[j]?
def E8(rt:Nat→Option Root)(n:Nat)(agg:Bool):AV→Option AV
 | .ptr r i j=>
   match rt r with
   |some (.row _ _ xs)=>(xs[i]?).bind fun x=>Lo (x.map AV.d) j n agg
   |some (.box _ l)=>if i=0 then Lo l j n agg else none
   |_=>none
 | .rptr cs=>Lo (cs.map AV.d) 0 n agg
 |_=>none
def XkD(E:Env)(b o:Nat)(l:List AV):Prop:=∀(j:Nat) y,l[j]? =some y→∃u,E.w.cell? ⟨b,o+j,none⟩=some u∧u.oneCell'=true∧RelAV E y u
theorem RelD.one{w:World}{S:Nat→Prop}{x:D}{v:Value}(h:RelD w S x v):v.oneCell'=true:=by
 cases h with
 |sc v h=>exact h
 |nil=>rfl
 |row=>rfl
theorem P0{P:Program}{E:Env}{t:TypeId}{b o:Nat}{l:List AV}{j n:Nat}{agg:Bool}{av:AV}(ha:Xq P t=some agg)(hs:szT P t=some n)
  (hc:XkD E b o l)(h:Lo l j n agg=some av):∃v,(Instr.loadAt t (.pointer (some ⟨b,o+j,none⟩))).run P E.w= .ok v E.w∧RelAV E av v:=by
 cases agg with
 |false=>
  obtain⟨u,hu,_,hr⟩:=hc j av (by simpa[Lo]using h)
  exact⟨u,Wx ha hu,hr⟩
 |true=>
  simp only[Lo,if_true]at h
  split at h
  ·rename_i hjn
   obtain rfl:=Option.some.inj h
   have key:∀k,k<n→∃u,E.w.cell? ⟨b,o+(j+k),none⟩=some u∧u.oneCell'=true∧∃y,l[j+k]? =some y∧RelAV E y u:=by
    intro k hk
    have hlt:j+k<l.length:=by omega
    obtain⟨u,hu,ho,hr⟩:=hc (j+k) l[j+k] (by simp[hlt])
    exact⟨u,hu,ho,_,by simp[hlt],hr⟩
   let f:Nat→Value:=fun k=>if hk:k<n then(key k hk).choose else undef
   have hf:∀k (hk:k<n),f k=(key k hk).choose:=fun k hk=>by simp[f,hk]
   have hrun:=Ws (P:=P) (w:=E.w) (t:=t) (n:=n) (b:=b) (o:=o+j) (f:=f) ha hs (fun k hk=>by
    rw[hf k hk,Nat.add_assoc];exact(key k hk).choose_spec.1)
   refine⟨_,hrun,.agg _ _ (by simp;omega) ?_ ?_⟩
   ·intro k y hy
    have hk:k<n:=by
     have:=(List.getElem?_eq_some_iff.1 hy).1
     simp at this;omega
    obtain⟨y',hy',hr⟩:=(key k hk).choose_spec.2.2
    have e:l[j+k]? =some y:=by
     rw[List.getElem?_take]at hy
     simp only[hk,if_true,List.getElem?_drop]at hy
     exact hy
    rw[e]at hy'
    obtain rfl:=Option.some.inj hy'
    have:(((List.range n).map f).toArray).getD k undef=f k:=by
     simp[Array.getD,hk]
    rw[this,hf k hk]
    exact hr
   ·intro u hu
    simp only[List.mem_toArray,List.mem_map,List.mem_range]at hu
    obtain⟨k,hk,rfl⟩:=hu
    rw[hf k hk]
    exact(key k hk).choose_spec.2.1
  ·cases h
theorem Tn{P:Program}{c:Ctx}{E:Env}(hM:Mem c E){t:TypeId}{n:Nat}{agg:Bool}{p av:AV}{v:Value}(ha:Xq P t=some agg)(hs:szT P t=some n)
  (hp:RelAV E p v)(h:E8 E.rt n agg p=some av):∃u,(Instr.loadAt t v).run P E.w= .ok u E.w∧RelAV E av u:=by
 cases hp with
 |d x v h'=>simp[E8]at h
 |ref=>simp[E8]at h
 |refz=>simp[E8]at h
 |dref=>simp[E8]at h
 |agg=>simp[E8]at h
 |tup=>simp[E8]at h
 |clo=>simp[E8]at h
 |anyb=>simp[E8]at h
 |junk=>simp[E8]at h
 |dptr r i j v h1 ho=>simp[E8,h1]at h
 |rptr cs b o us hS hu hr=>
  refine P0 (o:=o) (j:=0) ha hs ?_ h
  intro j y hy
  rw[List.getElem?_map]at hy
  obtain⟨x,hx,rfl⟩:=Option.map_eq_some_iff.1 hy
  exact⟨us j,hu j x hx,(hr j x hx).one,.d _ _ (hr j x hx)⟩
 |ptr r i j R b h1 h2 h3=>
  have hR:=hM.roots r R h2 h1
  cases R with
  |dead=>simp[E8,h1]at h
  |buf=>simp[E8,h1]at h
  |map=>simp[E8,h1]at h
  |box ty l=>
   simp only[E8,h1]at h
   split at h
   ·rename_i hi
    subst hi
    obtain⟨b',cs,fr,hb,hh,hsz,hcs,_⟩:=hR
    rw[h3]at hb
    obtain rfl:=Option.some.inj hb
    have:=P0 (P:=P) (E:=E) (t:=t) (b:=b) (o:=0) (j:=j) (n:=n) (l:=l) ha hs ?_ h
    ·simpa[Root.kind,Kind.sz]using this
    ·intro k y hy
     obtain⟨u,hu,ho,hr⟩:=hcs k y hy
     exact⟨u,by simp[World.cell?,hh,hu],ho,hr⟩
   ·cases h
  |row sz fz xs=>
   simp only[E8,h1]at h
   obtain⟨x,hx,h⟩:=Option.bind_eq_some_iff.1 h
   rcases hR with⟨hb,_⟩|⟨b',cs,t',fr,hb,hh,hl,hle,hcs,_⟩
   ·rw[h3]at hb;cases hb
   ·rw[h3]at hb
    obtain rfl:=Option.some.inj hb
    refine P0 (o:=i*sz) (j:=j) ha hs ?_ h
    intro k y hy
    rw[List.getElem?_map]at hy
    obtain⟨z,hz,rfl⟩:=Option.map_eq_some_iff.1 hy
    obtain⟨u,hu,hr⟩:=hcs i x k z hx hz
    exact⟨u,by simp[World.cell?,hh,hu],hr.one,.d _ _ hr⟩
open Go
def Lh(rt:Nat→Option Root)(r:Nat):Bool:=
 match rt r with
 |some (.row ..)|some (.box ..)|some (.buf ..)=>true
 |_=>false
theorem Ow{rt:Nat→Option Root}{r:Nat}(h:rt r=some .dead):Lh rt r=false:=by simp[Lh,h]
theorem Si{rt:Nat→Option Root}{r:Nat}{R:Root}(h:rt r=some R)(ha:Lh rt r=true)(b o:Nat):R.kind.ptrV b o= .pointer (some ⟨b,o,none⟩):=by
 cases R with
 |map ks=>simp[Lh,h]at ha
 |_=>rfl
def C5(rt:Nat→Option Root)(fl:Option (Nat×Nat×Bool)):AV→Option AV
 | .ptr r i j=>if Lh rt r then fl.bind fun(o,n,_)=>if n=0 then none else some (.ptr r i (j+o))else none
 | .rptr cs=>fl.bind fun(o,n,_)=>if n=0 then none else some (.rptr (cs.drop o))
 |_=>none
def Wk(fl:Option (Nat×Nat×Bool)):AV→Option AV
 | .agg l=>fl.bind fun(o,n,agg)=>Lo l o n agg
 |_=>none
def Ct(rt:Nat→Option Root)(el:Option (Nat×Nat))(x:AV)(i:Int):Option AV:=
 match x with
 | .ref r off len=>
   match rt r with
   |some (.row sz _ _)=>if el.map (·.1)=some sz∧0≤i∧i<len then some (.ptr r (off+i.toNat) 0)else none
   |_=>none
 | .d (.row sz xs)=>if el.map (·.1)=some sz∧0≤i then(xs[i.toNat]?).map AV.rptr else none
 |_=>none
section
variable {P:Program} {c:Ctx} {E:Env}
theorem Xcn{t f o n:Nat}{g:Bool}(h:Xjm P t f=some (o,n,g)):
  ∃fs fl,P.underlying t=some (.struct fs)∧fs[f]? =some fl∧fl.offset=o∧szT P fl.type=some n∧Xq P fl.type=some g:=by
 unfold Xjm at h
 split at h
 ·rename_i fs hu
  obtain⟨fl,hfl,h⟩:=Option.bind_eq_some_iff.1 h
  obtain⟨i,hi,h⟩:=Option.bind_eq_some_iff.1 h
  obtain⟨d,hd,h⟩:=Option.map_eq_some_iff.1 h
  simp only[Prod.mk.injEq]at h
  obtain⟨rfl,rfl,rfl⟩:=h
  exact⟨fs,fl,hu,hfl,rfl,by simp[szT,hi],by simp[Xq,hd]⟩
 ·cases h
theorem La{t s b:Nat}(h:elT P t=some (s,b)):∃e i,P.underlying t=some (.slice e)∧P.info? e=some i∧i.size=s∧i.bytes=b∧szT P e=some s:=by
 unfold elT at h
 split at h
 ·rename_i e hu
  obtain⟨i,hi,h⟩:=Option.map_eq_some_iff.1 h
  simp only[Prod.mk.injEq]at h
  obtain⟨rfl,rfl⟩:=h
  exact⟨e,i,hu,hi,rfl,rfl,by simp[szT,hi]⟩
 ·cases h
theorem Uw{w:World}{t f o n b a:Nat}{g:Bool}(h:Xjm P t f=some (o,n,g))(hn:n≠0):
  (Instr.fieldAt t (.pointer (some ⟨b,a,none⟩)) f).run P w= .ok (.pointer (some ⟨b,a+o,none⟩)) w:=by
 obtain⟨fs,fl,hu,hfl,rfl,hs,_⟩:=Xcn h
 simp[Instr.fieldAt,run_underlying hu,hfl,Instr.sureAddr,fieldPlace,Cz hs,hn,He]
theorem Sa{t f:Nat}{p av:AV}{v:Value}(hp:RelAV E p v)(h:C5 E.rt (Xjm P t f) p=some av):
  ∃u,(Instr.fieldAt t v f).run P E.w= .ok u E.w∧RelAV E av u:=by
 cases hp with
 |d x v h'=>simp[C5]at h
 |ref=>simp[C5]at h
 |refz=>simp[C5]at h
 |dref=>simp[C5]at h
 |agg=>simp[C5]at h
 |tup=>simp[C5]at h
 |clo=>simp[C5]at h
 |anyb=>simp[C5]at h
 |junk=>simp[C5]at h
 |dptr r i j v h1 ho=>simp[C5,Ow h1]at h
 |rptr cs b o us hS hu hr=>
  simp only[C5]at h
  obtain⟨⟨o',n,g⟩,hf,h⟩:=Option.bind_eq_some_iff.1 h
  simp only at h
  split at h
  ·cases h
  ·rename_i hn
   obtain rfl:=Option.some.inj h
   refine⟨_,Uw hf hn,.rptr _ b (o+o') (fun j=>us (o'+j)) hS ?_ ?_⟩
   ·intro j y hy
    rw[List.getElem?_drop]at hy
    rw[Nat.add_assoc]
    exact hu _ y hy
   ·intro j y hy
    rw[List.getElem?_drop]at hy
    exact hr _ y hy
 |ptr r i j R b h1 h2 h3=>
  simp only[C5]at h
  split at h
  ·rename_i ha
   obtain⟨⟨o',n,g⟩,hf,h⟩:=Option.bind_eq_some_iff.1 h
   simp only at h
   split at h
   ·cases h
   ·rename_i hn
    obtain rfl:=Option.some.inj h
    rw[Si h1 ha]
    refine⟨_,Uw hf hn,?_⟩
    rw[Nat.add_assoc]
    have q:=RelAV.ptr r i (j+o') R b h1 h2 h3
    rwa[Si h1 ha]at q
  ·cases h
theorem XiI{w:World}{t:TypeId}{l:List AV}{us:Array Value}{j n:Nat}{agg:Bool}{av:AV}(ha:Xq P t=some agg)(hs:szT P t=some n)
  (hl:us.size=l.length)(hr:∀(k:Nat) y,l[k]? =some y→RelAV E y (us.getD k undef))(ho:∀u∈us,u.oneCell'=true)(h:Lo l j n agg=some av):
  ∃u,(part t us j).run P w= .ok u w∧RelAV E av u:=by
 cases agg with
 |false=>
  have h:l[j]? =some av:=by simpa[Lo]using h
  have hj:j<us.size:=by rw[hl];exact(List.getElem?_eq_some_iff.1 h).1
  refine⟨us[j],by simp[part,L5 ha,hj],?_⟩
  have:=hr j av h
  simpa[Array.getD,hj]using this
 |true=>
  simp only[Lo,if_true]at h
  split at h
  ·rename_i hjn
   obtain rfl:=Option.some.inj h
   refine⟨_,by simp[part,L5 ha,Cz hs];rfl,.agg _ _ ?_ ?_ ?_⟩
   ·simp;omega
   ·intro k y hy
    rw[List.getElem?_take]at hy
    split at hy
    ·rename_i hk
     rw[List.getElem?_drop]at hy
     have:=hr _ y hy
     have hlt:j+k<us.size:=by omega
     simp only[Array.getD,hlt,dif_pos]at this
     have hlt2:k<(us.extract j (j+n)).size:=by simp;omega
     simp only[Array.getD,hlt2,dif_pos]
     simpa using this
    ·cases hy
   ·intro u hu
    obtain⟨k,hk,rfl⟩:=Array.mem_iff_getElem.1 hu
    rw[Array.getElem_extract]
    exact ho _ (Array.getElem_mem _)
  ·cases h
theorem Zr{t f:Nat}{p av:AV}{v:Value}(hp:RelAV E p v)(h:Wk (Xjm P t f) p=some av):
  ∃u,(Instr.field t v f).run P E.w= .ok u E.w∧RelAV E av u:=by
 cases hp with
 |agg l us hs hr ho=>
  simp only[Wk]at h
  obtain⟨⟨o,n,g⟩,hf,h⟩:=Option.bind_eq_some_iff.1 h
  obtain⟨fs,fl,hu,hfl,rfl,hz,hg⟩:=Xcn hf
  obtain⟨u,hu',hr'⟩:=XiI (P:=P) (w:=E.w) (t:=fl.type) hg hz hs hr ho h
  exact⟨u,by simp[Instr.field,run_underlying hu,hfl,asAgg,hu'],hr'⟩
 |_=>simp[Wk]at h
theorem Sv(hM:Mem c E){t:Nat}{x av:AV}{v:Value}{k:IntKind}{i:Int}(hx:RelAV E x v)(h:Ct E.rt (elT P t) x i=some av):
  ∃u,(Instr.indexAt t v (.int k i)).run P E.w= .ok u E.w∧RelAV E av u:=by
 cases hx with
 |d y v h'=>
  cases h' with
  |sc v h'=>simp[Ct]at h
  |nil sz a=>simp[Ct]at h
  |row sz xs b off cap us hS hc hl hu hr=>
   simp only[Ct]at h
   split at h
   ·rename_i hcond
    obtain⟨he,h0⟩:=hcond
    obtain⟨⟨s,by_⟩,hel,rfl⟩:=Option.map_eq_some_iff.1 he
    obtain⟨e,inf,hu',hi,_,_,hz⟩:=La hel
    obtain⟨y,hy,rfl⟩:=Option.map_eq_some_iff.1 h
    have hlt:i.toNat<xs.length:=(List.getElem?_eq_some_iff.1 hy).1
    refine⟨.pointer (some ⟨b,off+i.toNat*s,none⟩),?_,.rptr y b _ (us i.toNat) hS (fun j z hz=>?_) (fun j z hz=>hr _ _ _ _ hy hz)⟩
    ·have hcnd:0≤i∧i<(xs.length:Int):=by omega
     simp only[Instr.indexAt,asIntOf,Sem.run_bind,Sem.run_pure,Result.andThen_ok,run_underlying hu']
     simp[hcnd,Cz hz,He]
    ·exact hu _ _ _ _ hy hz
   ·cases h
 |ref r off len R sz b cap t' n h1 hk h2 h3 h4 h5 h6=>
  cases R with
  |buf=>simp[Ct,h1]at h
  |map=>simp[Ct,h1]at h
  |box=>simp[Root.kind]at hk
  |dead=>simp[Root.kind]at hk
  |row sz' fz xs=>
   simp only[Root.kind,Kind.row.injEq]at hk
   subst hk
   simp only[Ct,h1]at h
   split at h
   ·rename_i hcond
    obtain⟨he,h0,hlt⟩:=hcond
    obtain⟨⟨s,by_⟩,hel,rfl⟩:=Option.map_eq_some_iff.1 he
    obtain⟨e,inf,hu',hi,_,_,hz⟩:=La hel
    obtain rfl:=Option.some.inj h
    refine⟨.pointer (some ⟨b,(off+i.toNat)*s+0,none⟩),?_,.ptr r _ 0 _ b h1 h2 h3⟩
    simp only[Instr.indexAt,asIntOf,Sem.run_bind,Sem.run_pure,Result.andThen_ok,run_underlying hu']
    simp[h0,hlt,Cz hz,He,Nat.add_mul]
   ·cases h
 |refz r off R sz a h1 hk h2=>
  cases R with
  |buf=>simp[Ct,h1]at h
  |map=>simp[Ct,h1]at h
  |box=>simp[Root.kind]at hk
  |dead=>simp[Root.kind]at hk
  |row sz' fz xs=>
   simp only[Ct,h1]at h
   split at h
   ·rename_i hcond
    exfalso
    have:=hcond.2
    simp at this
    omega
   ·cases h
 |dref r off len v h1 ho=>simp[Ct,h1]at h
 |_=>simp[Ct]at h
end
open Go
def Ev(rt:Nat→Option Root)(el:Option (Nat×Nat))(isS:Bool)(x:AV)(lo hi:Option Int):Option AV:=
 match x with
 | .d (.sc (.string s))=>
   if isS=true∧0≤lo.getD 0∧lo.getD 0≤hi.getD s.size∧hi.getD s.size≤s.size then some (.d (.sc (.string (s.extract (lo.getD 0).toNat (hi.getD s.size).toNat))))else none
 | .d (.row sz xs)=>
   if el.map (·.1)=some sz∧0≤lo.getD 0∧lo.getD 0≤hi.getD xs.length∧hi.getD xs.length≤xs.length then
    some (.d (.row sz ((xs.drop (lo.getD 0).toNat).take ((hi.getD xs.length).toNat - (lo.getD 0).toNat))))else none
 | .ref r off len=>
   match rt r with
   |some (.row sz _ _)=>
    if el.map (·.1)=some sz∧0≤lo.getD 0∧lo.getD 0≤hi.getD len∧hi.getD len≤len then
     some (.ref r (off+(lo.getD 0).toNat) ((hi.getD len).toNat - (lo.getD 0).toNat))else none
   |_=>none
 |_=>none
section
variable {P:Program} {c:Ctx} {E:Env}
theorem Fr{w:World}{isSl:Bool}{len cap:Nat}{kl kh:IntKind}{lo hi:Option Int}(h0:0≤lo.getD 0)(h1:lo.getD 0≤hi.getD len)(h2:hi.getD len≤(len:Int))(hc:len≤cap):
  (Instr.sliceBounds isSl len cap (lo.map (Value.int kl)) (hi.map (Value.int kh)) none).run P w= .ok ((lo.getD 0).toNat,(hi.getD len).toNat,cap) w:=by
 cases hi with
 |none=>
  cases lo with
  |none=>simp[Instr.sliceBounds]
  |some l=>
   simp only[Option.getD_some,Option.getD_none]at h0 h1 h2
   simp[Instr.sliceBounds,Instr.sliceBound,asIntOf,h0,h1]
 |some h=>
  simp only[Option.getD_some]at h1 h2
  have h3:h≤(cap:Int):=by omega
  cases lo with
  |none=>
   simp only[Option.getD_none]at h0 h1
   simp[Instr.sliceBounds,Instr.sliceBound,asIntOf,h1,h3]
  |some l=>
   simp only[Option.getD_some]at h0 h1
   have h4:0≤h:=by omega
   have h5:l≤((h.toNat:Nat):Int):=by omega
   simp[Instr.sliceBounds,Instr.sliceBound,asIntOf,h0,h3,h4,h1]
   intro hh
   omega
theorem Xau{t:Nat}{x av:AV}{v:Value}{kl kh:IntKind}{lo hi:Option Int}{isS:Bool}(hS:isS=true→P.underlying t=some .string)(hx:RelAV E x v)
  (h:Ev E.rt (elT P t) isS x lo hi=some av):∃u,(Instr.sliceAt t v (lo.map (Value.int kl)) (hi.map (Value.int kh)) none).run P E.w= .ok u E.w∧RelAV E av u:=by
 cases hx with
 |d y v h'=>
  cases h' with
  |sc v h'=>
   cases v<;>simp only[Ev]at h<;>try (cases h;done)
   rename_i s
   split at h
   ·rename_i hc
    obtain⟨hs,h0,h1,h2⟩:=hc
    obtain rfl:=Option.some.inj h
    refine⟨_,?_,.d _ _ (.sc _ rfl)⟩
    simp[Instr.sliceAt,Instr.slice,run_underlying (hS hs),Fr (P:=P) h0 h1 h2 (Nat.le_refl _)]
   ·cases h
  |nil sz a cap=>
   simp only[Ev]at h
   split at h
   ·rename_i hc
    obtain⟨he,h0,h1,h2⟩:=hc
    obtain⟨⟨s,by_⟩,hel,rfl⟩:=Option.map_eq_some_iff.1 he
    obtain⟨e,inf,hu',hi',_,_,hz⟩:=La hel
    dsimp only at*
    obtain rfl:=Option.some.inj h
    simp only[List.length_nil]at h1 h2
    have hb:=Fr (P:=P) (w:=E.w) (isSl:=true) (len:=0) (cap:=cap) (kl:=kl) (kh:=kh) h0 h1 h2 (Nat.zero_le _)
    have e1:lo.getD 0=0:=by omega
    have e2:hi.getD ((0:Nat):Int)=0:=by omega
    rw[e1,e2]at hb
    refine⟨.slice (if cap=0 then a else Option.map (fun x=>x.add (0*s)) a) 0 cap,?_,?_⟩
    ·simp[Instr.sliceAt,Instr.slice,run_underlying hu',hb,Cz hz]
    ·simp only[List.drop_nil,List.take_nil]
     exact .d _ _ (.nil _ _ _)
   ·cases h
  |row sz xs b off cap us hSb hc hl hu hr=>
   simp only[Ev]at h
   split at h
   ·rename_i hcd
    obtain⟨he,h0,h1,h2⟩:=hcd
    obtain⟨⟨s,by_⟩,hel,rfl⟩:=Option.map_eq_some_iff.1 he
    obtain⟨e,inf,hu',hi',_,_,hz⟩:=La hel
    dsimp only at*
    obtain rfl:=Option.some.inj h
    have hb:=Fr (P:=P) (w:=E.w) (isSl:=true) (kl:=kl) (kh:=kh) h0 h1 h2 hc
    generalize hL:(lo.getD 0).toNat=L at*
    generalize hH:(hi.getD (xs.length:Int)).toNat=H at*
    have hLH:L≤H:=by omega
    have hHl:H≤xs.length:=by omega
    by_cases hcl:cap=L
    ·refine⟨.slice (some ⟨b,off,none⟩) 0 0,?_,?_⟩
     ·rw[←hcl]at hb
      simp[Instr.sliceAt,Instr.slice,run_underlying hu',hb,Cz hz]
      omega
     ·have:(xs.drop L).take (H - L)=[]:=by rw[List.drop_of_length_le (by omega)];simp
      rw[this]
      exact .d _ _ (.nil _ _ _)
    ·refine⟨.slice (some ⟨b,off+L*s,none⟩) (H - L) (cap - L),?_,?_⟩
     ·simp[Instr.sliceAt,Instr.slice,run_underlying hu',hb,Cz hz,hcl,He]
     ·have hlen:((xs.drop L).take (H - L)).length=H - L:=by simp;omega
      have key:=RelD.row (w:=E.w) (S:=E.S) s ((xs.drop L).take (H - L)) b (off+L*s) (cap - L) (fun i j=>us (L+i) j) hSb (by omega)
       (by
        intro i x hx
        rw[List.getElem?_take]at hx
        split at hx
        ·rw[List.getElem?_drop]at hx;exact hl _ _ hx
        ·cases hx)
       (by
        intro i x j y hx hy
        rw[List.getElem?_take]at hx
        split at hx
        ·rw[List.getElem?_drop]at hx
         have:=hu _ _ _ _ hx hy
         rw[←this]
         congr 2
         rw[Nat.add_mul];omega
        ·cases hx)
       (by
        intro i x j y hx hy
        rw[List.getElem?_take]at hx
        split at hx
        ·rw[List.getElem?_drop]at hx;exact hr _ _ _ _ hx hy
        ·cases hx)
      rw[hlen]at key
      exact .d _ _ key
   ·cases h
 |ref r off len R sz b cap t' n h1 hk h2 h3 h4 h5 h6=>
  cases R with
  |buf=>simp[Ev,h1]at h
  |map=>simp[Ev,h1]at h
  |box=>simp[Root.kind]at hk
  |dead=>simp[Root.kind]at hk
  |row sz' fz xs=>
   simp only[Root.kind,Kind.row.injEq]at hk
   subst hk
   simp only[Ev,h1]at h
   split at h
   ·rename_i hcd
    obtain⟨he,h0,h1',h2'⟩:=hcd
    obtain⟨⟨s,by_⟩,hel,rfl⟩:=Option.map_eq_some_iff.1 he
    obtain⟨e,inf,hu',hi',_,_,hz⟩:=La hel
    dsimp only at*
    obtain rfl:=Option.some.inj h
    have hb:=Fr (P:=P) (w:=E.w) (isSl:=true) (kl:=kl) (kh:=kh) h0 h1' h2' h5
    generalize hL:(lo.getD 0).toNat=L at*
    generalize hH:(hi.getD (len:Int)).toNat=H at*
    have hLH:L≤H:=by omega
    have hHl:H≤len:=by omega
    by_cases hcl:cap=L
    ·refine⟨.slice (some ⟨b,off*s,none⟩) 0 0,?_,?_⟩
     ·rw[←hcl]at hb
      simp[Instr.sliceAt,Instr.slice,run_underlying hu',hb,Cz hz]
      omega
     ·rw[show H - L=0 by omega]
      exact .refz r _ _ _ _ h1 rfl h2
    ·refine⟨.slice (some ⟨b,(off+L)*s,none⟩) (H - L) (cap - L),?_,?_⟩
     ·simp[Instr.sliceAt,Instr.slice,run_underlying hu',hb,Cz hz,hcl,He,Nat.add_mul]
     ·exact .ref r _ _ _ _ b (cap - L) t' n h1 rfl h2 h3 h4 (by omega) (by
       have:off+L+(cap - L)=off+cap:=by omega
       rw[this];exact h6)
   ·cases h
 |refz r off R sz a h1 hk h2=>
  cases R with
  |buf=>simp[Ev,h1]at h
  |map=>simp[Ev,h1]at h
  |box=>simp[Root.kind]at hk
  |dead=>simp[Root.kind]at hk
  |row sz' fz xs=>
   simp only[Ev,h1]at h
   split at h
   ·rename_i hcd
    obtain⟨he,h0,h1',h2'⟩:=hcd
    obtain⟨⟨s,by_⟩,hel,rfl⟩:=Option.map_eq_some_iff.1 he
    obtain⟨e,inf,hu',hi',_,_,hz⟩:=La hel
    dsimp only at*
    obtain rfl:=Option.some.inj h
    have hb:=Fr (P:=P) (w:=E.w) (isSl:=true) (len:=0) (cap:=0) (kl:=kl) (kh:=kh) h0 h1' h2' (Nat.le_refl _)
    have e1:lo.getD 0=0:=by omega
    have e2:hi.getD ((0:Nat):Int)=0:=by omega
    rw[e1,e2]at hb
    rw[e1,e2]
    refine⟨.slice a 0 0,?_,.refz r _ _ _ _ h1 rfl h2⟩
    simp[Instr.sliceAt,Instr.slice,run_underlying hu',hb,Cz hz]
   ·cases h
 |dref r off len v h1 ho=>simp[Ev,h1]at h
 |_=>simp[Ev]at h
def Jk(isS:Bool)(x:AV)(i:Int):Option AV:=
 match x with
 | .d (.sc (.string s))=>if h:isS=true∧0≤i∧i.toNat<s.size then some (.d (.sc (.int .u8 ((s[i.toNat]'h.2.2).toNat:Int))))else none
 |_=>none
theorem Wt{t:Nat}{x av:AV}{v:Value}{k:IntKind}{i:Int}{isS:Bool}(hS:isS=true→P.underlying t=some .string)(hx:RelAV E x v)(h:Jk isS x i=some av):
  ∃u,(Instr.index t v (.int k i)).run P E.w= .ok u E.w∧RelAV E av u:=by
 cases hx with
 |d y v h'=>
  cases h' with
  |sc v h'=>
   cases v<;>simp only[Jk]at h<;>try (cases h;done)
   rename_i s
   split at h
   ·rename_i hc
    obtain⟨hs,h0,h1⟩:=hc
    obtain rfl:=Option.some.inj h
    refine⟨_,?_,.d _ _ (.sc _ rfl)⟩
    simp[Instr.index,asIntOf,run_underlying (hS hs),h0,h1]
   ·cases h
  |_=>simp[Jk]at h
 |_=>simp[Jk]at h
end
open Go
structure Quiet (c:Ctx) (nb n:Nat) (E E':Env):Prop where
 mem:Mem c E'
 step:Step E E'
 rt:E'.rt=E.rt
 pres:∀r,E'.pres r↔E.pres r∨(nb≤r∧r<nb+n)
 S:∀b,E'.S b→E.S b∨E.w.heap.size≤b
 size:E.w.heap.size≤E'.w.heap.size
 old:∀b,b<E.w.heap.size→E'.w.heap[b]? =E.w.heap[b]?
theorem Quiet.refl{c:Ctx}{E:Env}(hM:Mem c E)(nb:Nat):Quiet c nb 0 E E:=
 ⟨hM,Step.refl E,rfl,fun r=>⟨.inl,fun h=>h.elim id (fun h=>by omega)⟩,fun _ h=>.inl h,Nat.le_refl _,fun _ _=>rfl⟩
theorem Quiet.trans{c:Ctx}{nb n m:Nat}{A B C:Env}(h:Quiet c nb n A B)(k:Quiet c (nb+n) m B C):Quiet c nb (n+m) A C where
 mem:=k.mem
 step:=h.step.trans k.step
 rt:=k.rt.trans h.rt
 pres:=fun r=>by
  rw[k.pres,h.pres]
  constructor
  ·rintro((hh|hh)|hh)
   ·exact .inl hh
   ·exact .inr (by omega)
   ·exact .inr (by omega)
  ·rintro(hh|hh)
   ·exact .inl (.inl hh)
   ·by_cases hr:r<nb+n
    ·exact .inl (.inr (by omega))
    ·exact .inr (by omega)
 S:=fun b hb=>by
  rcases k.S b hb with hb|hb
  ·exact h.S b hb
  ·right;have:=h.size;omega
 size:=Nat.le_trans h.size k.size
 old:=fun b hb=>(k.old b (Nat.lt_of_lt_of_le hb h.size)).trans (h.old b hb)
def F1:Nat→List (Value×Nat)→List AV×List Root
 |_,[]=>([],[])
 |nb,(.slice none 0 0,s)::rest=>(.ref nb 0 0::(F1 (nb+1) rest).1,.row s false []::(F1 (nb+1) rest).2)
 |nb,(v,_)::rest=>(.d (.sc v)::(F1 nb rest).1,(F1 nb rest).2)
def XgW:List (Value×Nat)→Bool
 |[(.pointer none,_),(.slice none 0 0,1)]=>true
 |_=>false
def Jh(nb:Nat)(zs:List (Value×Nat)):List AV×List Root:=
 match XgW zs with
 |true=>([.d (.sc (.pointer none)),.ref nb 0 0],[.buf 5 false []])
 |false=>F1 nb zs
theorem W6{zs:List (Value×Nat)}(h:XgW zs=true):∃a,zs=[(.pointer none,a),(.slice none 0 0,1)]:=by
 unfold XgW at h
 split at h
 ·exact⟨_,rfl⟩
 ·cases h
structure Fresh (c:Ctx) (E:Env) (nb:Nat) (new:List Root):Prop where
 m:c.m≤nb
 rt:∀(k:Nat) R,new[k]? =some R→E.rt (nb+k)=some R
 np:∀k,k<new.length→¬E.pres (nb+k)
section
variable {P:Program} {c:Ctx} {E:Env}
theorem Quiet.nil(hM:Mem c E){r s:Nat}(hr:E.rt r=some (.row s false []))(hp:¬E.pres r)(hm:c.m≤r):Quiet c r 1 E (E.withNil r) where
 mem:=hM.withNil hr hp hm
 step:=Step.withNil hp
 rt:=rfl
 pres:=fun x=>⟨fun h=>h.elim .inl (fun h=>.inr (by omega)),fun h=>h.elim .inl (fun h=>.inr (by omega))⟩
 S:=fun _ h=>.inl h
 size:=Nat.le_refl _
 old:=fun _ _=>rfl
theorem Quiet.nilB(hM:Mem c E){r:Nat}{e:TypeId}{fz:Bool}(hr:E.rt r=some (.buf e fz []))(hp:¬E.pres r)(hm:c.m≤r):Quiet c r 1 E (E.withNil r) where
 mem:=hM.withNilB hr hp hm
 step:=Step.withNil hp
 rt:=rfl
 pres:=fun x=>⟨fun h=>h.elim .inl (fun h=>.inr (by omega)),fun h=>h.elim .inl (fun h=>.inr (by omega))⟩
 S:=fun _ h=>.inl h
 size:=Nat.le_refl _
 old:=fun _ _=>rfl
theorem Quiet.blk(hM:Mem c E){r:Nat}{R0:Root}{w:World}{o:Obj}(hr:E.rt r=some R0)(hp:¬E.pres r)(hm:c.m≤r)(g:Grow E.w w o)
  (hR0:RootRel (E.withBlk r w) r R0):Quiet c r 1 E (E.withBlk r w) where
 mem:=hM.withBlk hr hp hm g hR0
 step:=Step.withBlk hM hp g
 rt:=rfl
 pres:=fun x=>⟨fun h=>h.elim .inl (fun h=>.inr (by omega)),fun h=>h.elim .inl (fun h=>.inr (by omega))⟩
 S:=fun _ h=>.inl h
 size:=by show _≤w.heap.size;rw[g.size];omega
 old:=fun b hb=>g.old hb
theorem Qa:∀(zs:List (Value×Nat)) (nb:Nat),(F1 nb zs).1.length=zs.length
 |[],_=>rfl
 |(v,s)::rest,nb=>by
  unfold F1
  split
  ·rename_i h;cases h
  ·rename_i h;cases h;simp[Qa rest]
  ·rename_i h;cases h;simp[Qa rest]
theorem Ma:∀(zs:List (Value×Nat)) (nb:Nat) (E:Env),Mem c E→Fresh c E nb (F1 nb zs).2→(∀p∈zs,p.1.oneCell'=true)→
  ∃E',Quiet c nb (F1 nb zs).2.length E E'∧E'.w=E.w∧E'.S=E.S∧(∀(j:Nat) y,(F1 nb zs).1[j]? =some y→∃p,zs[j]? =some p∧RelAV E' y p.1)
 |[],nb,E,hM,hF,h1=>⟨E,Quiet.refl hM nb,rfl,rfl,fun j y hy=>by simp[F1]at hy⟩
 |(v,s)::rest,nb,E,hM,hF,h1=>by
  have hcase:(v= .slice none 0 0)∨(F1 nb ((v,s)::rest)=(.d (.sc v)::(F1 nb rest).1,(F1 nb rest).2)):=by
   by_cases hv:v= .slice none 0 0
   ·exact .inl hv
   ·right
    rw[F1]
    intro h
    exact hv h
  rcases hcase with rfl|hz
  ·have e:F1 nb ((.slice none 0 0,s)::rest)=(.ref nb 0 0::(F1 (nb+1) rest).1,.row s false []::(F1 (nb+1) rest).2):=rfl
   rw[e]at hF⊢
   have hr:E.rt nb=some (.row s false []):=by simpa using hF.rt 0 _ rfl
   have hp:¬E.pres nb:=by simpa using hF.np 0 (by simp)
   have q1:=Quiet.nil hM hr hp hF.m
   have hF':Fresh c (E.withNil nb) (nb+1) (F1 (nb+1) rest).2:=by
    refine⟨by have:=hF.m;omega,fun k R hk=>?_,fun k hk hp'=>?_⟩
    ·have:=hF.rt (k+1) R (by simpa using hk)
     rwa[show nb+(k+1)=nb+1+k by omega]at this
    ·rcases hp' with hp'|hp'
     ·have:=hF.np (k+1) (by simpa using hk)
      rw[show nb+(k+1)=nb+1+k by omega]at this
      exact this hp'
     ·omega
   obtain⟨E',q2,hw,hS,hrel⟩:=Ma rest (nb+1) _ q1.mem hF' (fun p hp=>h1 p (List.mem_cons_of_mem _ hp))
   refine⟨E',?_,hw,hS,?_⟩
   ·have:=q1.trans q2
    simpa[Nat.add_comm]using this
   ·intro j y hy
    cases j with
    |zero=>
     simp at hy
     subst hy
     refine⟨_,rfl,?_⟩
     exact RelAV.step q2.step (.refz nb 0 _ s none hr rfl (Or.inr rfl))
    |succ j=>
     simp at hy
     obtain⟨p,hp,hr⟩:=hrel j y hy
     exact⟨p,by simpa using hp,hr⟩
  ·rw[hz]at hF⊢
   obtain⟨E',q2,hw,hS,hrel⟩:=Ma rest nb E hM hF (fun p hp=>h1 p (List.mem_cons_of_mem _ hp))
   refine⟨E',q2,hw,hS,?_⟩
   intro j y hy
   cases j with
   |zero=>
    simp at hy
    subst hy
    exact⟨_,rfl,.d _ _ (.sc _ (h1 _ List.mem_cons_self))⟩
   |succ j=>
    simp at hy
    obtain⟨p,hp,hr⟩:=hrel j y hy
    exact⟨p,by simpa using hp,hr⟩
theorem Yg(zs:List (Value×Nat))(nb:Nat):(Jh nb zs).1.length=zs.length:=by
 unfold Jh
 cases hb:XgW zs with
 |true=>obtain⟨a,rfl⟩:=W6 hb;rfl
 |false=>exact Qa zs nb
theorem Tc(zs:List (Value×Nat))(nb:Nat)(E:Env)(hM:Mem c E)(hF:Fresh c E nb (Jh nb zs).2)(h1:∀p∈zs,p.1.oneCell'=true):
  ∃E',Quiet c nb (Jh nb zs).2.length E E'∧E'.w=E.w∧E'.S=E.S∧(∀(j:Nat) y,(Jh nb zs).1[j]? =some y→∃p,zs[j]? =some p∧RelAV E' y p.1):=by
 unfold Jh at hF⊢
 cases hb:XgW zs with
 |false=>simp only[hb]at hF⊢;exact Ma zs nb E hM hF h1
 |true=>
  simp only[hb]at hF⊢
  obtain⟨a,rfl⟩:=W6 hb
  have aa:E.rt nb=some (.buf 5 false []):=by simpa using hF.rt 0 _ rfl
  have ab:¬E.pres nb:=by simpa using hF.np 0 (by simp)
  refine⟨E.withNil nb,Quiet.nilB hM aa ab hF.m,rfl,rfl,?_⟩
  intro j y hy
  match j,hy with
  |0,hy=>simp at hy;subst hy;exact⟨_,rfl,.d _ _ (.sc _ rfl)⟩
  |1,hy=>simp at hy;subst hy;exact⟨_,rfl,.refz nb 0 (.buf 5 false []) 1 none aa rfl (.inr rfl)⟩
  |j+2,hy=>simp at hy
end
open Go
def Xif(P:Program):Nat→TypeId→List Nat
 |0,_=>[]
 |f+1,t=>
  match P.underlying t with
  |some (.slice e)=>[((P.info? e).map (·.size)).getD 0]
  |some (.struct fs)=>fs.toList.flatMap fun g=>Xif P f g.type
  |some (.array n e)=>(List.replicate n (Xif P f e)).flatten
  |_=>[0]
def Xlg:List Value→List Nat→List (Value×Nat)
 |[],_=>[]
 |v::vs,[]=>(v,0)::Xlg vs []
 |v::vs,n::ns=>(v,n)::Xlg vs ns
theorem Ua:∀(l:List Value) (ns:List Nat),(Xlg l ns).map (·.1)=l
 |[],_=>rfl
 |v::vs,[]=>by simp[Xlg,Ua vs]
 |v::vs,n::ns=>by simp[Xlg,Ua vs]
def Kd(P:Program)(t:TypeId):Option (List (Value×Nat)):=
 (P.info? t).bind fun i=>i.zero.bind fun z=>if z.cells.all (·.oneCell')then some (Xlg z.cells.toList (Xif P 8 t))else none
def AV.leaves:AV→Option (List AV)
 | .agg l=>some l
 | .tup _=>none
 | .junk=>none
 |x=>some [x]
section
variable {P:Program} {c:Ctx} {E:Env}
theorem Fh{w:World}{t:TypeId}{zs:List (Value×Nat)}(h:Kd P t=some zs):
  ∃z,(zeroValue t).run P w= .ok z w∧z.cells.toList=zs.map (·.1)∧(∀p∈zs,p.1.oneCell'=true)∧∃i,P.info? t=some i∧i.zero=some z:=by
 unfold Kd at h
 obtain⟨i,hi,h⟩:=Option.bind_eq_some_iff.1 h
 obtain⟨z,hz,h⟩:=Option.bind_eq_some_iff.1 h
 split at h
 ·rename_i hall
  obtain rfl:=Option.some.inj h
  refine⟨z,by simp[zeroValue,typeInfo,hi,hz],(Ua _ _).symm,?_,i,hi,hz⟩
  intro p hp
  have h1:p.1∈z.cells.toList:=by
   have:=List.mem_map_of_mem (f:=Prod.fst) hp
   rwa[Ua]at this
  rw[Array.all_eq_true']at hall
  exact hall _ (by simpa using h1)
 ·cases h
theorem Jv{x:AV}{v:Value}{l:List AV}(hx:RelAV E x v)(h:x.leaves=some l):
  v.cells.size=l.length∧∀(j:Nat) y,l[j]? =some y→∃u,v.cells[j]? =some u∧u.oneCell'=true∧RelAV E y u:=by
 have one:∀{x:AV} {v:Value},RelAV E x v→v.oneCell'=true→v.cells= #[v]→x.leaves=some [x]→l=[x]→
   v.cells.size=l.length∧∀(j:Nat) y,l[j]? =some y→∃u,v.cells[j]? =some u∧u.oneCell'=true∧RelAV E y u:=by
  intro x v hx h1 hc _ hl
  subst hl
  refine⟨by simp[hc],?_⟩
  intro j y hy
  cases j with
  |zero=>simp at hy;subst hy;exact⟨v,by simp[hc],h1,hx⟩
  |succ j=>simp at hy
 cases hx with
 |agg l' us hs hr ho=>
  simp only[AV.leaves,Option.some.injEq]at h
  subst h
  refine⟨hs,?_⟩
  intro j y hy
  have hj:j<us.size:=by rw[hs];exact(List.getElem?_eq_some_iff.1 hy).1
  refine⟨us[j],by simp[Value.cells,hj],ho _ (Array.getElem_mem _),?_⟩
  have:=hr j y hy
  simpa[Array.getD,hj]using this
 |tup=>simp[AV.leaves]at h
 |junk=>simp[AV.leaves]at h
 |d x v h'=>
  have h1:=h'.one
  have hc:v.cells= #[v]:=by cases v<;>first|rfl|simp[Value.oneCell']at h1
  exact one (.d _ _ h') h1 hc rfl (by simpa[AV.leaves]using h.symm)
 |ref r off len R sz b cap t n h1 hk h2 h3 h4 h5 h6=>exact one (.ref r off len R sz b cap t n h1 hk h2 h3 h4 h5 h6) rfl rfl rfl (by simpa[AV.leaves]using h.symm)
 |refz r off R sz a h1 hk h2=>exact one (.refz r off R sz a h1 hk h2) rfl rfl rfl (by simpa[AV.leaves]using h.symm)
 |ptr r i j R b h1 h2 h3=>exact one (.ptr r i j R b h1 h2 h3) (XdL _ _ _) (by cases R<;>rfl) rfl (by simpa[AV.leaves]using h.symm)
 |rptr cs b o us hS hu hr=>exact one (.rptr cs b o us hS hu hr) rfl rfl rfl (by simpa[AV.leaves]using h.symm)
 |anyb p b hb=>exact one (.anyb p b hb) rfl rfl rfl (by simpa[AV.leaves]using h.symm)
 |clo f caps us hs hr=>exact one (.clo f caps us hs hr) rfl rfl rfl (by simpa[AV.leaves]using h.symm)
 |dref r off len v h1 ho=>
  have hc:v.cells= #[v]:=by cases v<;>first|rfl|simp[Value.oneCell']at ho
  exact one (.dref r off len v h1 ho) ho hc rfl (by simpa[AV.leaves]using h.symm)
 |dptr r i j v h1 ho=>
  have hc:v.cells= #[v]:=by cases v<;>first|rfl|simp[Value.oneCell']at ho
  exact one (.dptr r i j v h1 ho) ho hc rfl (by simpa[AV.leaves]using h.symm)
end
open Go
abbrev XeX:=AV×List Root
def Pv(nb:Nat)(t:TypeId)(zs:List (Value×Nat)):XeX:=
 (.ptr (nb+(Jh nb zs).2.length) 0 0,(Jh nb zs).2++[.box t (Jh nb zs).1])
def Xjl(nb:Nat)(t:TypeId)(x:AV):Option XeX:=x.leaves.map fun l=>(.ptr nb 0 0,[.box t l])
def Yields1(c:Ctx)(P:Program)(E:Env)(nb:Nat)(r:XeX)(s:Sem Value):Prop:=
 ∃v E',s.run P E.w= .ok v E'.w∧Quiet c nb r.2.length E E'∧RelAV E' r.1 v
theorem Gx(n:Nat):I1 n (0,0):=fun o _ h=>by omega
section
variable {P:Program} {c:Ctx} {E:Env}
theorem Yields1.same(hM:Mem c E){nb:Nat}{av:AV}{s:Sem Value}(h:∃v,s.run P E.w= .ok v E.w∧RelAV E av v):Yields1 c P E nb (av,[]) s:=
 let⟨v,h1,h2⟩:=h
 ⟨v,E,h1,Quiet.refl hM nb,h2⟩
theorem Fresh.left{nb:Nat}{l l':List Root}(h:Fresh c E nb (l++l')):Fresh c E nb l:=
 ⟨h.m,fun k R hk=>h.rt k R (by rw[List.getElem?_append_left (List.getElem?_eq_some_iff.1 hk).1];exact hk),fun k hk=>h.np k (by simp;omega)⟩
theorem Fresh.right{nb n:Nat}{E':Env}{l l':List Root}(h:Fresh c E nb (l++l'))(hq:Quiet c nb l.length E E')(hn:n=nb+l.length):Fresh c E' n l':=by
 subst hn
 refine⟨by have:=h.m;omega,fun k R hk=>?_,fun k hk hp=>?_⟩
 ·rw[hq.rt]
  have:=h.rt (l.length+k) R (by rw[List.getElem?_append_right (by omega)];simpa using hk)
  rwa[show nb+(l.length+k)=nb+l.length+k by omega]at this
 ·rw[hq.pres]at hp
  rcases hp with hp|hp
  ·exact h.np (l.length+k) (by simp;omega) (by rwa[show nb+(l.length+k)=nb+l.length+k by omega])
  ·omega
theorem XlO(hM:Mem c E){r:Nat}{l:List AV}{t:TypeId}{cs:Array Value}(hr:E.rt r=some (.box t l))(hp:¬E.pres r)(hm:c.m≤r)(hs:cs.size=l.length)
  (hc:∀(j:Nat) y,l[j]? =some y→∃u,cs[j]? =some u∧u.oneCell'=true∧RelAV E y u):
  Quiet c r 1 E (E.withBlk r (E.w.alloc (.cells cs t)))∧RelAV (E.withBlk r (E.w.alloc (.cells cs t))) (.ptr r 0 0) (.pointer (some ⟨E.w.heap.size,0,none⟩)):=by
 have g:=Grow.alloc E.w (.cells cs t)
 have st:Step E (E.withBlk r (E.w.alloc (.cells cs t))):=Step.withBlk hM hp g
 have hroot:RootRel (E.withBlk r (E.w.alloc (.cells cs t))) r (.box t l):=by
  refine⟨E.w.heap.size,cs,(0,0),Ea _ _ _,g.new,hs,?_,?_,Gx _⟩
  ·intro j y hy
   obtain⟨u,hu,ho,hrel⟩:=hc j y hy
   exact⟨u,hu,ho,hrel.step st⟩
  ·intro h
   have:=hM.slt _ h
   omega
 refine⟨Quiet.blk hM hr hp hm g hroot,?_⟩
 have:=RelAV.ptr (E:=E.withBlk r (E.w.alloc (.cells cs t))) r 0 0 (.box t l) E.w.heap.size hr (Or.inr rfl) (Ea _ _ _)
 simpa[Root.kind,Kind.sz]using this
theorem XdA(hM:Mem c E){nb:Nat}{x:AV}{v:Value}{t:TypeId}{r:XeX}(hx:RelAV E x v)(h:Xjl nb t x=some r)(hF:Fresh c E nb r.2):
  Yields1 c P E nb r (Instr.box t v):=by
 unfold Xjl at h
 obtain⟨l,hl,rfl⟩:=Option.map_eq_some_iff.1 h
 obtain⟨hs,hc⟩:=Jv hx hl
 obtain⟨hq,hrel⟩:=XlO hM (r:=nb) (l:=l) (t:=t) (cs:=v.cells) (by simpa using hF.rt 0 _ rfl) (by simpa using hF.np 0 (by simp)) hF.m hs hc
 exact⟨_,_,by simp[Instr.box,newVar,newRow,Env.withBlk],hq,hrel⟩
theorem Xaq(hM:Mem c E){nb:Nat}{t:TypeId}{zs:List (Value×Nat)}(hz:Kd P t=some zs)(hF:Fresh c E nb (Pv nb t zs).2):
  Yields1 c P E nb (Pv nb t zs) (Instr.alloc t true (.tuple #[])):=by
 obtain⟨z,hrun,hcells,h1,_⟩:=Fh (w:=E.w) hz
 obtain⟨E1,q1,hw,hS,hrel⟩:=Tc zs nb E hM hF.left h1
 have hF1:=Fresh.right hF q1 rfl
 have hsz:z.cells.size=(Jh nb zs).1.length:=by rw[Yg,←Array.length_toList,hcells];simp
 obtain⟨q2,hrel2⟩:=XlO q1.mem (r:=nb+(Jh nb zs).2.length) (l:=(Jh nb zs).1) (t:=t) (cs:=z.cells) (by simpa using hF1.rt 0 _ rfl) (by simpa using hF1.np 0 (by simp)) hF1.m hsz (by
  intro j y hy
  obtain⟨p,hp,hr⟩:=hrel j y hy
  refine⟨p.1,?_,h1 p (List.mem_of_getElem? hp),hr⟩
  rw[←Array.getElem?_toList,hcells,List.getElem?_map,hp];rfl)
 refine⟨_,_,?_,?_,hrel2⟩
 ·simp[Instr.alloc,hrun,newVar,newRow,Env.withBlk,hw]
 ·have:=q1.trans q2
  simpa[Pv]using this
def Na:List (Value×Nat)→List D
 |[]=>[]
 |(.slice none 0 0,s)::rest=>.row s []::Na rest
 |(v,_)::rest=>.sc v::Na rest
theorem Qo:∀zs,(Na zs).length=zs.length
 |[]=>rfl
 |(v,s)::rest=>by
  unfold Na
  split
  ·rename_i h;cases h
  ·rename_i h;cases h;simp[Qo rest]
  ·rename_i h;cases h;simp[Qo rest]
theorem Uz(w:World)(S:Nat→Prop):∀(zs:List (Value×Nat)),(∀p∈zs,p.1.oneCell'=true)→∀(j:Nat) y,(Na zs)[j]? =some y→∃p,zs[j]? =some p∧RelD w S y p.1
 |[],_,j,y,hy=>by simp[Na]at hy
 |(v,s)::rest,h1,j,y,hy=>by
  have ih:=Uz w S rest (fun p hp=>h1 p (List.mem_cons_of_mem _ hp))
  have hcase:(v= .slice none 0 0)∨(Na ((v,s)::rest)= .sc v::Na rest):=by
   by_cases hv:v= .slice none 0 0
   ·exact .inl hv
   ·right
    rw[Na]
    intro h
    exact hv h
  rcases hcase with rfl|hz
  ·have e:Na ((.slice none 0 0,s)::rest)= .row s []::Na rest:=rfl
   rw[e]at hy
   cases j with
   |zero=>simp at hy;subst hy;exact⟨_,rfl,.nil _ _ _⟩
   |succ j=>simp at hy;obtain⟨p,hp,hr⟩:=ih j y hy;exact⟨p,by simpa using hp,hr⟩
  ·rw[hz]at hy
   cases j with
   |zero=>simp at hy;subst hy;exact⟨_,rfl,.sc _ (h1 _ List.mem_cons_self)⟩
   |succ j=>simp at hy;obtain⟨p,hp,hr⟩:=ih j y hy;exact⟨p,by simpa using hp,hr⟩
def ezT(P:Program)(t:TypeId):Option (List D×Nat×Nat):=
 match P.underlying t with
 |some (.slice e)=>(Kd P e).bind fun zs=>(P.info? e).bind fun i=>if i.size=zs.length then some (Na zs,i.size,i.bytes)else none
 |_=>none
def Xbj(nb:Nat)(z:List D×Nat×Nat)(n m:Int):Option XeX:=
 if 0≤n∧n≤m∧z.2.2*m≤2^48∧m<2^63 then some (.ref nb 0 n.toNat,[.row z.2.1 false (List.replicate n.toNat z.1)])else none
theorem Xgi(hM:Mem c E){r sz:Nat}{xs:List (List D)}{t:TypeId}{cs:Array Value}{w':World}{fr:Nat×Nat}(hr:E.rt r=some (.row sz false xs))(hp:¬E.pres r)(hm:c.m≤r)
  (g:Grow E.w w' (.cells cs t fr))(hfr:I1 cs.size fr∧Xaw sz fr)(hl:∀(i:Nat) x,xs[i]? =some x→x.length=sz)(hs:xs.length*sz≤cs.size)
  (hc:∀(i:Nat) x (j:Nat) y,xs[i]? =some x→x[j]? =some y→∃u,cs[i*sz+j]? =some u∧RelD E.w E.S y u):
  Quiet c r 1 E (E.withBlk r w')∧∀n cap,n≤cap→cap*sz≤cs.size→RelAV (E.withBlk r w') (.ref r 0 n) (.slice (some ⟨E.w.heap.size,0,none⟩) n cap):=by
 have st:Step E (E.withBlk r w'):=Step.withBlk hM hp g
 have hroot:RootRel (E.withBlk r w') r (.row sz false xs):=by
  refine .inr ⟨E.w.heap.size,cs,t,fr,Ea _ _ _,g.new,hl,hs,?_,.inr ⟨rfl,?_,hfr⟩⟩
  ·intro i x j y hx hy
   obtain⟨u,hu,hrel⟩:=hc i x j y hx hy
   exact⟨u,hu,hrel.step st.S st.heap⟩
  ·intro h
   have:=hM.slt _ h
   omega
 refine⟨Quiet.blk hM hr hp hm g hroot,fun n cap hn hcap=>?_⟩
 have hsh:w'.shape? E.w.heap.size=some (t,cs.size):=by unfold World.shape?;rw[g.new]
 have:=RelAV.ref (E:=E.withBlk r w') r 0 n (.row sz false xs) sz E.w.heap.size cap t cs.size hr rfl (Or.inr rfl) (Ea _ _ _) hsh hn (by simpa using hcap)
 simpa using this
theorem H8(z:Array Value)(n k i j:Nat)(hk:k=n*z.size)(hi:i<n)(hj:j<z.size):
  ((Array.range k).map (z[·% z.size]!))[i*z.size+j]? =some (z[j]'hj):=by
 have hlt:i*z.size+j<k:=by
  rw[hk]
  calc i*z.size+j<i*z.size+z.size:=by omega
   _=(i+1)*z.size:=by rw[Nat.succ_mul]
   _≤n*z.size:=Nat.mul_le_mul_right _ hi
 have hmod:(i*z.size+j)% z.size=j:=by
  rw[Nat.mul_comm,Nat.mul_add_mod]
  exact Nat.mod_eq_of_lt hj
 simp[hlt,hmod,hj]
theorem Xb8(hM:Mem c E){nb:Nat}{t:TypeId}{z:List D×Nat×Nat}{kn km:IntKind}{n m:Int}{r:XeX}(hz:ezT P t=some z)(h:Xbj nb z n m=some r)(hF:Fresh c E nb r.2):
  Yields1 c P E nb r (Instr.makeSlice t (.int kn n) (.int km m)):=by
 unfold Xbj at h
 split at h
 ·rename_i hc
  obtain⟨h0,h1,h2,h3⟩:=hc
  obtain rfl:=Option.some.inj h
  unfold ezT at hz
  split at hz
  ·rename_i e hu
   obtain⟨zs,hzs,hz⟩:=Option.bind_eq_some_iff.1 hz
   obtain⟨i,hi,hz⟩:=Option.bind_eq_some_iff.1 hz
   split at hz
   ·rename_i hsz
    obtain rfl:=Option.some.inj hz
    dsimp only at h2 hF⊢
    obtain⟨zv,hrun,hcells,hone,_⟩:=Fh (w:=E.w) hzs
    have hzsz:zv.cells.size=i.size:=by rw[←Array.length_toList,hcells,hsz];simp
    have wn:IntKind.i64.wrap n=n:=IntWalk.i64_in _ (by omega)
    have wm:IntKind.i64.wrap m=m:=IntWalk.i64_in _ (by omega)
    have hzero:(if m.toNat*i.size=0 then(pure #[]:Sem (Array Value))else do pure (←zeroValue e).cells).run P E.w= .ok (if m.toNat*i.size=0 then #[]else zv.cells) E.w:=by
     split<;>simp[hrun]
    generalize hcs:(Array.range (m.toNat*i.size)).map ((if m.toNat*i.size=0 then #[]else zv.cells)[·%(if m.toNat*i.size=0 then #[]else zv.cells).size]!)=cs at*
    have hcsz:cs.size=m.toNat*i.size:=by rw[←hcs];simp
    have hcell:∀(a b:Nat),a<m.toNat→(hb:b<zv.cells.size)→cs[a*i.size+b]? =some (zv.cells[b]'hb):=by
     intro a b ha hb
     have hne:m.toNat*i.size≠0:=Nat.mul_ne_zero (by omega) (by omega)
     rw[←hcs]
     simp only[hne,if_false]
     rw[←hzsz]
     exact H8 zv.cells m.toNat _ a b rfl ha hb
    have hmn:n.toNat≤m.toNat:=by omega
    have hbytes:¬((i.bytes:Int)*m>2^48):=by omega
    have ab:(i.bytes:Int)*n≤2^48:=by
     have:(i.bytes:Int)*n≤i.bytes*m:=Int.mul_le_mul_of_nonneg_left h1 (by omega)
     omega
    obtain⟨q,hrel⟩:=Xgi hM (r:=nb) (sz:=i.size) (xs:=List.replicate n.toNat (Na zs)) (t:=e) (cs:=cs) (fr:=(0,0)) (w':=E.w.alloc (.cells cs e)) (by simpa using hF.rt 0 _ rfl)
     (by simpa using hF.np 0 (by simp)) hF.m (Grow.alloc _ _) ⟨Gx _,.inr rfl⟩
     (by
      intro a x hx
      have:=List.mem_of_getElem? hx
      rw[List.eq_of_mem_replicate this,Qo,hsz])
     (by simp only[List.length_replicate,hcsz];exact Nat.mul_le_mul_right _ hmn)
     (by
      intro a x b y hx hy
      have ha:a<n.toNat:=by have:=(List.getElem?_eq_some_iff.1 hx).1;simpa using this
      have hxz:x=Na zs:=List.eq_of_mem_replicate (List.mem_of_getElem? hx)
      subst hxz
      obtain⟨p,hp,hr⟩:=Uz E.w E.S zs hone b y hy
      have hb:b<zv.cells.size:=by
       rw[hzsz,hsz];exact(List.getElem?_eq_some_iff.1 hp).1
      refine⟨zv.cells[b],hcell a b (by omega) hb,?_⟩
      have:zv.cells.toList[b]? =some p.1:=by rw[hcells,List.getElem?_map,hp];rfl
      rw[Array.getElem?_toList,Array.getElem?_eq_getElem hb]at this
      rw[Option.some.inj this]
      exact hr)
    refine⟨.slice (some ⟨E.w.heap.size,0,none⟩) n.toNat m.toNat,_,?_,q,hrel _ _ hmn (by rw[hcsz];exact Nat.le_refl _)⟩
    have hs:szT P e=some i.size:=by simp[szT,hi]
    have hneg:¬n<0:=by omega
    have hneg2:¬m<0:=by omega
    have hnm:¬m<n:=by omega
    simp only[Instr.makeSlice,Sem.run_bind,run_underlying hu,Result.andThen_ok,asInt,asIntOf,Sem.run_pure,typeInfo,run_program,hi,wn,wm,run_askRoom,Cz hs,hzero,newRow]
    rw[if_neg (by simp;omega)]
    have hw:(E.withBlk nb (E.w.alloc (.cells cs e))).w=E.w.alloc (.cells cs e):=rfl
    rw[hw]
    by_cases aa:m.toNat*i.size=0
    ·simp only[aa,if_true]at hcs
     simp only[Sem.run_bind,run_askRoom,Result.andThen_ok,Cz hs,aa,if_true,Sem.run_pure,run_newObj,hcs]
     simp
    ·simp only[aa,if_false]at hcs
     simp only[Sem.run_bind,run_askRoom,Result.andThen_ok,Cz hs,aa,if_false,Sem.run_pure,run_newObj,hrun,hcs]
     simp
   ·cases hz
  ·cases hz
 ·cases h
end
open Go
def Vw(P:Program)(t:TypeId):Option (List (Nat×Nat)):=
 match P.underlying t with
 |some (.struct fs)=>fs.toList.mapM fun g=>(P.info? g.type).map fun i=>(g.offset,i.size)
 |_=>none
def XaO{α:Type}(pl:Nat→Option (Nat×Nat))(l:List α):List (Nat×List α)→Option (List α)
 |[]=>some l
 |(i,ys)::rest=>
  match pl i with
  |none=>none
  |some (off,size)=>if ys.length=size∧off+size≤l.length then XaO pl (l.take off++(ys++l.drop (off+size))) rest else none
def Rw{α:Type}(R:α→Value→Prop)(l:List α)(cs:Array Value):Prop:=
 cs.size=l.length∧∀(j:Nat) y,l[j]? =some y→∃u,cs[j]? =some u∧u.oneCell'=true∧R y u
theorem Vl(off:Nat):∀(l:List Value) (k:Nat) (cs:Array Value) (i:Nat),off+k+l.length≤cs.size→
  ((l.zipIdx k).foldl (fun cs (p:Value×Nat)=>cs.setIfInBounds (off+p.2) p.1) cs).size=cs.size∧
  ((l.zipIdx k).foldl (fun cs (p:Value×Nat)=>cs.setIfInBounds (off+p.2) p.1) cs)[i]? =if off+k≤i∧i<off+k+l.length then l[i - (off+k)]? else cs[i]?
 |[],k,cs,i,h=>by simp;intro h1 h2;omega
 |v::l,k,cs,i,h=>by
  have ih:=Vl off l (k+1) (cs.setIfInBounds (off+k) v) i (by simp at h⊢;omega)
  simp only[List.zipIdx_cons,List.foldl_cons]
  refine⟨by rw[ih.1];simp,?_⟩
  rw[ih.2]
  by_cases h1:off+(k+1)≤i∧i<off+(k+1)+l.length
  ·rw[if_pos h1,if_pos (by simp;omega)]
   rw[show i - (off+k)=(i - (off+(k+1)))+1 by omega]
   simp
  ·rw[if_neg h1]
   by_cases h2:i=off+k
   ·subst h2
    rw[if_pos (by simp)]
    rw[Array.getElem?_setIfInBounds_self_of_lt (by simp at h;omega)]
    simp
   ·rw[if_neg (by simp at h1⊢;omega)]
    rw[Array.getElem?_setIfInBounds_ne (by omega)]
theorem Rw.fill1{α:Type}{R:α→Value→Prop}{l ys:List α}{cs:Array Value}{v:Value}{off size:Nat}(h:Rw R l cs)(hv:Rw R ys v.cells)(hs:ys.length=size)(hle:off+size≤l.length):
  Rw R (l.take off++(ys++l.drop (off+size))) (v.cells.zipIdx.foldl (fun cs (c,j)=>cs.setIfInBounds (off+j) c) cs):=by
 have hvs:v.cells.size=size:=by rw[hv.1,hs]
 have key:∀i,(v.cells.zipIdx.foldl (fun cs (p:Value×Nat)=>cs.setIfInBounds (off+p.2) p.1) cs).size=cs.size∧
   (v.cells.zipIdx.foldl (fun cs (p:Value×Nat)=>cs.setIfInBounds (off+p.2) p.1) cs)[i]? =if off≤i∧i<off+size then v.cells[i - off]? else cs[i]? :=by
  intro i
  have:=Vl off v.cells.toList 0 cs i (by simp;rw[hvs,h.1];exact hle)
  rw[←Array.foldl_toList,Array.toList_zipIdx]
  simpa[hvs]using this
 show(v.cells.zipIdx.foldl (fun cs (p:Value×Nat)=>cs.setIfInBounds (off+p.2) p.1) cs).size=_∧_
 refine⟨by rw[(key 0).1,h.1];simp;omega,?_⟩
 intro j y hy
 show∃u,(v.cells.zipIdx.foldl (fun cs (p:Value×Nat)=>cs.setIfInBounds (off+p.2) p.1) cs)[j]? =some u∧_
 rw[(key j).2]
 by_cases h1:j<off
 ·rw[if_neg (by omega)]
  rw[List.getElem?_append_left (by simp;omega),List.getElem?_take,if_pos h1]at hy
  exact h.2 j y hy
 ·rw[List.getElem?_append_right (by simp;omega)]at hy
  have e1:(l.take off).length=off:=by simp;omega
  rw[e1]at hy
  by_cases h2:j<off+size
  ·rw[if_pos ⟨by omega,h2⟩]
   rw[List.getElem?_append_left (by omega)]at hy
   exact hv.2 _ y hy
  ·rw[if_neg (by omega)]
   rw[List.getElem?_append_right (by omega),List.getElem?_drop,hs]at hy
   rw[show off+size+(j - off - size)=j by omega]at hy
   exact h.2 j y hy
theorem Tg{α:Type}{R:α→Value→Prop}(pl:Nat→Option (Nat×Nat)):∀(parts:List (Nat×List α)) (vs:List (Nat×Value)) (l l':List α) (cs:Array Value),Rw R l cs→
  parts.length=vs.length→(∀(k:Nat) p,parts[k]? =some p→∃v,vs[k]? =some (p.1,v)∧Rw R p.2 v.cells)→XaO pl l parts=some l'→
  ∃cs',Instr.fill pl cs vs=some cs'∧Rw R l' cs'
 |[],[],l,l',cs,h,_,_,he=>by
  simp only[XaO,Option.some.injEq]at he
  subst he
  exact⟨cs,rfl,h⟩
 |(i,ys)::parts,(i',v)::vs,l,l',cs,h,hlen,hp,he=>by
  obtain⟨v',hv,ht⟩:=hp 0 (i,ys) rfl
  simp at hv
  obtain⟨rfl,rfl⟩:=hv
  simp only[XaO]at he
  split at he
  ·cases he
  ·rename_i off size hpl
   split at he
   ·rename_i hc
    obtain⟨hs,hle⟩:=hc
    have h1:=h.fill1 ht hs hle
    obtain⟨cs',hf,ht'⟩:=Tg pl parts vs _ l' _ h1 (by simpa using hlen) (fun k p hk=>by
     obtain⟨v,hv,ht⟩:=hp (k+1) p (by simpa using hk)
     exact⟨v,by simpa using hv,ht⟩) he
    refine⟨cs',?_,ht'⟩
    have hvs:v.cells.size=size:=by rw[ht.1];exact hs
    have hle':¬(off+v.cells.size>cs.size):=by rw[hvs,h.1];omega
    simp only[Instr.fill,hpl,hvs]
    rw[if_neg (by simp;rw[←hvs];rw[hvs,h.1];omega)]
    exact hf
   ·cases he
 |[],_::_,_,_,_,_,hlen,_,_=>by simp at hlen
 |_::_,[],_,_,_,_,hlen,_,_=>by simp at hlen
section
variable {P:Program} {c:Ctx} {E:Env}
theorem Xf{w:World}:∀(fs:List Field) (pl:List (Nat×Nat)),(fs.mapM fun g=>(P.info? g.type).map fun i=>(g.offset,i.size))=some pl→
  (fs.mapM fun f=>do pure (f.offset,←sizeOf f.type):Sem (List (Nat×Nat))).run P w= .ok pl w
 |[],pl,h=>by simp at h;subst h;simp
 |f::fs,pl,h=>by
  simp only[List.mapM_cons]at h
  obtain⟨a,ha,h⟩:=Option.bind_eq_some_iff.1 h
  obtain⟨b,hb,h⟩:=Option.bind_eq_some_iff.1 h
  obtain⟨i,hi,rfl⟩:=Option.map_eq_some_iff.1 ha
  obtain rfl:=Option.some.inj h
  have ih:=Xf (w:=w) fs b hb
  have hs:szT P f.type=some i.size:=by simp[szT,hi]
  simp only[bind_pure_comp]at ih⊢
  simp[List.mapM_cons,Cz hs,ih]
def Zq(nb:Nat)(zs:List (Value×Nat))(pl:List (Nat×Nat))(parts:List (Nat×List AV)):Option XeX:=
 (XaO (pl[·]?) (Jh nb zs).1 parts).map fun l=>(.agg l,(Jh nb zs).2)
theorem Zs(hM:Mem c E){nb:Nat}{t:TypeId}{zs:List (Value×Nat)}{pl:List (Nat×Nat)}{parts:List (Nat×AV)}{ps:List (Nat×List AV)}{vs:Array (Nat×Value)}{r:XeX}(hz:Kd P t=some zs)(hpl:Vw P t=some pl)
  (hlen:parts.length=vs.size)(hps:ps.length=parts.length)(hrel:∀(k:Nat) p,parts[k]? =some p→∃v ls,vs[k]? =some (p.1,v)∧RelAV E p.2 v∧p.2.leaves=some ls∧ps[k]? =some (p.1,ls))
  (h:Zq nb zs pl ps=some r)(hF:Fresh c E nb r.2):Yields1 c P E nb r (Instr.build t vs):=by
 unfold Zq at h
 obtain⟨l,hl,rfl⟩:=Option.map_eq_some_iff.1 h
 obtain⟨z,hrun,hcells,h1,_⟩:=Fh (w:=E.w) hz
 obtain⟨E1,q1,hw,hS,hzr⟩:=Tc zs nb E hM hF h1
 have ht:Rw (RelAV E1) (Jh nb zs).1 z.cells:=by
  refine⟨by rw[Yg,←Array.length_toList,hcells];simp,?_⟩
  intro j y hy
  obtain⟨p,hp,hr⟩:=hzr j y hy
  refine⟨p.1,?_,h1 p (List.mem_of_getElem? hp),hr⟩
  rw[←Array.getElem?_toList,hcells,List.getElem?_map,hp];rfl
 obtain⟨cs,hf,ht'⟩:=Tg (R:=RelAV E1) (pl[·]?) ps vs.toList (Jh nb zs).1 l z.cells ht (by simp;omega) (by
  intro k p hk
  have hkl:k<parts.length:=by rw[←hps];exact(List.getElem?_eq_some_iff.1 hk).1
  obtain⟨v,ls,hv,hr,hls,hpk⟩:=hrel k parts[k] (by simp[hkl])
  rw[hpk]at hk
  obtain rfl:=Option.some.inj hk
  refine⟨v,by simpa using hv,?_⟩
  exact Jv (hr.step q1.step) hls) hl
 unfold Vw at hpl
 split at hpl
 ·rename_i fs hu
  have hpr:=Xf (P:=P) (w:=E.w) fs.toList pl hpl
  refine⟨.agg cs,E1,?_,q1,?_⟩
  ·rw[hw]
   have hpr':(fs.mapM fun f=>do pure (f.offset,←sizeOf f.type):Sem (Array (Nat×Nat))).run P E.w= .ok pl.toArray E.w:=by
    rw[Array.mapM_eq_mapM_toList]
    simp only[Sem.run_map,hpr,Result.andThen_ok]
   simp only[Instr.build,Sem.run_bind,hrun,Result.andThen_ok,run_underlying hu,hpr']
   have hf':Instr.fill (fun x=>pl.toArray[x]?) z.cells vs.toList=some cs:=by simpa using hf
   simp[hf]
  ·refine .agg _ _ ht'.1 (fun j y hy=>?_) (fun u hu=>?_)
   ·obtain⟨u,hu,_,hr⟩:=ht'.2 j y hy
    have hj:=(Array.getElem?_eq_some_iff.1 hu)
    obtain⟨hj,rfl⟩:=hj
    simpa[Array.getD,hj]using hr
   ·obtain⟨j,hj,rfl⟩:=Array.mem_iff_getElem.1 hu
    have hjl:j<l.length:=by rw[←ht'.1];exact hj
    obtain⟨u,hu,ho,_⟩:=ht'.2 j l[j] (by simp[hjl])
    rw[Array.getElem?_eq_getElem hj]at hu
    rw[Option.some.inj hu];exact ho
 ·cases hpl
end
open Go
def AV.toD(rt:Nat→Option Root):AV→Option D
 | .d x=>some x
 | .ref r off len=>
   match rt r with
   |some (.row sz true xs)=>if off+len≤xs.length then some (.row sz ((xs.drop off).take len))else none
   |_=>none
 |_=>none
def AV.lend(rt:Nat→Option Root):AV→Option D
 | .d x=>some x
 | .ref r off len=>
   match rt r with
   |some (.row sz _ xs)=>if off+len≤xs.length then some (.row sz ((xs.drop off).take len))else none
   |_=>none
 |_=>none
section
variable {P:Program} {c:Ctx} {E:Env}
theorem Xt(hM:Mem c E){S':Nat→Prop}{x:AV}{v:Value}{y:D}(hx:RelAV E x v)(hS:∀b,E.S b→S' b)
  (hr:∀r off len b,x= .ref r off len→E.β r=some b→S' b)(h:x.lend E.rt=some y):RelD E.w S' y v:=by
 cases hx with
 |d z v h'=>
  simp only[AV.lend,Option.some.injEq]at h
  subst h
  exact h'.step hS (fun _ _=>rfl)
 |ref r off len R sz b cap t n h1 hk h2 h3 h4 h5 h6=>
  cases R with
  |buf=>simp[AV.lend,h1]at h
  |map=>simp[AV.lend,h1]at h
  |box=>simp[Root.kind]at hk
  |dead=>simp[Root.kind]at hk
  |row sz' fz xs=>
   simp only[Root.kind,Kind.row.injEq]at hk
   subst hk
   simp only[AV.lend,h1]at h
   split at h
   ·rename_i hle
    obtain rfl:=Option.some.inj h
    rcases hM.roots r _ h2 h1 with⟨hb,_⟩|⟨b',cs,t',fr,hb,hh,hl,hs,hc,_⟩
    ·rw[h3]at hb;cases hb
    ·rw[h3]at hb
     obtain rfl:=Option.some.inj hb
     have hlen:((xs.drop off).take len).length=len:=by simp;omega
     have hin:∀(i:Nat) z,((xs.drop off).take len)[i]? =some z→xs[off+i]? =some z:=by
      intro i z hz
      rw[List.getElem?_take]at hz
      split at hz
      ·rwa[List.getElem?_drop]at hz
      ·cases hz
     have key:=RelD.row (w:=E.w) (S:=S') sz' ((xs.drop off).take len) b (off*sz') cap (fun i j=>(cs[(off+i)*sz'+j]?).getD undef) (hr r off len b rfl h3) (by omega)
      (fun i z hz=>hl _ _ (hin i z hz))
      (by
       intro i z j y hz hy
       obtain⟨u,hu,_⟩:=hc _ _ _ _ (hin i z hz) hy
       have e:off*sz'+i*sz'+j=(off+i)*sz'+j:=by rw[Nat.add_mul]
       simp[World.cell?,hh,e,hu])
      (by
       intro i z j y hz hy
       obtain⟨u,hu,hrel⟩:=hc _ _ _ _ (hin i z hz) hy
       simp only[hu,Option.getD_some]
       exact hrel.step hS (fun _ _=>rfl))
     rw[hlen]at key
     exact key
   ·cases h
 |refz r off R sz a h1 hk h2=>
  cases R with
  |buf=>simp[AV.lend,h1]at h
  |map=>simp[AV.lend,h1]at h
  |box=>simp[Root.kind]at hk
  |dead=>simp[Root.kind]at hk
  |row sz' fz xs=>
   simp only[AV.lend,h1]at h
   split at h
   ·obtain rfl:=Option.some.inj h
    simp only[List.take_zero]
    exact .nil _ _ _
   ·cases h
 |dref r off len v h1 ho=>simp[AV.lend,h1]at h
 |_=>simp[AV.lend]at h
theorem XiN{rt:Nat→Option Root}{x:AV}{y:D}(h:x.toD rt=some y):x.lend rt=some y∧∀r off len,x= .ref r off len→∃sz xs,rt r=some (.row sz true xs):=by
 cases x with
 |ref r off len=>
  simp only[AV.toD]at h
  split at h
  ·rename_i sz xs hrt
   refine⟨by simpa[AV.lend,hrt]using h,?_⟩
   intro r' off' len' he
   simp only[AV.ref.injEq]at he
   obtain⟨rfl,rfl,rfl⟩:=he
   exact⟨sz,xs,hrt⟩
  ·cases h
 |d z=>exact⟨h,fun _ _ _ he=>by cases he⟩
 |_=>simp[AV.toD]at h
theorem XgM(hM:Mem c E){x:AV}{v:Value}{y:D}(hx:RelAV E x v)(h:x.toD E.rt=some y):RelD E.w E.S y v:=by
 obtain⟨h',hf⟩:=XiN h
 have hp:∀r off len,x= .ref r off len→E.pres r:=by
  intro r off len he
  subst he
  obtain⟨sz,xs,hrt⟩:=hf r off len rfl
  cases hx with
  |ref _ _ _ _ _ _ _ _ _ _ _ h2=>exact h2
  |refz _ _ _ _ _ _ _ h2=>exact h2
  |dref _ _ _ _ h1 _=>rw[hrt]at h1;cases h1
 refine Xt hM hx (fun _ h=>h) ?_ h'
 intro r off len b he hb
 obtain⟨sz,xs,hrt⟩:=hf r off len he
 rcases hM.roots r _ (hp r off len he) hrt with⟨hb',_⟩|⟨b',cs,t',fr,hb',hh,hl,hs,hc,hfz⟩
 ·rw[hb]at hb';cases hb'
 ·rw[hb]at hb'
  obtain rfl:=Option.some.inj hb'
  rcases hfz with⟨_,hS⟩|⟨h,_⟩
  ·exact hS
  ·cases h
def Xct(rt:Nat→Option Root):List AV→Option (List D)
 |[]=>some []
 |x::l=>(x.toD rt).bind fun y=>(Xct rt l).map (y::·)
theorem XdU{rt:Nat→Option Root}:∀{l:List AV} {ys:List D},Xct rt l=some ys→ys.length=l.length∧∀(j:Nat) y,ys[j]? =some y→∃x,l[j]? =some x∧x.toD rt=some y
 |[],ys,h=>by simp[Xct]at h;subst h;simp
 |x::l,ys,h=>by
  simp only[Xct]at h
  obtain⟨y,hy,h⟩:=Option.bind_eq_some_iff.1 h
  obtain⟨zs,hz,rfl⟩:=Option.map_eq_some_iff.1 h
  obtain⟨hl,hg⟩:=XdU hz
  refine⟨by simp[hl],?_⟩
  intro j w hw
  cases j with
  |zero=>simp at hw;subst hw;exact⟨x,rfl,hy⟩
  |succ j=>simp at hw;obtain⟨x',h1,h2⟩:=hg j w hw;exact⟨x',by simpa using h1,h2⟩
theorem Sl(hM:Mem c E){l:List AV}{ys:List D}{cs:Array Value}(h:Rw (RelAV E) l cs)(hy:Xct E.rt l=some ys):Rw (RelD E.w E.S) ys cs:=by
 obtain⟨hl,hg⟩:=XdU hy
 refine⟨by rw[h.1,hl],?_⟩
 intro j y hj
 obtain⟨x,hx,hd⟩:=hg j y hj
 obtain⟨u,hu,ho,hr⟩:=h.2 j x hx
 exact⟨u,hu,ho,XgM hM hr hd⟩
def RowT(R:D→Value→Prop)(sz:Nat)(xs:List (List D))(cs:Array Value):Prop:=
 cs.size=xs.length*sz∧(∀(i:Nat) x,xs[i]? =some x→x.length=sz)∧∀(i:Nat) x (j:Nat) y,xs[i]? =some x→x[j]? =some y→∃u,cs[i*sz+j]? =some u∧u.oneCell'=true∧R y u
def Qq(xs:List (List D)):List (Nat×List D)→List (List D)
 |[]=>xs
 |(i,ds)::rest=>Qq (xs.set i ds) rest
theorem Su:∀(ps:List (Nat×List D)) (xs:List (List D)),(Qq xs ps).length=xs.length
 |[],_=>rfl
 |(i,ds)::rest,xs=>by simp[Qq,Su rest]
theorem Tl{R:D→Value→Prop}{sz:Nat}:∀(ps:List (Nat×List D)) (vs:List (Nat×Value)) (xs:List (List D)) (cs:Array Value),RowT R sz xs cs→ps.length=vs.length→
  (∀(k:Nat) p,ps[k]? =some p→p.1<xs.length∧p.2.length=sz∧∃v,vs[k]? =some (p.1,v)∧Rw R p.2 v.cells)→
  ∃cs',Instr.fill (fun i=>some (i*sz,sz)) cs vs=some cs'∧RowT R sz (Qq xs ps) cs'
 |[],[],xs,cs,h,_,_=>⟨cs,rfl,h⟩
 |(i',ds)::ps,(i,v)::vs,xs,cs,h,hlen,hp=>by
  obtain⟨hi,hds,v',hv,ht⟩:=hp 0 (i',ds) rfl
  simp at hv
  obtain⟨e1,e2⟩:=hv
  subst e1 e2
  dsimp only at hi hds ht
  have hvs:v.cells.size=sz:=by rw[ht.1,hds]
  have hmul:i*sz+sz≤cs.size:=by
   rw[h.1]
   calc i*sz+sz=(i+1)*sz:=by rw[Nat.succ_mul]
    _≤xs.length*sz:=Nat.mul_le_mul_right _ hi
  have key:∀k,(v.cells.zipIdx.foldl (fun cs (p:Value×Nat)=>cs.setIfInBounds (i*sz+p.2) p.1) cs).size=cs.size∧
    (v.cells.zipIdx.foldl (fun cs (p:Value×Nat)=>cs.setIfInBounds (i*sz+p.2) p.1) cs)[k]? =if i*sz≤k∧k<i*sz+sz then v.cells[k - i*sz]? else cs[k]? :=by
   intro k
   have:=Vl (i*sz) v.cells.toList 0 cs k (by simp;rw[hvs];exact hmul)
   rw[←Array.foldl_toList,Array.toList_zipIdx]
   simpa[hvs]using this
  have h1:RowT R sz (xs.set i ds) (v.cells.zipIdx.foldl (fun cs (p:Value×Nat)=>cs.setIfInBounds (i*sz+p.2) p.1) cs):=by
   refine⟨by rw[(key 0).1,h.1];simp,?_,?_⟩
   ·intro a x hx
    rw[List.getElem?_set]at hx
    split at hx
    ·first
     |(split at hx
       ·rw[←Option.some.inj hx];exact hds
       ·cases hx)
     |(rw[←Option.some.inj hx];exact hds)
    ·exact h.2.1 a x hx
   ·intro a x j y hx hy
    rw[(key _).2]
    rw[List.getElem?_set]at hx
    split at hx
    ·rename_i e
     subst e
     ·obtain rfl:=Option.some.inj hx
      have hj:j<sz:=by rw[←hds];exact(List.getElem?_eq_some_iff.1 hy).1
      rw[if_pos (by omega)]
      rw[show i*sz+j - i*sz=j by omega]
      exact ht.2 j y hy
    ·rename_i e
     have hj:j<sz:=by rw[←h.2.1 a x hx];exact(List.getElem?_eq_some_iff.1 hy).1
     have hne:¬(i*sz≤a*sz+j∧a*sz+j<i*sz+sz):=by
      rintro⟨h2,h3⟩
      rcases Nat.lt_or_gt_of_ne e with hlt|hlt
      ·have:i*sz+sz≤a*sz:=by
        calc i*sz+sz=(i+1)*sz:=by rw[Nat.succ_mul]
         _≤a*sz:=Nat.mul_le_mul_right _ hlt
       omega
      ·have:a*sz+sz≤i*sz:=by
        calc a*sz+sz=(a+1)*sz:=by rw[Nat.succ_mul]
         _≤i*sz:=Nat.mul_le_mul_right _ hlt
       omega
     rw[if_neg hne]
     exact h.2.2 a x j y hx hy
  obtain⟨cs',hf,hr⟩:=Tl ps vs (xs.set i ds) _ h1 (by simpa using hlen) (fun k p hk=>by
   obtain⟨a,b,v,hv,ht⟩:=hp (k+1) p (by simpa using hk)
   exact⟨by simpa using a,b,v,by simpa using hv,ht⟩)
  refine⟨cs',?_,hr⟩
  simp only[Instr.fill]
  rw[if_neg (by simp;omega)]
  exact hf
 |[],_::_,_,_,_,hlen,_=>by simp at hlen
 |_::_,[],_,_,_,hlen,_=>by simp at hlen
def Ht(nb:Nat)(z:List D×Nat×Nat)(len:Nat)(ps:List (Nat×List D)):Option XeX:=
 if len*z.2.1≤2^24∧ps.all (fun p=>p.1<len∧p.2.length=z.2.1)then some (.ref nb 0 len,[.row z.2.1 false (Qq (List.replicate len z.1) ps)])else none
theorem K7(hM:Mem c E){nb len:Nat}{t:TypeId}{z:List D×Nat×Nat}{ps:List (Nat×List D)}{vs:Array (Nat×Value)}{r:XeX}(hz:ezT P t=some z)
  (hlen:ps.length=vs.size)(hrel:∀(k:Nat) p,ps[k]? =some p→∃v,vs[k]? =some (p.1,v)∧Rw (RelD E.w E.S) p.2 v.cells)
  (h:Ht nb z len ps=some r)(hF:Fresh c E nb r.2):Yields1 c P E nb r (Instr.buildSlice t len vs):=by
 unfold Ht at h
 split at h
 ·rename_i hc
  obtain⟨h24,hall⟩:=hc
  obtain rfl:=Option.some.inj h
  unfold ezT at hz
  split at hz
  ·rename_i e hu
   obtain⟨zs,hzs,hz⟩:=Option.bind_eq_some_iff.1 hz
   obtain⟨i,hi,hz⟩:=Option.bind_eq_some_iff.1 hz
   split at hz
   ·rename_i hsz
    obtain rfl:=Option.some.inj hz
    dsimp only at h24 hall hF⊢
    obtain⟨zv,hrun,hcells,hone,_⟩:=Fh (w:=E.w) hzs
    have hzsz:zv.cells.size=i.size:=by rw[←Array.length_toList,hcells,hsz];simp
    generalize hcs:(Array.range (len*i.size)).map ((if len*i.size=0 then #[]else zv.cells)[·%(if len*i.size=0 then #[]else zv.cells).size]!)=cs at*
    have hrow:RowT (RelD E.w E.S) i.size (List.replicate len (Na zs)) cs:=by
     refine⟨by rw[←hcs];simp,?_,?_⟩
     ·intro a x hx
      rw[List.eq_of_mem_replicate (List.mem_of_getElem? hx),Qo,hsz]
     ·intro a x b y hx hy
      have ha:a<len:=by have:=(List.getElem?_eq_some_iff.1 hx).1;simpa using this
      obtain rfl:x=Na zs:=List.eq_of_mem_replicate (List.mem_of_getElem? hx)
      obtain⟨p,hp,hr⟩:=Uz E.w E.S zs hone b y hy
      have hb:b<zv.cells.size:=by rw[hzsz,hsz];exact(List.getElem?_eq_some_iff.1 hp).1
      have hne:len*i.size≠0:=Nat.mul_ne_zero (by omega) (by omega)
      have hcell:cs[a*i.size+b]? =some (zv.cells[b]'hb):=by
       rw[←hcs]
       simp only[hne,if_false]
       rw[←hzsz]
       exact H8 zv.cells len _ a b rfl ha hb
      have:zv.cells.toList[b]? =some p.1:=by rw[hcells,List.getElem?_map,hp];rfl
      rw[Array.getElem?_toList,Array.getElem?_eq_getElem hb]at this
      rw[Option.some.inj this]at hcell
      exact⟨_,hcell,hr.one,hr⟩
    obtain⟨cs',hf,hr'⟩:=Tl ps vs.toList (List.replicate len (Na zs)) cs hrow (by simpa using hlen) (by
     intro k p hk
     obtain⟨v,hv,ht⟩:=hrel k p hk
     have:=List.all_eq_true.1 hall p (List.mem_of_getElem? hk)
     simp at this
     exact⟨by simpa using this.1,this.2,v,by simpa using hv,ht⟩)
    obtain⟨h1,h2,h3⟩:=hr'
    rw[Su,List.length_replicate]at h1
    obtain⟨q,hrel'⟩:=Xgi hM (r:=nb) (sz:=i.size) (xs:=Qq (List.replicate len (Na zs)) ps) (t:=e) (cs:=cs') (fr:=(0,0)) (w':=E.w.alloc (.cells cs' e)) (by simpa using hF.rt 0 _ rfl)
     (by simpa using hF.np 0 (by simp)) hF.m (Grow.alloc _ _) ⟨Gx _,.inr rfl⟩ h2 (by rw[Su,List.length_replicate,h1];exact Nat.le_refl _)
     (by
      intro a x b y hx hy
      obtain⟨u,hu,_,hr⟩:=h3 a x b y hx hy
      exact⟨u,hu,hr⟩)
    refine⟨.slice (some ⟨E.w.heap.size,0,none⟩) len len,_,?_,q,hrel' _ _ (Nat.le_refl _) (by rw[h1];exact Nat.le_refl _)⟩
    have hs:szT P e=some i.size:=by simp[szT,hi]
    have h24':¬(len*i.size>2^24):=by omega
    have hw:(E.withBlk nb (E.w.alloc (.cells cs' e))).w=E.w.alloc (.cells cs' e):=rfl
    rw[hw]
    by_cases aa:len*i.size=0
    ·simp only[aa,if_true]at hcs
     simp only[Instr.buildSlice,Sem.run_bind,run_underlying hu,Result.andThen_ok,Cz hs,aa,if_true,Sem.run_pure]
     rw[if_neg (by omega)]
     simp only[Sem.run_bind,Sem.run_pure,Result.andThen_ok]
     rw[hcs]
     simp[hf,newRow]
    ·simp only[aa,if_false]at hcs
     simp only[Instr.buildSlice,Sem.run_bind,run_underlying hu,Result.andThen_ok,Cz hs,aa,if_false,Sem.run_pure,hrun]
     rw[if_neg h24']
     simp only[Sem.run_bind,Sem.run_pure,Result.andThen_ok,hrun]
     rw[hcs]
     simp[hf,newRow]
   ·cases hz
  ·cases hz
 ·cases h
end
end
section
open Go
def AV.view(rt:Nat→Option Root):AV→Option (Nat×List (List D))
 | .d (.row sz xs)=>some (sz,xs)
 | .ref r off len=>
   match rt r with
   |some (.row sz _ xs)=>if off+len≤xs.length then some (sz,(xs.drop off).take len)else none
   |_=>none
 |_=>none
def G1:List (List D)→Option (List Int)
 |[]=>some []
 |[.sc (.int .u8 n)]::rest=>(G1 rest).map (n::·)
 |_=>none
def Et(ns:List Int):ByteArray:=⟨(ns.map fun n=>UInt8.ofNat n.toNat).toArray⟩
def M1(rt:Nat→Option Root)(nb:Nat)(src dst:TypeDesc)(bsrc:Bool)(x:AV):Option XeX:=
 match dst,x with
 | .int k,.d (.sc (.int _ n))=>some (.d (.sc (.int k (k.wrap n))),[])
 | .string,.d (.sc (.string s))=>(match src with| .string=>some (.d (.sc (.string s)),[])|_=>none)
 | .string,x=>if bsrc then(x.view rt).bind fun(sz,xs)=>if sz=1 then(G1 xs).map fun ns=>(.d (.sc (.string (Et ns))),[])else none else none
 |_,_=>none
section
variable {P:Program} {c:Ctx} {E:Env}
theorem X8(hM:Mem c E){x:AV}{v:Value}{sz:Nat}{ys:List (List D)}(hx:RelAV E x v)(h:x.view E.rt=some (sz,ys)):
  ∃a cap,v= .slice a ys.length cap∧ys.length≤cap∧(∀(i:Nat) y,ys[i]? =some y→y.length=sz)∧
   (ys≠[]→∃b o,a=some ⟨b,o,none⟩∧b<E.w.heap.size∧∀(i:Nat) y (j:Nat) z,ys[i]? =some y→y[j]? =some z→∃u,E.w.cell? ⟨b,o+i*sz+j,none⟩=some u∧RelD E.w E.S z u):=by
 cases hx with
 |d z v h'=>
  cases h' with
  |sc=>simp[AV.view]at h
  |nil s a=>
   simp only[AV.view,Option.some.injEq,Prod.mk.injEq]at h
   obtain⟨rfl,rfl⟩:=h
   exact⟨a,_,rfl,Nat.zero_le _,by simp,fun h=>absurd rfl h⟩
  |row s xs b off cap us hS hc hl hu hr=>
   simp only[AV.view,Option.some.injEq,Prod.mk.injEq]at h
   obtain⟨rfl,rfl⟩:=h
   exact⟨_,cap,rfl,hc,hl,fun _=>⟨b,off,rfl,hM.slt b hS,fun i y j z hy hz=>⟨_,hu i y j z hy hz,hr i y j z hy hz⟩⟩⟩
 |ref r off len R sz0 b cap t n h1 hk h2 h3 h4 h5 h6=>
  cases R with
  |buf=>simp[AV.view,h1]at h
  |map=>simp[AV.view,h1]at h
  |box=>simp[Root.kind]at hk
  |dead=>simp[Root.kind]at hk
  |row sz' fz xs=>
   simp only[Root.kind,Kind.row.injEq]at hk
   subst hk
   simp only[AV.view,h1]at h
   split at h
   ·rename_i hle
    simp only[Option.some.injEq,Prod.mk.injEq]at h
    obtain⟨rfl,rfl⟩:=h
    have hlen:((xs.drop off).take len).length=len:=by simp;omega
    have hin:∀(i:Nat) z,((xs.drop off).take len)[i]? =some z→xs[off+i]? =some z:=by
     intro i z hz
     rw[List.getElem?_take]at hz
     split at hz
     ·rwa[List.getElem?_drop]at hz
     ·cases hz
    rw[hlen]
    rcases hM.roots r _ h2 h1 with⟨hb,_⟩|⟨b',cs,t',fr,hb,hh,hl,hs,hc,_⟩
    ·rw[h3]at hb;cases hb
    ·rw[h3]at hb
     obtain rfl:=Option.some.inj hb
     refine⟨_,cap,rfl,h5,fun i y hy=>hl _ _ (hin i y hy),fun _=>⟨b,off*sz',rfl,hM.blt r b h2 h3,?_⟩⟩
     intro i y j z hy hz
     obtain⟨u,hu,hr⟩:=hc _ _ _ _ (hin i y hy) hz
     have e:off*sz'+i*sz'+j=(off+i)*sz'+j:=by rw[Nat.add_mul]
     exact⟨u,by simp[World.cell?,hh,e,hu],hr⟩
   ·cases h
 |refz r off R sz0 a h1 hk h2=>
  cases R with
  |buf=>simp[AV.view,h1]at h
  |map=>simp[AV.view,h1]at h
  |box=>simp[Root.kind]at hk
  |dead=>simp[Root.kind]at hk
  |row sz' fz xs=>
   simp only[AV.view,h1]at h
   split at h
   ·simp only[List.take_zero,Option.some.injEq,Prod.mk.injEq]at h
    obtain⟨rfl,rfl⟩:=h
    exact⟨a,0,rfl,Nat.le_refl _,by simp,fun h=>absurd rfl h⟩
   ·cases h
 |dref r off len v h1 ho=>simp[AV.view,h1]at h
 |_=>simp[AV.view]at h
theorem Vq:∀{xs:List (List D)} {ns:List Int},G1 xs=some ns→ns.length=xs.length∧∀(i:Nat) n,ns[i]? =some n→xs[i]? =some [.sc (.int .u8 n)]
 |[],ns,h=>by simp[G1]at h;subst h;simp
 |x::xs,ns,h=>by
  unfold G1 at h
  split at h
  ·rename_i heq;cases heq
  ·rename_i n rest heq
   cases heq
   obtain⟨ms,hm,rfl⟩:=Option.map_eq_some_iff.1 h
   obtain⟨hl,hg⟩:=Vq hm
   refine⟨by simp[hl],?_⟩
   intro i k hk
   cases i with
   |zero=>simp at hk;subst hk;rfl
   |succ i=>simp at hk;simpa using hg i k hk
  ·cases h
theorem Xa:∀(ns:List Int) (s:ByteArray),ns.foldl (fun r n=>r.push (UInt8.ofNat n.toNat)) s=⟨s.data++(ns.map fun n=>UInt8.ofNat n.toNat).toArray⟩
 |[],s=>by simp
 |n::ns,s=>by
  rw[List.foldl_cons,Xa ns]
  simp[ByteArray.push]
theorem Xb0(hM:Mem c E){nb:Nat}{s d:TypeId}{src dst:TypeDesc}{bsrc:Bool}{x:AV}{v:Value}{r:XeX}(hs:P.underlying s=some src)(hd:P.underlying d=some dst)
  (hb:bsrc=true→∃e,src= .slice e∧P.underlying e=some (.int .u8))(hx:RelAV E x v)(h:M1 E.rt nb src dst bsrc x=some r):Yields1 c P E nb r (convert s d v):=by
 unfold M1 at h
 split at h
 ·rename_i k k' n
  obtain rfl:=Option.some.inj h
  cases hx with
  |d _ _ h'=>
   cases h' with
   |sc=>
    refine Yields1.same hM ⟨_,?_,.d _ _ (.sc _ rfl)⟩
    simp[convert,run_underlying hs,run_underlying hd,Conv.intToInt]
 ·rename_i str
  split at h
  ·obtain rfl:=Option.some.inj h
   cases hx with
   |d _ _ h'=>
    cases h' with
    |sc=>
     refine Yields1.same hM ⟨_,?_,.d _ _ (.sc _ rfl)⟩
     simp[convert,run_underlying hs,run_underlying hd]
  ·cases h
 ·rename_i x' hns
  split at h
  ·rename_i hbt
   obtain⟨⟨sz,xs⟩,hv,h⟩:=Option.bind_eq_some_iff.1 h
   simp only at h
   split at h
   ·rename_i h1
    subst h1
    obtain⟨ns,hbr,rfl⟩:=Option.map_eq_some_iff.1 h
    obtain⟨e,rfl,he⟩:=hb hbt
    obtain⟨hl,hg⟩:=Vq hbr
    obtain⟨a,cap,rfl,hcap,hlen,hcell⟩:=X8 hM hx hv
    refine Yields1.same hM ⟨.string (Et ns),?_,.d _ _ (.sc _ rfl)⟩
    cases a with
    |none=>
     by_cases hne:xs=[]
     ·subst hne
      have:ns=[]:=List.eq_nil_of_length_eq_zero hl
      subst this
      simp[convert,run_underlying hs,run_underlying hd,run_underlying he,Conv.bytesToString,Et,ByteArray.empty,ByteArray.emptyWithCapacity]
      rfl
     ·obtain⟨b,o,hab,_⟩:=hcell hne
      cases hab
    |some a=>
     rw[run_convert_bytes_string E.w s d e a xs.length cap hs he hd]
     have hload:(loadCells a xs.length).run P E.w= .ok (ns.map (Value.int .u8)).toArray E.w:=by
      rw[←hl,show ns.length=(ns.map (Value.int .u8)).length by simp]
      apply run_loadCells_list
      intro j v hj
      rw[List.getElem?_map]at hj
      obtain⟨n,hn,rfl⟩:=Option.map_eq_some_iff.1 hj
      have hxj:=hg j n hn
      have hne:xs≠[]:=by rintro rfl;simp at hxj
      obtain⟨b,o,hab,_,hc⟩:=hcell hne
      cases hab
      obtain⟨u,hu,hr⟩:=hc j _ 0 _ hxj rfl
      cases hr
      rw[He]
      simpa using hu
     rw[run_bytesToString E.w a xs.length cap ns hload,Xa]
     simp[Et,ByteArray.empty,ByteArray.emptyWithCapacity]
     rfl
   ·cases h
  ·cases h
 ·cases h
end
end
end Go.Proofs.YtjbmpmmffjgedaaGreatDoor.Ab
