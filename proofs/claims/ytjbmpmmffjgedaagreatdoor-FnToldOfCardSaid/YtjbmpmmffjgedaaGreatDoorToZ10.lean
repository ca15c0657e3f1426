/- A relation between the machine and an abstract state, evaluators for single operations and for code, proved sound (part 10). No conditions. -/
import Derived.KernelRfl
import Derived.Test.YtjbmpmmffjgedaaGreatDoorToZ4
import Derived.Shelf.LaysM
import Derived.Shelf.Strconv.Lower
import Derived.Lib.Strings
import Derived.Lib.Walk
import Derived.Lib.ConvBytes
import Derived.Lib.ParseIntBMem
import Derived.Lib.Hide
import Derived.Laws.Strings3
import Derived.Laws.Closers25
import Derived.Laws.Closers25b
import Derived.WalkKit
import Derived.BigCall
import Derived.BigGuard
set_option linter.unusedVariables false
set_option linter.unusedSimpArgs false
namespace Go.Proofs.YtjbmpmmffjgedaaGreatDoor.Ab
section
open Go
def mvB:Root→Bool
 | .row _ _ _=>true
 | .buf _ _ _=>true
 | .box _ _=>false
 | .map _=>false
 | .dead=>false
def mv1(r:Nat)(st:St):St:=match st.rt[r]? with
 |some R=>(match mvB R with
  |true=>⟨mvS r st.rt.length st.sl,((st.rt.map (rnR r st.rt.length)).set r .dead)++[R]⟩
  |false=>st)
 |none=>st
def Nb:List Nat→St→St
 |[],st=>st
 |r::l,st=>Nb l (mv1 r st)
def XcR(sl:Nat→AV):List Nat→List (Nat×AV)
 |[]=>[]
 |t::l=>(t,sl t)::XcR sl l
inductive NextW {κ:Type} (n0:Nat) (keepl:List (Nat×AV)) (base:List Root) (mods:κ→List (Nat×AV)) (rts:κ→List (Nat×Root)) (J:κ→Prop) (st':St):Prop
 |mk (k':κ) (hi:J k') (hr:Xac n0 (mods k'++keepl) (XdK (rts k') base) st'):NextW n0 keepl base mods rts J st'
section
variable {P:Program} {N:Nat} {tab:List (Nat×TyRow)} {Q:Exit→St→Prop} {st:St}
theorem Xhn{c:Ctx}{Ei:Env}{a:Act}{w:World}(r:Nat)(h:Holds c Ei N st a w):Holds c Ei N (mv1 r st) a w:=by
 unfold mv1
 split
 ·rename_i R hr
  split
  ·rename_i hb
   refine h.move2 (fun _=>?_) hr
   cases R with
   |row=>rfl
   |buf=>rfl
   |box=>cases hb
   |map=>cases hb
   |dead=>cases hb
  ·exact h
 ·exact h
theorem Pz{c:Ctx}{Ei:Env}{a:Act}{w:World}:∀(l:List Nat) {st:St},Holds c Ei N st a w→Holds c Ei N (Nb l st) a w
 |[],_,h=>h
 |r::l,_,h=>Pz l (Xhn r h)
def WeakC(sl:Nat→AV):List (Nat×AV)→Prop
 |[]=>True
 |(t,x)::l=>sl t=x∧WeakC sl l
theorem WeakC.weakL{sl:Nat→AV}:∀{l:List (Nat×AV)},WeakC sl l→WeakL l sl
 |[],_=>WeakL.nil _
 |(t,x)::l,h=>.cons h.1 (WeakC.weakL h.2)
theorem Yf(sl:Nat→AV):∀(l:List Nat),WeakL (XcR sl l) sl
 |[]=>WeakL.nil _
 |t::l=>.cons rfl (Yf sl l)
theorem WeakL.app{sl:Nat→AV}{a b:List (Nat×AV)}(h:WeakL a sl)(k:WeakL b sl):WeakL (a++b) sl:=by
 intro p hp
 rcases List.mem_append.1 hp with hp|hp
 ·exact h p hp
 ·exact k p hp
theorem LoopW.lp{κ:Type}{body:Code}(su:Bl P tab∧P.follows .mixedOrders=true){P':Program}(hP:P'=P)(mvs keep:List Nat)(mods:κ→List (Nat×AV))(rts:κ→List (Nat×Root))(inv:κ→Prop)(μ:κ→Nat)(k0:κ)(h0:inv k0)
  (hw:WeakC (Nb mvs st).sl (mods k0))(hrt:(Nb mvs st).rt=XdK (rts k0) (Nb mvs st).rt)
  (round:∀k (J:κ→Prop),inv k→(∀k',inv k'→μ k'<μ k→J k')→wc P' tab N body (Exit.thenQ (fun st'=>NextW st.rt.length (XcR (Nb mvs st).sl keep) (Nb mvs st).rt mods rts J st') Q) ⟨look (mods k++XcR (Nb mvs st).sl keep),XdK (rts k) (Nb mvs st).rt⟩):LoopW P' N body Q st:=by
 subst hP
 refine⟨LpW.ofR (st:=Nb mvs st) inv μ (fun k=>mods k++XcR (Nb mvs st).sl keep) (fun k=>XdK (rts k) (Nb mvs st).rt) k0 st.rt.length h0 (hw.weakL.app (Yf _ _)) hrt (Nat.le_refl _) rfl (fun c Ei a w h=>Pz mvs h) ?_⟩
 intro k hk
 refine(XhP su.1 su.2 (round k (fun k'=>inv k'∧μ k'<μ k) hk (fun k' h1 h2=>⟨h1,h2⟩))).mono ?_
 intro e st' he
 cases e with
 |normal=>
  obtain⟨k',⟨h1,h2⟩,h3⟩:=he
  exact⟨k',h1,h2,h3⟩
 |_=>exact he
theorem Holds.roundEnd{c:Ctx}{Ei:Env}{act:Act}{w:World}{n0:Nat}{vals:List (Nat×AV)}{rt:List Root}{st':St}(hm:c.m≤n0)(h:Holds c Ei N st' act w)(hr:Xac n0 vals rt st'):Holds c Ei N ⟨look vals,rt⟩ act w:=by
 obtain⟨ids,i1,i2,i3,i4,i5,i6⟩:=hr
 refine h.ren (n0:=n0) (ids:=ids) (sl':=look vals) (rt':=rt) hm i1 i2 i3 i4 i5 ?_
 intro t
 have key:∀{l:List (Nat×AV)},(∀p∈l,(st'.sl p.1).ren (D8 n0 ids)=some p.2)→look l t= .junk∨(st'.sl t).ren (D8 n0 ids)=some (look l t):=by
  intro l
  induction l with
  |nil=>intro _;exact .inl rfl
  |cons p l ih=>
   intro hl
   obtain⟨s,x⟩:=p
   simp only[look]
   split
   ·rename_i e;subst e;exact .inr (hl (t,x) List.mem_cons_self)
   ·exact ih (fun p hp=>hl p (List.mem_cons_of_mem _ hp))
 exact key i6
theorem JoinW.jn{κ:Type}{a b:Code}(su:Bl P tab∧P.follows .mixedOrders=true){P':Program}(hP:P'=P)(mvs keep:List Nat)(mods:κ→List (Nat×AV))(rts:κ→List (Nat×Root))(inv:κ→Prop)
  (first:∀J:κ→Prop,(∀k,inv k→J k)→wc P' tab N a (Exit.thenQ (fun st'=>NextW st.rt.length (XcR (Nb mvs st).sl keep) (Nb mvs st).rt mods rts J st') Q) (Nb mvs st))
  (second:∀k,inv k→wc P' tab N b Q ⟨look (mods k++XcR (Nb mvs st).sl keep),XdK (rts k) (Nb mvs st).rt⟩):JoinW P' N a b Q st:=by
 subst hP
 refine⟨?_⟩
 intro c Ei act w hH
 have hm:c.m≤st.rt.length:=by
  obtain⟨E,_,_,_,_,_,_,_,_,hm⟩:=hH
  exact hm
 refine wp_seq (wp_mono (XhP su.1 su.2 (first inv (fun _ h=>h)) c Ei act w (Pz mvs hH)) ?_)
 rintro e a' w' ⟨st',hq,hH'⟩
 cases e with
 |normal=>
  obtain⟨k',h1,h2⟩:=hq
  exact XhP su.1 su.2 (second k' h1) c Ei a' w' (hH'.roundEnd hm h2)
 |_=>exact⟨st',hq,hH'⟩
def Xec:List Nat→Bool
 |[]=>true
 |x::l=>!(l.contains x)&&Xec l
theorem Xci:∀{l:List Nat},Xec l=true→l.Nodup
 |[],_=>.nil
 |x::l,h=>by
  simp only[Xec,Bool.and_eq_true,Bool.not_eq_true',List.contains_iff_mem]at h
  refine List.nodup_cons.2 ⟨?_,Xci h.2⟩
  intro hm
  have:=List.contains_iff_mem.2 hm
  rw[h.1]at this
  cases this
theorem NextW.go{κ:Type}{n0:Nat}{keepl:List (Nat×AV)}{base:List Root}{mods:κ→List (Nat×AV)}{rts:κ→List (Nat×Root)}{J:κ→Prop}{st':St}(ids:List Nat)(k':κ)(hi:J k')
  (c6:(mods k'++keepl).map (fun p=>(st'.sl p.1).ren (D8 n0 ids))=(mods k'++keepl).map (fun p=>some p.2):=by rfl)
  (c4:E4 (D8 n0 ids) (st'.rt.take n0)=some ((XdK (rts k') base).take n0):=by rfl)(c5:ids.map (fun i=>(st'.rt[i]?).bind (Root.ren (D8 n0 ids)))=((XdK (rts k') base).drop n0).map some:=by rfl)
  (c1:ids.all (fun i=>Nat.ble n0 i)=true:=by rfl)(c2:Xec ids=true:=by rfl)(c3:Nat.beq (XdK (rts k') base).length (n0+ids.length)=true:=by rfl)(c7:Nat.ble n0 st'.rt.length=true:=by rfl):
  NextW n0 keepl base mods rts J st':=by
 have hlen:=Nat.eq_of_beq_eq_true c3
 refine⟨k',hi,?_⟩
 refine⟨ids,fun i h=>Nat.le_of_ble_eq_true (List.all_eq_true.1 c1 i h),Xci c2,hlen,?_,?_,?_⟩
 ·intro r R' hr hR
  obtain⟨hl,hget⟩:=Fj c4
  have hr':r<(st'.rt.take n0).length:=by
   have:=Nat.le_of_ble_eq_true c7
   rw[List.length_take]
   omega
  obtain⟨R'',k1,k2⟩:=hget r _ (List.getElem?_eq_getElem hr')
  rw[List.getElem?_take,if_pos hr,hR]at k1
  obtain rfl:=Option.some.inj k1
  refine⟨_,?_,k2⟩
  rw[List.getElem_take]
  exact List.getElem?_eq_getElem _
 ·intro j i R' hj hR
  have:=congrArg (·[j]?) c5
  simp only[List.getElem?_map,hj,List.getElem?_drop,hR,Option.map_some,Option.some.injEq]at this
  obtain⟨R,k1,k2⟩:=Option.bind_eq_some_iff.1 this
  exact⟨R,k1,k2⟩
 ·intro p hp
  obtain⟨i,hi⟩:=List.getElem?_of_mem hp
  have:=congrArg (·[i]?) c6
  simpa only[List.getElem?_map,hi,Option.map_some,Option.some.injEq]using this
end
inductive RdL (rt:Nat→Option Root):List AV→List AV→Prop
 |nil:RdL rt [] []
 |d {x y:AV} {ys zs:List AV} (h:x.isD=true) (e:x=y) (t:RdL rt ys zs):RdL rt (x::ys) (y::zs)
 |ref {r n sz:Nat} {fz:Bool} {xs us:List (List D)} {ys zs:List AV} (h:rt r=some (.row sz fz xs)) (hn:n=xs.length) (e:xs=us) (t:RdL rt ys zs):RdL rt (.ref r 0 n::ys) (.d (.row sz us)::zs)
 |agg {l l' ys zs:List AV} (h:RdL rt l l') (t:RdL rt ys zs):RdL rt (.agg l::ys) (.agg l'::zs)
 |sub {r o n sz:Nat} {fz:Bool} {xs us:List (List D)} {ys zs:List AV} (h:rt r=some (.row sz fz xs)) (hn:o+n≤xs.length) (e:(xs.drop o).take n=us) (t:RdL rt ys zs):RdL rt (.ref r o n::ys) (.d (.row sz us)::zs)
theorem RdL.get{rt:Nat→Option Root}{ys zs:List AV}(h:RdL rt ys zs):∃L,AV.lendAs rt ys=some (zs,L):=by
 induction h with
 |nil=>exact⟨[],rfl⟩
 |d h e _ ih=>
  subst e
  obtain⟨L,hL⟩:=ih
  exact⟨L,by simp[AV.lendAs,(Kx rt h).1,hL]⟩
 | @ref r n sz fz xs us ys zs h hn e _ ih=>
   obtain⟨L,hL⟩:=ih
   subst hn e
   exact⟨(if fz then[]else[r])++L,by simp[AV.lendAs,AV.lendA,h,hL]⟩
 |agg _ _ ih1 ih2=>
  obtain⟨L1,h1⟩:=ih1
  obtain⟨L2,h2⟩:=ih2
  exact⟨L1++L2,by simp[AV.lendAs,AV.lendA,h1,h2]⟩
 | @sub r o n sz fz xs us ys zs h hn e _ ih=>
   obtain⟨L,hL⟩:=ih
   subst e
   exact⟨(if fz then[]else[r])++L,by simp[AV.lendAs,AV.lendA,h,hL,hn]⟩
theorem EndD.one{P:Program}{st:St}{e:Exit}{r:ResultVar}{x y:AV}(he:e= .ret∨e= .normal)(h:W4 P st r=some x)(hy:RdL st.look [x] [y])(hx:∀l,x≠.tup l:=by intro l h;cases h):EndD P #[r] y e st:=by
 obtain⟨L,hL⟩:=hy.get
 have key:x.rdo st.look=some (y,L):=by
  have hl:∃L',x.lendA st.look=some (y,L'):=by
   simp only[AV.lendAs]at hL
   cases hx':x.lendA st.look with
   |none=>simp[hx']at hL
   |some q=>
    simp only[hx',Option.bind_some,Option.map_some,Option.some.injEq,Prod.mk.injEq,List.cons.injEq,and_true]at hL
    exact⟨q.2,by rw[←hL.1]⟩
  obtain⟨L',hl⟩:=hl
  have e2:x.rdo st.look=x.lendA st.look:=by
   cases x with
   |tup l=>exact absurd rfl (hx l)
   |_=>rfl
  rw[e2,hl]
  simp only[AV.lendAs,hl,Option.bind_some,Option.map_some,Option.some.injEq,Prod.mk.injEq,List.append_nil,true_and]at hL
  rw[hL]
 rcases he with rfl|rfl<;>exact⟨[x],L,by simp[Lm,h],key⟩
theorem EndD.many{P:Program}{st:St}{e:Exit}{rs:Array ResultVar}{l ys:List AV}(he:e= .ret∨e= .normal)(h:Lm P st rs.toList=some l)(hl:XcJ l= .tup l)(hy:RdL st.look l ys):EndD P rs (.tup ys) e st:=by
 obtain⟨L,hL⟩:=hy.get
 have key:(AV.tup l).rdo st.look=some (.tup ys,L):=by simp[AV.rdo,hL]
 rcases he with rfl|rfl<;>exact⟨l,L,h,by rw[hl];exact key⟩
open Go
abbrev Setup(P:Program)(tab:List (Nat×TyRow)):Prop:=Bl P tab∧P.follows .mixedOrders=true
section
variable {P:Program} {tab:List (Nat×TyRow)}
theorem Gk{f:FuncId}{fn:Func}(hf:P.funcs[f]? =some fn)(h1:(fn.name== "runtime.NumGoroutine")=false)(h2:fn.body.isNone=false):Gt P f:=⟨fn,hf,h1,h2⟩
theorem Xgu{fn:Func}(h:fn.body.isNone=false):fn.body=some (fn.body.getD .skip):=by
 cases hb:fn.body with
 |none=>rw[hb]at h;cases h
 |some b=>rfl
theorem Fn.go{f:FuncId}{fn:Func}{as0:List AV}{av:AV}(su:Setup P tab)(hf:P.funcs[f]? =some fn)(h:∀P',P'=P→∀Q:Exit→St→Prop,(∀e st,EndD P fn.results av e st→Q e st)→wc P' tab fn.ntmps (fn.body.getD .skip) Q ⟨N7 as0,[]⟩)
  (h1:(fn.name== "runtime.NumGoroutine")=false:=by rfl)(h2:fn.body.isNone=false:=by rfl)(hN:Nat.ble as0.length fn.ntmps=true:=by rfl)(hwa:AV.rens (Gu 0) as0=some as0:=by rfl):Fn P f as0 [] ⟨av,[],[]⟩:=
 Fn.data (Gk hf h1 h2) su.1 su.2 hf (Xgu h2) (Nat.le_of_ble_eq_true hN) hwa h
theorem Fn.goR{f:FuncId}{fn:Func}{as0:List AV}{r0:List Root}{o:Out}(su:Setup P tab)(hf:P.funcs[f]? =some fn)(h:∀P',P'=P→∀Q:Exit→St→Prop,(∀e st,EndQ P fn.results r0 o e st→Q e st)→wc P' tab fn.ntmps (fn.body.getD .skip) Q ⟨N7 as0,r0⟩)
  (h1:(fn.name== "runtime.NumGoroutine")=false:=by rfl)(h2:fn.body.isNone=false:=by rfl)(hN:Nat.ble as0.length fn.ntmps=true:=by rfl)(hwa:AV.rens (Gu r0.length) as0=some as0:=by rfl)(hwr:E4 (Gu r0.length) r0=some r0:=by rfl):Fn P f as0 r0 o:=
 Fn.gen (Gk hf h1 h2) su.1 su.2 hf (Xgu h2) (Nat.le_of_ble_eq_true hN) hwa hwr h
end
abbrev I(n:Int):AV:=.d (.sc (.int .i64 n))
abbrev S(s:ByteArray):AV:=.d (.sc (.string s))
abbrev B(b:Bool):AV:=.d (.sc (.bool b))
section
variable {P:Program} {st:St} {t:Nat}
theorem EndD.i{k:IntKind}{v r:Int}(h:st.sl t= .d (.sc (.int k v)))(e:v=r):EndD P #[.tmp t] (.d (.sc (.int k r))) .ret st:=by subst e;exact T7 h rfl
theorem EndD.s{v r:ByteArray}(h:st.sl t= .d (.sc (.string v)))(e:v=r):EndD P #[.tmp t] (.d (.sc (.string r))) .ret st:=by subst e;exact T7 h rfl
theorem EndD.b{v r:Bool}(h:st.sl t= .d (.sc (.bool v)))(e:v=r):EndD P #[.tmp t] (.d (.sc (.bool r))) .ret st:=by subst e;exact T7 h rfl
theorem EndD.d{x y:D}(h:st.sl t= .d x)(e:x=y):EndD P #[.tmp t] (.d y) .ret st:=T7 h e
theorem EndD.r{r n sz:Nat}{fz:Bool}{xs ys:List (List D)}(h:st.sl t= .ref r 0 n)(hr:st.look r=some (.row sz fz xs))(hn:n=xs.length)(e:xs=ys):EndD P #[.tmp t] (.d (.row sz ys)) .ret st:=by subst e;exact XiS h hr hn
theorem EndD.rs{r o n sz:Nat}{fz:Bool}{xs ys:List (List D)}(h:st.sl t= .ref r o n)(hr:st.look r=some (.row sz fz xs))(hn:o+n≤xs.length)(e:(xs.drop o).take n=ys):EndD P #[.tmp t] (.d (.row sz ys)) .ret st:=by
 subst e
 refine Zw (L:=if fz then[]else[r]) h ?_
 show AV.lendA st.look (.ref r o n)=_
 simp only[AV.lendA,hr]
 rw[if_pos hn]
end
theorem XlV{α:Type}{c:α→List D}{l:List α}{sz:Nat}{x y:List (List D)}(h1:l.map c=x)(h2:l.map c=y):AV.d (.row sz x)=AV.d (.row sz y):=by rw[←h1,h2]
section
variable {K:Int→Prop} {k k':IntKind} {a b:Int}
theorem ArW.add(h:∀v,v=a+b→K v)(hr: -9223372036854775808≤a+b∧a+b<9223372036854775808:=by omega):ArW .add .i64 .i64 a b K:=⟨a+b,by show some (Value.int .i64 (IntKind.i64.wrap (a+b)))=_;rw[Pr hr],h _ rfl⟩
theorem ArW.sub(h:∀v,v=a - b→K v)(hr: -9223372036854775808≤a - b∧a - b<9223372036854775808:=by omega):ArW .sub .i64 .i64 a b K:=⟨a - b,by show some (Value.int .i64 (IntKind.i64.wrap (a - b)))=_;rw[Pr hr],h _ rfl⟩
theorem ArW.mul(h:∀v,v=a*b→K v)(hr: -9223372036854775808≤a*b∧a*b<9223372036854775808:=by omega):ArW .mul .i64 .i64 a b K:=⟨a*b,by show some (Value.int .i64 (IntKind.i64.wrap (a*b)))=_;rw[Pr hr],h _ rfl⟩
theorem ArW.addW(h:∀v,v=k.wrap (a+b)→K v):ArW .add k k a b K:=⟨_,by show(if k=k then _ else none)=_;rw[if_pos rfl];rfl,h _ rfl⟩
theorem ArW.subW(h:∀v,v=k.wrap (a - b)→K v):ArW .sub k k a b K:=⟨_,by show(if k=k then _ else none)=_;rw[if_pos rfl];rfl,h _ rfl⟩
theorem ArW.mulW(h:∀v,v=k.wrap (a*b)→K v):ArW .mul k k a b K:=⟨_,by show(if k=k then _ else none)=_;rw[if_pos rfl];rfl,h _ rfl⟩
theorem ArW.quo(h:∀v,v=a/b→K v)(h0:0≤a:=by omega)(h1:0<b:=by omega)(h2:a<9223372036854775808:=by omega):ArW .quo .i64 .i64 a b K:=by
 refine⟨a/b,?_,h _ rfl⟩
 show(if b=0 then none else some (Value.int .i64 (IntKind.i64.wrap (a.tdiv b))))=_
 rw[if_neg (by omega),Int.tdiv_eq_ediv_of_nonneg h0,Pr]
 have h3:0≤a/b:=Int.ediv_nonneg h0 (by omega)
 have h4:a/b≤a:=Int.ediv_le_self b h0
 omega
theorem ArW.rem(h:∀v,v=a% b→K v)(h0:0≤a:=by omega)(h1:0<b:=by omega):ArW .rem k k a b K:=by
 refine⟨a% b,?_,h _ rfl⟩
 show(if k=k then(if b=0 then none else some (Value.int k (a.tmod b)))else none)=_
 rw[if_pos rfl,if_neg (by omega),Int.tmod_eq_emod_of_nonneg h0]
def Ku(op:BinOp)(k:IntKind)(a b:Int):Int:=std.bin op k a b
theorem ArW.and(h:∀v,v=Ku .and k a b→K v):ArW .and k k a b K:=⟨_,by show(if k=k then _ else none)=_;rw[if_pos rfl];rfl,h _ rfl⟩
theorem ArW.or(h:∀v,v=Ku .or k a b→K v):ArW .or k k a b K:=⟨_,by show(if k=k then _ else none)=_;rw[if_pos rfl];rfl,h _ rfl⟩
theorem ArW.xor(h:∀v,v=Ku .xor k a b→K v):ArW .xor k k a b K:=⟨_,by show(if k=k then _ else none)=_;rw[if_pos rfl];rfl,h _ rfl⟩
theorem ArW.shr(h:∀v,v=a/2^b.toNat→K v)(h0:0≤b:=by omega)(h1:b≤64:=by omega):ArW .shr .i64 k' a b K:=by
 refine⟨a/2^b.toNat,?_,h _ rfl⟩
 show(if b<0 then none else some (Value.int .i64 (a.fdiv (2^ (min b.toNat 64)))))=_
 rw[if_neg (by omega),Nat.min_eq_left (by omega),Int.fdiv_eq_ediv_of_nonneg a (Int.le_of_lt (Int.pow_pos (by omega)))]
theorem ArW.shrW(h:∀v,v=a.fdiv (2^min b.toNat k.bits)→K v)(h0:0≤b:=by omega):ArW .shr k k' a b K:=by
 refine⟨_,?_,h _ rfl⟩
 show(if b<0 then none else some (Value.int k (a.fdiv (2^ (min b.toNat k.bits)))))=_
 rw[if_neg (by omega)]
theorem ArW.shlW(h:∀v,v=k.wrap (a*2^min b.toNat k.bits)→K v)(h0:0≤b:=by omega):ArW .shl k k' a b K:=by
 refine⟨_,?_,h _ rfl⟩
 show(if b<0 then none else some (Value.int k (k.wrap (a*2^ (min b.toNat k.bits)))))=_
 rw[if_neg (by omega)]
theorem NegW.go(h:∀v,v= -a→K v)(hr: -9223372036854775808<a∧a≤9223372036854775808:=by omega):NegW .i64 a K:=⟨-a,by rw[Pr (by omega)];omega,h _ rfl⟩
theorem WrapW.go(h:∀v,v=k.wrap a→K v):WrapW k a K:=⟨_,rfl,h _ rfl⟩
theorem WrapW.id(h:∀v,v=a→K v)(hr: -9223372036854775808≤a∧a<9223372036854775808:=by omega):WrapW .i64 a K:=⟨a,(Pr hr).symm,h _ rfl⟩
end
section
variable {K:Bool→Prop} {k:IntKind} {a b:Int}
theorem CmpW.of{op:BinOp}(v:Bool)(h:Q5 op k a b=some (.bool v))(hs:op≠.shl∧op≠.shr)(hk:K v):CmpW op k k a b K:=by
 refine⟨v,?_,hk⟩
 have:Jw op false (.int k a) (.int k b)=(if k=k then Q5 op k a b else none):=by
  cases op<;>first|rfl|simp at hs
 rw[this,if_pos rfl,h]
theorem CmpW.lss(t:a<b→K true)(f:b≤a→K false):CmpW .lss k k a b K:=by
 refine .of (decide (a<b)) rfl (by simp) ?_
 by_cases h:a<b
 ·rw[decide_eq_true h];exact t h
 ·rw[decide_eq_false h];exact f (by omega)
theorem CmpW.leq(t:a≤b→K true)(f:b<a→K false):CmpW .leq k k a b K:=by
 refine .of (decide (a≤b)) rfl (by simp) ?_
 by_cases h:a≤b
 ·rw[decide_eq_true h];exact t h
 ·rw[decide_eq_false h];exact f (by omega)
theorem CmpW.gtr(t:b<a→K true)(f:a≤b→K false):CmpW .gtr k k a b K:=by
 refine .of (decide (b<a)) rfl (by simp) ?_
 by_cases h:b<a
 ·rw[decide_eq_true h];exact t h
 ·rw[decide_eq_false h];exact f (by omega)
theorem CmpW.geq(t:b≤a→K true)(f:a<b→K false):CmpW .geq k k a b K:=by
 refine .of (decide (b≤a)) rfl (by simp) ?_
 by_cases h:b≤a
 ·rw[decide_eq_true h];exact t h
 ·rw[decide_eq_false h];exact f (by omega)
theorem CmpW.eql(t:a=b→K true)(f:a≠b→K false):CmpW .eql k k a b K:=by
 refine .of (a==b) rfl (by simp) ?_
 by_cases h:a=b
 ·rw[show(a==b)=true by simpa using h];exact t h
 ·rw[show(a==b)=false by simpa using h];exact f h
theorem CmpW.neq(t:a≠b→K true)(f:a=b→K false):CmpW .neq k k a b K:=by
 refine .of (a !=b) rfl (by simp) ?_
 by_cases h:a=b
 ·rw[show(a !=b)=false by simpa using h];exact f h
 ·rw[show(a !=b)=true by simpa using h];exact t h
end
section
variable {K:Bool→Prop} {a b:ByteArray}
theorem SCmpW.eql(t:a=b→K true)(f:a≠b→K false):SCmpW .eql a b K:=by
 refine⟨a.toList==b.toList,rfl,?_⟩
 by_cases h:a=b
 ·rw[show(a.toList==b.toList)=true by simpa using congrArg _ h];exact t h
 ·rw[show(a.toList==b.toList)=false by simpa using fun e=>h (Ro e)];exact f h
theorem SCmpW.neq(t:a≠b→K true)(f:a=b→K false):SCmpW .neq a b K:=by
 refine⟨!(a.toList==b.toList),rfl,?_⟩
 by_cases h:a=b
 ·rw[show(a.toList==b.toList)=true by simpa using congrArg _ h];exact f h
 ·rw[show(a.toList==b.toList)=false by simpa using fun e=>h (Ro e)];exact t h
def ltB(a b:ByteArray):Bool:=Op.bytesLess a.toList b.toList
theorem SCmpW.geq(h:∀v,v= !(ltB a b)→K v):SCmpW .geq a b K:=⟨_,rfl,h _ rfl⟩
end
section
variable {s a b:ByteArray}
theorem CatW.go{K:ByteArray→Prop}(h:∀v,v=a++b→v.size=a.size+b.size→K v)(hs:a.size+b.size<9223372036854775808:=by omega):CatW a b K:=by
 refine⟨a++b,?_,h _ rfl ByteArray.size_append⟩
 show(if _ then none else _)=_
 rw[if_neg (by show¬(((a.size+b.size:Nat):Int)>9223372036854775807);omega)]
theorem CatW.litL{K:ByteArray→Prop}(n:Nat)(h:∀v,v=a++b→v.size=n+b.size→K v)(hn:a.size=n:=by rfl)(hs:n+b.size<9223372036854775808:=by omega):CatW a b K:=by
 subst hn
 exact CatW.go h hs
theorem CatW.litR{K:ByteArray→Prop}(n:Nat)(h:∀v,v=a++b→v.size=a.size+n→K v)(hn:b.size=n:=by rfl)(hs:a.size+n<9223372036854775808:=by omega):CatW a b K:=by
 subst hn
 exact CatW.go h hs
theorem SLenW.go{K:Int→Prop}(h:∀v,v=(s.size:Int)→K v):SLenW s K:=⟨_,rfl,h _ rfl⟩
theorem SIdxW.go{K:Int→Prop}{i:Int}(j:Nat)(h:∀(hj:j<s.size) v,v=((s[j]).toNat:Int)→0≤v∧v<256→K v)(hi:i=(j:Int):=by omega)(hj:j<s.size:=by omega):SIdxW s i K:=by
 subst hi
 exact⟨((s[j].toNat:Nat):Int),by omega,hj,rfl,h hj _ rfl ⟨Int.natCast_nonneg _,Int.ofNat_lt.2 (s[j]).toNat_lt⟩⟩
theorem SSubW.lohi{K:ByteArray→Prop}{lo hi:Int}(h:∀v,v=s.extract lo.toNat hi.toNat→K v)(h0:0≤lo:=by omega)(h1:lo≤hi:=by omega)(h2:hi≤(s.size:Int):=by omega):SSubW s (some lo) (some hi) K:=⟨_,h0,h1,h2,rfl,h _ rfl⟩
theorem SSubW.lo{K:ByteArray→Prop}{lo:Int}(h:∀v,v=s.extract lo.toNat s.size→K v)(h0:0≤lo:=by omega)(h1:lo≤(s.size:Int):=by omega):SSubW s (some lo) none K:=⟨_,h0,h1,Int.le_refl _,rfl,h _ (by simp)⟩
theorem SSubW.hi{K:ByteArray→Prop}{hi:Int}(h:∀v,v=s.extract 0 hi.toNat→K v)(h1:0≤hi:=by omega)(h2:hi≤(s.size:Int):=by omega):SSubW s none (some hi) K:=⟨_,Int.le_refl _,h1,h2,rfl,h _ rfl⟩
end
section
variable {α:Type} {c:α→List D} {l:List α} {xs:List (List D)}
theorem LenW.go{K:Int→Prop}(hx:l.map c=xs)(h:∀v,v=(l.length:Int)→K v):LenW xs K:=⟨_,rfl,h _ (by rw[←hx,List.length_map])⟩
theorem NLenW.go{K:Int→Prop}{n:Nat}(h:∀v,v=(n:Int)→K v):NLenW n K:=⟨_,rfl,h _ rfl⟩
theorem IdxW.go{K:List D→Prop}{i:Int}(j:Nat)(hx:l.map c=xs)(h:∀(hj:j<l.length) x,x=l[j]→K (c x))(hi:i=(j:Int):=by omega)(hj:j<l.length:=by omega):IdxW xs i K:=by
 subst hi hx
 exact⟨_,by omega,by simp[hj],h hj _ rfl⟩
theorem IdxW.goX{K:List D→Prop}{i:Int}(j:Nat)(hx:l.map c=xs)(h:∀(hj:j<l.length) x (f:List D),x=l[j]→c x=f→K f)(hi:i=(j:Int):=by omega)(hj:j<l.length:=by omega):IdxW xs i K:=IdxW.go j hx (fun hj x hx=>h hj x _ hx rfl) hi hj
theorem RowW.go{K:List D→Prop}{i:Nat}(hx:l.map c=xs)(h:∀(hj:i<l.length) x,x=l[i]→K (c x))(hj:i<l.length:=by first|omega|(simp only[List.length_append,List.length_cons,List.length_nil,List.length_set,List.length_replicate];omega)):RowW xs i K:=by
 subst hx
 exact⟨_,by simp[hj],h hj _ rfl⟩
theorem RIdxW.go{K:Nat→Prop}{len:Nat}{i:Int}(j:Nat)(h:∀p,p=j→p<len→K p)(hi:i=(j:Int):=by omega)(hj:j<len:=by omega):RIdxW 0 len i K:=by
 subst hi
 exact⟨j,by omega,by omega,by omega,h j rfl hj⟩
theorem RSetW.go{K:List (List D)→Prop}{i j:Nat}{ds:List D}(x':α)(hx:l.map c=xs)(hj:i<l.length)(hp:Mi (c l[i]) j ds=c x')(hd:j+ds.length≤(c l[i]).length)(h:∀v,(l.set i x').map c=v→K v):RSetW xs i j ds K:=by
 subst hx
 refine⟨_,c l[i],by simp[hj],hd,rfl,h _ ?_⟩
 rw[hp,List.map_set]
theorem RSetW.all{K:List (List D)→Prop}{i:Nat}{ds:List D}(x':α)(hx:l.map c=xs)(hd:ds=c x')(h:∀v,(l.set i x').map c=v→K v)(hj:i<l.length:=by omega)(hl:(c l[i]).length=(c x').length:=by rfl):RSetW xs i 0 ds K:=by
 subst hd
 exact RSetW.go x' hx hj (Xg3 hl) (by rw[hl];omega) h
theorem MakeW.go{K:Nat→List (List D)→Prop}{n:Int}{bytes:Nat}(x:α)(h:∀v l,l=n.toNat→(List.replicate n.toNat x).map c=v→K l v)(h0:0≤n:=by omega)(h2:bytes*n≤2^48:=by omega)(h3:n<2^63:=by omega):MakeW n n bytes (c x) K:=
 ⟨_,_,h0,Int.le_refl _,h2,h3,rfl,rfl,h _ _ rfl (by rw[List.map_replicate])⟩
theorem AppW.one{K:Nat→List (List D)→Prop}{len bytes:Nat}{ds:List D}(x:α)(hx:l.map c=xs)(hd:ds=c x)(h:∀n v,n=l.length+1→(l++[x]).map c=v→K n v)(hl:len=l.length:=by first|omega|(simp only[List.length_append,List.length_cons,List.length_nil,List.length_set,List.length_replicate];omega))(hb:(2*(l.length+1)+1024)*bytes≤2^48:=by first|omega|(simp only[List.length_append,List.length_cons,List.length_nil,List.length_set,List.length_replicate];omega))(hb2:l.length+1<2^62:=by first|omega|(simp only[List.length_append,List.length_cons,List.length_nil,List.length_set,List.length_replicate];omega)):
  AppW 0 len xs (.sub [ds] 0 1) bytes K:=by
 subst hx hd hl
 exact⟨_,_,[c x],rfl,rfl,by simp,by simpa using hb,by simpa using hb2,rfl,rfl,h _ _ (by simp) (by simp)⟩
theorem AppW.row{K:Nat→List (List D)→Prop}{len bytes:Nat}{ys:List (List D)}{m:List α}(hx:l.map c=xs)(hy:m.map c=ys)(h:∀n v,n=l.length+m.length→(l++m).map c=v→K n v)(hl:len=l.length:=by first|omega|(simp only[List.length_append,List.length_cons,List.length_nil,List.length_set,List.length_replicate];omega))(hb:(2*(l.length+m.length)+1024)*bytes≤2^48:=by first|omega|(simp only[List.length_append,List.length_cons,List.length_nil,List.length_set,List.length_replicate];omega))(hb2:l.length+m.length<2^62:=by first|omega|(simp only[List.length_append,List.length_cons,List.length_nil,List.length_set,List.length_replicate];omega)):
  AppW 0 len xs (.row ys) bytes K:=by
 subst hx hy hl
 exact⟨_,_,_,rfl,rfl,by simp,by simpa using hb,by simpa using hb2,rfl,rfl,h _ _ (by simp) (by simp)⟩
theorem AppW.sub{K:Nat→List (List D)→Prop}{len n bytes:Nat}{ys:List (List D)}{m:List α}(hx:l.map c=xs)(hy:m.map c=ys)(h:∀n v,n=l.length+m.length→(l++m).map c=v→K n v)(hl:len=l.length:=by first|omega|(simp only[List.length_append,List.length_cons,List.length_nil,List.length_set,List.length_replicate];omega))(hn:n=m.length:=by first|omega|(simp only[List.length_append,List.length_cons,List.length_nil,List.length_set,List.length_replicate];omega))(hb:(2*(l.length+m.length)+1024)*bytes≤2^48:=by first|omega|(simp only[List.length_append,List.length_cons,List.length_nil,List.length_set,List.length_replicate];omega))(hb2:l.length+m.length<2^62:=by first|omega|(simp only[List.length_append,List.length_cons,List.length_nil,List.length_set,List.length_replicate];omega)):
  AppW 0 len xs (.sub ys 0 n) bytes K:=by
 subst hx hy hl hn
 exact⟨_,_,m.map c,by simp[Src.val,←List.map_take],rfl,by simp,by simpa using hb,by simpa using hb2,rfl,rfl,h _ _ (by simp) (by simp)⟩
end
theorem RBytesW.go{K:ByteArray→Prop}{xs:List (List D)}{n:Nat}{l:List UInt8}(hx:l.map cB=xs)(h:∀v,v=tx l→K v)(hn:n=l.length:=by first|omega|(simp only[List.length_append,List.length_cons,List.length_nil,List.length_set,List.length_replicate];omega)):RBytesW xs 0 n K:=by
 subst hx hn
 refine⟨_,l.map fun b=>(b.toNat:Int),by simp,?_,rfl,h _ ?_⟩
 ·rw[List.drop_zero,show l.length=(l.map cB).length by simp,List.take_length]
  exact Jr l
 ·rw[←Xcc];show _=(match Gw (l.map cB)with|some ns=>D3 ns|none=>default);rw[Jr]
open Go
section
variable {P:Program} {ops:Array Oper} {i nb:Nat} {o:Oper} {sl:Nat→AV} {rt:Nat→Option Root} {o0 out:Out} {cl:Call}
theorem OpSem.callB{x:Operand}{f:FuncId}{caps ys as0:List AV}{π X:List Nat}{r0:List Root}(ho:ops[i]? =some o)(hg:Ey ops o sl=some true)(hop:o.op= .call cl)(hc:cl.callee= .value x)(hx:Bw sl x= .clo f caps)
  (ha:ArgR sl cl.args.toList ys)(he:Gt P f)(has:AV.rens (Az π nb o0.new.length) as0=some (ys++caps))(hcall:CallOk P f as0 r0 o0)
  (hren:o0.ren (Az π nb o0.new.length)=some out)(hlen:π.length=r0.length)(hnd:π.Nodup)(hlt:∀r∈π,r<nb)(hin:∀r∈π,r∈AV.idss (ys++caps)++X)
  (hX:∀r∈X,∃q∈AV.idss (ys++caps),∃t l,rt q=some (.box t l)∧r∈AV.idss l)
  (hrt:∀(j:Nat) r R,π[j]? =some r→r0[j]? =some R→∃R',rt r=some R'∧R≠.dead∧R.ren (Az π nb o0.new.length)=some R'):
  OpSem P ops i (AV.idss (ys++caps)++X) sl rt nb ⟨out.av,out.new,out.g⟩:=by
 refine⟨o,ho,?_⟩
 intro c E a hM hlk hT hnb hF K Q k
 unfold wpOp
 rw[ho]
 simp only[B8 hlk hg,if_true]
 left
 have hz':=(LendsR.refl (rt:=rt) (ys++caps)).agr (hT.sub fun r hr=>by simp[hr])
 obtain⟨us,hus,hargs,hex⟩:=Uu hM hlk hop hc hx ha hz'
 have hEq:∀r∈AV.idss (ys++caps)++X,(∃R,rt r=some R)→E.rt r=rt r:=by
  rintro r hr ⟨R,hR⟩
  rcases hT r hr with h|h
  ·rw[h]at hR;cases hR
  ·exact h
 have hpr1:∀r∈AV.idss (ys++caps),∀R,E.rt r=some R→R≠.dead→E.pres r:=by
  intro r hr R hR hd
  obtain⟨j,y,hy,hmem⟩:=Tv hr
  obtain⟨v,hv⟩:=hex j y hy
  exact L4 hv hmem hR hd
 have hpr:∀r∈AV.idss (ys++caps)++X,∀R,E.rt r=some R→R≠.dead→E.pres r:=by
  intro r hr R hR hd
  rcases List.mem_append.1 hr with hr|hr
  ·exact hpr1 r hr R hR hd
  ·obtain⟨q,hq,t,l,hql,hrl⟩:=hX r hr
   have h1:E.rt q=some (.box t l):=(hEq q (by simp[hq]) ⟨_,hql⟩).trans hql
   obtain⟨b,cs,fr,_,_,_,h4,_⟩:=hM.roots q _ (hpr1 q hq _ h1 (by simp)) h1
   obtain⟨j,y,hy,hmem⟩:=Tv hrl
   obtain⟨u,_,_,hu⟩:=h4 j y hy
   exact L4 hu hmem hR hd
 have hrows:∀r∈([]:List Nat),Fu E r:=by simp
 have hM':=Oi hM hrows
 have hF':Fresh c (E.lent []) nb out.new:=by
  refine⟨hF.m,?_,hF.np⟩
  intro k R hk
  show(if nb+k∈[]then(E.rt (nb+k)).map Yg else E.rt (nb+k))=some R
  rw[if_neg (by simp)]
  exact hF.rt k R hk
 have hnew:E4 (Az π nb o0.new.length) o0.new=some out.new:=by
  unfold Out.ren at hren
  obtain⟨av,_,hren⟩:=Option.bind_eq_some_iff.1 hren
  obtain⟨new,hnew,hren⟩:=Option.bind_eq_some_iff.1 hren
  obtain⟨g,_,rfl⟩:=Option.map_eq_some_iff.1 hren
  exact hnew
 have H:Handed (E.lent []) π nb r0 o0.new out.new:=by
  refine⟨hlen,hnd,hlt,?_,?_,hnew⟩
  ·intro r hr
   obtain⟨j,hj,hgj⟩:=List.getElem_of_mem hr
   have hlt0:j<r0.length:=by rw[←hlen];exact hj
   obtain⟨R',h1,hd,h2⟩:=hrt j r r0[j] (List.getElem?_eq_some_iff.2 ⟨hj,hgj⟩) (List.getElem?_eq_getElem hlt0)
   have h3:E.rt r=some R':=(hEq r (hin r hr) ⟨_,h1⟩).trans h1
   exact hpr r (hin r hr) R' h3 (fun e=>hd ((G5 h2).1 e))
  ·intro j r R hj hR
   obtain⟨R',h1,_,h2⟩:=hrt j r R hj hR
   have hr:=List.mem_of_getElem? hj
   refine⟨R',?_,h2⟩
   show(if r∈[]then(E.rt r).map Yg else E.rt r)=some R'
   rw[if_neg (by simp)]
   exact(hEq r (hin r hr) ⟨_,h1⟩).trans h1
 have key:=CallOk.at hM' hcall hF' H hren has hargs
 unfold Oper.wp
 rw[Yt hop hc hus he]
 show Calls P f _ E.w _
 refine Calls.mono key ?_
 rintro e w' ⟨v,E1,rfl,rfl,hO,_⟩
 refine k v E1 ⟨hO.mem,lent_step.trans hO.step,?_,hO.pres,hO.size,hO.rel⟩
 rw[hO.rt]
 have:=U3 (E:=E) (rt:=rt) [] (fun r hr=>by simp at hr)
 rw[←this]
 rfl
end
def bxX(rt:List Root)(ids:List Nat)(r:Nat):Bool:=ids.any fun q=>match rt[q]? with|some (.box _ l)=>(AV.idss l).contains r|_=>false
def ndB:Root→Bool
 | .dead=>false
 |_=>true
theorem CallW.bx{P P':Program}{f:FuncId}{ys as0:List AV}{rt r0 rs:List Root}{K:Out→List Nat→Prop}{o0 out:Out}(π X:List Nat)(hP:P'=P)(h:Fn P f as0 r0 o0)
  (has:AV.rens (Az π rt.length o0.new.length) as0=some ys)(hren:o0.ren (Az π rt.length o0.new.length)=some out)(hrs:E4 (Az π rt.length o0.new.length) r0=some rs)
  (hrt:π.map (fun r=>rt[r]?)=rs.map some)(k:K ⟨out.av,out.new,out.g⟩ (AV.idss ys++X))(hnd0:r0.all ndB=true:=by rfl)(hlen:π.length=r0.length:=by rfl)(hnd:π.Nodup:=by decide)
  (hlt:(π.all fun r=>Nat.blt r rt.length)=true:=by rfl)(hin:(π.all fun r=>(AV.idss ys++X).contains r)=true:=by rfl)(hX:X.all (bxX rt (AV.idss ys))=true:=by rfl)
  (hg:(out.g.all fun p=>Nat.blt p.1 (rt.length+out.new.length))=true:=by rfl):CallW P' f ys rt K:=by
 subst hP
 refine⟨fun o st hst hc=>?_⟩
 subst hst
 obtain⟨cl,x,caps,ys0,hgd,hop,hcl,hx,ha,rfl⟩:=hc
 refine .mk ⟨out.av,out.new,out.g⟩ _ (OpSem.callB (X:=X) (π:=π) rfl (Pn hgd) hop hcl hx ha h.ent has h.ok hren hlen hnd ?_ ?_ ?_ ?_) ?_ k
 ·intro r hr
  simpa[Nat.blt_eq]using List.all_eq_true.1 hlt r hr
 ·intro r hr
  simpa using List.all_eq_true.1 hin r hr
 ·intro r hr
  have:=List.all_eq_true.1 hX r hr
  unfold bxX at this
  obtain⟨q,hq,h'⟩:=List.any_eq_true.1 this
  split at h'
  ·rename_i t l e
   exact⟨q,hq,t,l,e,by simpa using h'⟩
  ·cases h'
 ·intro j r R hj hR
  obtain⟨hl,hg'⟩:=Fj hrs
  obtain⟨R',h1,h2⟩:=hg' j R hR
  refine⟨R',?_,?_,h2⟩
  ·have:=congrArg (·[j]?) hrt
   simp only[List.getElem?_map,hj,h1,Option.map_some,Option.some.injEq]at this
   exact this
  ·rintro rfl
   have:=List.all_eq_true.1 hnd0 _ (List.mem_of_getElem? hR)
   cases this
 ·intro p hp
  simpa[Nat.blt_eq]using List.all_eq_true.1 hg p hp
theorem StrBW.go{s:ByteArray}{K:Nat→List (List D)→Prop}(h:∀n v,n=s.data.toList.length→s.data.toList.map cB=v→K n v):StrBW s K:=⟨_,_,rfl,rfl,h _ _ (by rw[Array.length_toList];rfl) rfl⟩
theorem AppBW.go{P P':Program}{t e len:Nat}{bs:List UInt8}{s:ByteArray}{K:Nat→List UInt8→Prop}(hP:P'=P)(hu:P.underlying t=some (.slice e))(h:∀n v,n=bs.length+s.size→v=bs++s.data.toList→K n v)(hl:len=bs.length:=by omega)(hb:bs.length+s.size<2^46:=by omega):AppBW P' t e 1 len bs s K:=by
 subst hP
 exact⟨_,_,hu,hl,by omega,by omega,rfl,rfl,h _ _ rfl rfl⟩
theorem Z6{c:Ctx}{E:Env}{vs:Array Value}{T:TypeId}{l:List AV}(hM:Mem c E)(hA:Xfr E [.ptr 0 0 0] vs)(hr:E.rt 0=some (.box T l)):
  ∃b cs fr,vs= #[.pointer (some ⟨b,0,none⟩)]∧E.pres 0∧E.β 0=some b∧E.w.heap[b]? =some (.cells cs T fr)∧cs.size=l.length∧(∀(j:Nat) y,l[j]? =some y→∃u,cs[j]? =some u∧u.oneCell'=true∧RelAV E y u)∧¬E.S b∧Kp cs.size fr:=by
 obtain⟨hs,h⟩:=hA
 have h0:=h 0 _ rfl
 have hvs:vs= #[vs.getD 0 undef]:=by
  match vs,hs with
  |⟨[v]⟩,_=>rfl
 rw[hvs]
 generalize vs.getD 0 undef=v at h0
 cases h0 with
 |dptr _ _ _ _ h1 _=>rw[hr]at h1;cases h1
 |ptr _ _ _ R b h1 h2 h3=>
  rw[hr]at h1
  obtain rfl:=Option.some.inj h1
  obtain⟨b',cs,fr,g1,g2,g3,g4,g5,g6⟩:=hM.roots 0 _ h2 hr
  rw[h3]at g1
  obtain rfl:=Option.some.inj g1
  exact⟨b,cs,fr,by simp[Root.kind],h2,h3,g2,g3,g4,g5,g6⟩
theorem Uk{p:Prop}{n x:Nat}:p↔p∨(n≤x∧x<n+0):=⟨.inl,fun h=>h.elim id (fun h=>by omega)⟩
theorem Xlw{P:Program}{f:FuncId}{T:TypeId}{y:AV}{R1:Root}
  (hraw:∀(b:Nat) (w:World),w.cell? ⟨b,0,none⟩=some (.pointer none)→w.shape? b=some (T,2)→w.frozen? ⟨b,0,none⟩=false→Calls P f #[.pointer (some ⟨b,0,none⟩)] w fun e w'=>e= .returned (.tuple #[])∧w'=w.setCell ⟨b,0,none⟩ (.pointer (some ⟨b,0,none⟩))):
  CallOk P f [.ptr 0 0 0] [.box T [.d (.sc (.pointer none)),y],R1] ⟨.tup [],[],[(0,.box T [.ptr 0 0 0,y])]⟩:=by
 intro w S β vs hM hA
 have hr:(Bh w S β [.box T [.d (.sc (.pointer none)),y],R1] []).rt 0=some (.box T [.d (.sc (.pointer none)),y]):=rfl
 obtain⟨b,cs,fr,rfl,hp,hb,hh,hsz,hcs,hnS,hfr⟩:=Z6 hM hA hr
 generalize hE:Bh w S β [.box T [.d (.sc (.pointer none)),y],R1] []=E at*
 have hw:E.w=w:=by rw[←hE];rfl
 subst hw
 have hsz:cs.size=2:=hsz
 obtain⟨u0,aa,_,hrel0⟩:=hcs 0 _ rfl
 obtain⟨u1,ab,ac,hrel1⟩:=hcs 1 _ rfl
 have e0:u0= .pointer none:=R4 hrel0
 subst e0
 refine(hraw b E.w (by simp[World.cell?,hh,aa]) (by simp[World.shape?,hh,hsz]) (L5 hh hfr (by omega))).mono ?_
 rintro e w' ⟨rfl,rfl⟩
 obtain⟨cs',hW,hget⟩:=Fz b T fr [.pointer (some ⟨b,0,none⟩)] 0 E.w cs hh (by simp;omega)
 have hW':Wrote E.w (E.w.setCell ⟨b,0,none⟩ (.pointer (some ⟨b,0,none⟩))) b cs cs' T fr:=hW
 have st:Step E (E.upd 0 (.box T [.ptr 0 0 0,y]) (E.w.setCell ⟨b,0,none⟩ (.pointer (some ⟨b,0,none⟩)))):=Step.upd hr (.inr rfl) (fun x hx=>hW'.others x (fun e=>hnS (e▸hx))) (hW'.shape hh)
 have hrt0:(E.upd 0 (.box T [.ptr 0 0 0,y]) (E.w.setCell ⟨b,0,none⟩ (.pointer (some ⟨b,0,none⟩)))).rt 0=some (.box T [.ptr 0 0 0,y]):=by simp[Env.upd]
 obtain⟨hM',st'⟩:=hM.upd (R:=.box T [.d (.sc (.pointer none)),y]) (R':=.box T [.ptr 0 0 0,y]) hp hr (by simp) rfl hb hnS hh hW' (by
  refine⟨b,cs',fr,hb,hW'.at_,by rw[hW'.size];exact hsz,?_,hnS,by rw[hW'.size];exact hfr⟩
  intro j z hz
  rw[hget]
  match j,hz with
  |0,hz=>
   simp only[List.getElem?_cons_zero,Option.some.injEq]at hz
   subst hz
   refine⟨_,by simp;rfl,rfl,?_⟩
   have:=RelAV.ptr 0 0 0 _ b hrt0 hp hb
   simpa[Root.kind]using this
  |1,hz=>
   simp at hz
   subst hz
   exact⟨u1,by simpa using ab,ac,hrel1.step st⟩
  |j+2,hz=>simp at hz)
 refine⟨_,_,rfl,?_,hM',st',?_,?_,?_,.tup [] #[] rfl (by simp)⟩
 ·rfl
 ·funext x;rfl
 ·exact fun x=>Uk
 ·show _≤(E.w.setCell _ _).heap.size
  rw[hW'.hsize];exact Nat.le_refl _
theorem Xk1{P:Program}{f:FuncId}{T:TypeId}{y:AV}{R1:Root}
  (hraw:∀(b:Nat) (w:World),w.cell? ⟨b,0,none⟩=some (.pointer (some ⟨b,0,none⟩))→Calls P f #[.pointer (some ⟨b,0,none⟩)] w fun e w'=>e= .returned (.tuple #[])∧w'=w):
  CallOk P f [.ptr 0 0 0] [.box T [.ptr 0 0 0,y],R1] ⟨.tup [],[],[]⟩:=by
 intro w S β vs hM hA
 have hr:(Bh w S β [.box T [.ptr 0 0 0,y],R1] []).rt 0=some (.box T [.ptr 0 0 0,y]):=rfl
 obtain⟨b,cs,fr,rfl,hp,hb,hh,hsz,hcs,hnS,hfr⟩:=Z6 hM hA hr
 generalize hE:Bh w S β [.box T [.ptr 0 0 0,y],R1] []=E at*
 have hw:E.w=w:=by rw[←hE];rfl
 subst hw
 obtain⟨u0,aa,_,hrel0⟩:=hcs 0 _ rfl
 have e0:u0= .pointer (some ⟨b,0,none⟩):=by
  cases hrel0 with
  |dptr _ _ _ _ h1 _=>rw[hr]at h1;cases h1
  |ptr _ _ _ R b' h1 h2 h3=>
   rw[hb]at h3
   obtain rfl:=Option.some.inj h3
   rw[hr]at h1
   obtain rfl:=Option.some.inj h1
   simp[Root.kind]
 subst e0
 refine(hraw b E.w (by simp[World.cell?,hh,aa])).mono ?_
 rintro e w' ⟨rfl,rfl⟩
 refine⟨_,E,rfl,rfl,hM,Step.refl E,rfl,?_,Nat.le_refl _,.tup [] #[] rfl (by simp)⟩
 exact fun x=>Uk
theorem XaY{w:World}{g n:Nat}{cs:Array Value}{t:TypeId}{fr:Nat×Nat}(hn:n≠0)(h:w.heap[g]? =some (.cells cs t fr)):∃fr',Wrote w (w.freeze ⟨g,0,none⟩ n) g cs cs t fr':=by
 obtain⟨lo,hi⟩:=fr
 refine⟨if lo==hi then(0,0+n)else(min lo 0,max hi (0+n)),⟨?_,rfl,?_,?_,?_,?_,?_⟩⟩
 ·simp only[World.freeze,if_neg hn,Array.getElem?_modify,if_true,h,Option.map_some]
 ·intro x hx
  simp only[World.freeze,if_neg hn,Array.getElem?_modify]
  rw[if_neg (fun e=>hx e.symm)]
 ·simp[World.freeze,if_neg hn]
 ·simp[World.freeze,if_neg hn]
 ·simp[World.freeze,if_neg hn]
 ·simp[World.freeze,if_neg hn]
theorem Xf7{P:Program}{f:FuncId}{T e:TypeId}{x:AV}{bs:List UInt8}{n:Nat}(hn:n=bs.length)(h0:bs≠[])
  (hraw:∀(b g cap cells:Nat) (w:World),w.cell? ⟨b,1,none⟩=some (.slice (some ⟨g,0,none⟩) bs.length cap)→bs.length≤cap→w.shape? g=some (e,cells)→bs.length≤cells→
   (∀(j:Nat) u,bs[j]? =some u→w.cell? ((⟨g,0,none⟩:Addr).add j)=some (.int .u8 u.toNat))→Calls P f #[.pointer (some ⟨b,0,none⟩)] w fun en w'=>en= .returned (.string ⟨bs.toArray⟩)∧w'=w.drew.freeze ⟨g,0,none⟩ bs.length):
  CallOk P f [.ptr 0 0 0] [.box T [x,.ref 1 0 n],.buf e false bs] ⟨.d (.sc (.string ⟨bs.toArray⟩)),[],[(1,.buf e true bs)]⟩:=by
 subst hn
 have ab:bs.length≠0:=by simpa using h0
 intro w S β vs hM hA
 have hr:(Bh w S β [.box T [x,.ref 1 0 bs.length],.buf e false bs] []).rt 0=some (.box T [x,.ref 1 0 bs.length]):=rfl
 have aa:(Bh w S β [.box T [x,.ref 1 0 bs.length],.buf e false bs] []).rt 1=some (.buf e false bs):=rfl
 obtain⟨b,cs,fr,rfl,hp,hb,hh,hsz,hcs,hnS,hfr⟩:=Z6 hM hA hr
 have ac:(Bh w S β [.box T [x,.ref 1 0 bs.length],.buf e false bs] []).pres 1:=by show 1<2;omega
 generalize hE:Bh w S β [.box T [x,.ref 1 0 bs.length],.buf e false bs] []=E at*
 have hw:E.w=w:=by rw[←hE];rfl
 subst hw
 obtain⟨u1,ad,ae,hrel1⟩:=hcs 1 _ rfl
 rcases hM.roots 1 _ ac aa with⟨_,h2⟩|⟨g,cs1,fr1,g1,g2,g3,g4,g5,g6⟩
 ·exact absurd h2 h0
 have key:∃cap,u1= .slice (some ⟨g,0,none⟩) bs.length cap∧bs.length≤cap:=by
  generalize hl:bs.length=ln at hrel1
  cases hrel1 with
  |dref _ _ _ _ h1 _=>rw[aa]at h1;cases h1
  |refz _ _ R sz a h1 hk h2=>exact absurd hl ab
  |ref _ _ _ R sz g' cap t nn h1 hk h2 h3 h4 h5 h6=>
   rw[g1]at h3
   obtain rfl:=Option.some.inj h3
   exact⟨cap,by simp,h5⟩
 obtain⟨cap,rfl,hcap⟩:=key
 refine(hraw b g cap cs1.size E.w (by simp[World.cell?,hh,ad]) hcap (by simp[World.shape?,g2]) g3 (by
  intro j u hj
  have:=g4 j u hj
  rw[show((⟨g,0,none⟩:Addr).add j)=⟨g,j,none⟩by simp[G6]]
  simp[World.cell?,g2,this])).mono ?_
 rintro en w' ⟨rfl,rfl⟩
 obtain⟨fr',hW⟩:=XaY (w:=E.w.drew) (n:=bs.length) ab g2
 obtain⟨hM',st'⟩:=hM.drew.upd (E:=E.drew) (R:=.buf e false bs) (R':=.buf e true bs) ac aa (by simp) rfl g1 g5 g2 hW (.inr ⟨g,cs1,fr',g1,hW.at_,g3,g4,g5,fun h=>by cases h⟩)
 refine⟨_,_,rfl,?_,hM',(Step.drew E).trans st',?_,?_,?_,.d _ _ (.sc _ rfl)⟩
 ·rfl
 ·funext x;rfl
 ·exact fun x=>Uk
 ·show _≤(E.w.drew.freeze _ _).heap.size
  rw[hW.hsize];exact Nat.le_refl _
theorem EndQ.of{P:Program}{rs:Array ResultVar}{r0:List Root}{o:Out}{st:St}{e:Exit}{l:List AV}(ids:List Nat)(he:e= .ret∨e= .normal)(h:Lm P st rs.toList=some l)(hav:(XcJ l).ren (D8 r0.length ids)=some o.av)
  (hnew:ids.map (fun i=>(st.rt[i]?).bind (Root.ren (D8 r0.length ids)))=o.new.map some)(h1:(List.range r0.length).map (fun r=>(st.rt[r]?).bind (Root.ren (D8 r0.length ids)))=(List.range r0.length).map (fun r=>Mq o.g (fun r=>r0[r]?) r))
  (h2:((List.range r0.length).all fun r=>(Mq o.g (fun r=>r0[r]?) r).isSome)=true:=by rfl)(hids:(ids.all fun i=>Nat.ble r0.length i)=true:=by rfl)(hnd:ids.Nodup:=by decide)(hg:(o.g.all fun p=>Nat.blt p.1 r0.length)=true:=by rfl):EndQ P rs r0 o e st:=by
 have key:XjG P rs r0 o st:=by
  refine⟨ids,l,h,hav,?_,hnd,?_,?_,?_,?_⟩
  ·intro i hi
   exact Nat.le_of_ble_eq_true (List.all_eq_true.1 hids i hi)
  ·simpa using congrArg List.length hnew
  ·intro k i R hk hR
   have:=congrArg (·[k]?) hnew
   simp only[List.getElem?_map,hk,hR,Option.map_some,Option.some.injEq]at this
   obtain⟨R0,g1,g2⟩:=Option.bind_eq_some_iff.1 this
   exact⟨R0,g1,g2⟩
  ·intro r R hr
   have hlt:r<r0.length:=(List.getElem?_eq_some_iff.1 hr).1
   have a1:=congrArg (·[r]?) h1
   have a2:=List.all_eq_true.1 h2 r (List.mem_range.2 hlt)
   simp only[List.getElem?_map,List.getElem?_range hlt,Option.map_some,Option.some.injEq]at a1
   obtain⟨R1,hx⟩:=Option.isSome_iff_exists.1 a2
   rw[hx]at a1
   obtain⟨R0,g1,g2⟩:=Option.bind_eq_some_iff.1 a1
   exact⟨R0,R1,g1,g2,hx⟩
  ·intro p hp
   simpa[Nat.blt_eq]using List.all_eq_true.1 hg p hp
 rcases he with rfl|rfl<;>exact key
theorem AppW.str{K:Nat→List (List D)→Prop}{len bytes:Nat}{xs:List (List D)}{l:List UInt8}{s:ByteArray}(hx:l.map cB=xs)(h:∀n v,n=l.length+s.size→(l++s.data.toList).map cB=v→K n v)(hl:len=l.length:=by first|omega|(simp only[List.length_append,List.length_cons,List.length_nil,List.length_set,List.length_replicate];omega))
  (hb:(2*(l.length+s.size)+1024)*bytes≤2^48:=by first|omega|(simp only[List.length_append,List.length_cons,List.length_nil,List.length_set,List.length_replicate];omega))(hb2:l.length+s.size<2^62:=by first|omega|(simp only[List.length_append,List.length_cons,List.length_nil,List.length_set,List.length_replicate];omega)):
  AppW 0 len xs (.str s) bytes K:=by
 subst hx hl
 have e:strRow s=s.data.toList.map cB:=rfl
 have el:(strRow s).length=s.size:=by rw[e,List.length_map];exact Array.length_toList
 exact⟨_,_,strRow s,rfl,rfl,by simp,by rw[el];simpa using hb,by rw[el];simpa using hb2,rfl,rfl,h _ _ (by simp[el]) (by rw[e];simp)⟩
theorem AllAW.go{P P':Program}{t:TypeId}{K:List (List D)→Prop}(n:Nat)(hP:P'=P)(hz:La P t=some (List.replicate n (.int .u8 0,0)))(h:∀v,(List.replicate n (0:UInt8)).map cB=v→K v):AllAW P' t K:=by
 subst hP
 exact⟨n,.u8,_,hz,rfl,h _ (by rw[List.map_replicate];rfl)⟩
theorem AIdxW.go{P P':Program}{t n e:Nat}{j:Int}{K:Nat→Prop}(hP:P'=P)(hu:P.underlying t=some (.array n e))(hs:szT P e=some 1)(h:∀p,p=j.toNat→K p)(h0:0≤j:=by omega)(h1:j<(n:Int):=by omega):AIdxW P' t j K:=by
 subst hP
 exact⟨n,e,_,hu,hs,h0,h1,rfl,h _ rfl⟩
theorem ASlcW.lo{α:Type}{c:α→List D}{l:List α}{P P':Program}{t n e:Nat}{lo:Int}{xs:List (List D)}{K:Nat→Nat→Prop}(hP:P'=P)(hx:l.map c=xs)(hu:P.underlying t=some (.array n e))(hs:szT P e=some 1)
  (h:∀o m,o=lo.toNat→m=n - lo.toNat→K o m)(hn:l.length=n:=by first|omega|(simp;omega))(h0:0≤lo:=by omega)(h1:lo≤(n:Int):=by omega):ASlcW P' t xs (some lo) none K:=by
 subst hP hx
 exact⟨n,e,_,_,hu,hs,by simpa using hn,h0,h1,Int.le_refl _,rfl,rfl,h _ _ rfl (by simp)⟩
theorem RBytesW.off{K:ByteArray→Prop}{xs:List (List D)}{o n:Nat}{l:List UInt8}(hx:l.map cB=xs)(h:∀v,v=tx ((l.drop o).take n)→K v)(hn:o+n≤l.length:=by first|omega|(simp;omega)):RBytesW xs o n K:=by
 subst hx
 refine⟨_,((l.drop o).take n).map fun b=>(b.toNat:Int),by simpa using hn,?_,rfl,h _ ?_⟩
 ·rw[←List.map_drop,←List.map_take]
  exact Jr _
 ·have h2:=Xcc (l:=(l.drop o).take n)
  rw[←h2]
  show _=(match Gw (((l.drop o).take n).map cB)with|some ns=>D3 ns|none=>default)
  rw[Jr]
theorem AClrW.go{α:Type}{c:α→List D}{l:List α}{P P':Program}{t e off len:Nat}{xs:List (List D)}{K:List (List D)→Prop}(z0:α){z:Value}(hP:P'=P)(hx:l.map c=xs)(hu:P.underlying t=some (.slice e))(hz:La P e=some [(z,0)])(hc:c z0=[.sc z])
  (h:∀v,(l.take off++(List.replicate len z0++l.drop (off+len))).map c=v→K v)(hn:off+len≤l.length:=by omega):AClrW P' t 1 xs off len K:=by
 subst hP hx
 refine⟨e,_,[z],_,hu,hz,rfl,Nat.one_pos,rfl,by simpa using hn,rfl,?_⟩
 have e1:H6 (l.map c) off len ([z].map D.sc)=(l.take off++(List.replicate len z0++l.drop (off+len))).map c:=by
  unfold H6
  simp[hc]
 rw[e1]
 exact h _ rfl
end
section
open Go Go.Proofs Go.Shelf Go.RowKit
def E7(c:UInt8):Nat:=if 48≤c.toNat∧c.toNat≤57 then c.toNat - 48 else if 97≤(c|||32).toNat∧(c|||32).toNat≤102 then(c|||32).toNat - 87 else 16
def F9:Nat→List UInt8→Option Nat
 |acc,[]=>some acc
 |acc,c::l=>if E7 c<16 then F9 (16*acc+E7 c) l else none
def puEnd(T:TypeId):Option Nat→Value
 |some n=>.tuple #[.int .u64 n,.nilIface]
 |none=>.tuple #[.int .u64 0,.iface T (.int .i64 2)]
theorem Xi5(c:UInt8):bits .or .u8 (c.toNat:Int) 32=((c|||32).toNat:Int):=by
 have key:∀i:Fin 256,bits .or .u8 ((UInt8.ofNat i.val).toNat:Int) 32=((UInt8.ofNat i.val|||32).toNat:Int):=by decide+kernel
 have e:UInt8.ofNat c.toNat=c:=by simp
 have:=key ⟨c.toNat,c.toNat_lt⟩
 rw[e]at this
 exact this
section
variable {P:Program} {ρ:Ren}
theorem XlW(L:Lays.n321 P ρ)(c:UInt8)(X:Int)(hX:X=((c|||32).toNat:Int))(w:World):
  Calls P (ρ.f 321) #[.int .u8 c.toNat] w fun e w'=>e= .returned (.int .u8 X)∧w'=w:=by
 refine(Any.internal_strconv_lower L _ _).mono ?_
 rintro e w' ⟨rfl,rfl⟩
 rw[Xi5,hX]
 exact⟨rfl,rfl⟩
set_option maxHeartbeats 32000000 in
set_option maxRecDepth 100000 in
theorem pu16(L:Lays.n287 P ρ)(t:ByteArray)(hne:t.size≠0)(hmax:t.size≤8)(w:World):
  Calls P (ρ.f 287) #[.string t,.int .i64 16,.int .i64 32] w fun e w'=>e= .returned (puEnd (ρ.t 167) (F9 0 t.data.toList))∧w'=Lib.bytesWorld w (ρ.t 5) t:=by
 have mixed:=L.mixed
 have t9:=L.t9;have a9:=L.a9;have z9:=L.z9;have v9:=L.v9
 have t3:=L.t3;have a3:=L.a3;have z3:=L.z3;have v3:=L.v3
 have t53:=L.t53;have a53:=L.a53;have z53:=L.z53;have v53:=L.v53
 have t75:=L.t75;have a75:=L.a75;have z75:=L.z75;have v75:=L.v75
 have t4:=L.t4;have a4:=L.a4;have z4:=L.z4;have v4:=L.v4
 have t167:=L.t167;have a167:=L.a167;have z167:=L.z167;have v167:=L.v167
 have t5:=L.t5;have a5:=L.a5;have z5:=L.z5;have v5:=L.v5
 have t46:=L.t46;have a46:=L.a46;have z46:=L.z46;have v46:=L.v46
 have t37:=L.t37;have a37:=L.a37;have z37:=L.z37;have v37:=L.v37
 have t0:=L.t0;have a0:=L.a0;have z0:=L.z0;have v0:=L.v0
 have e321:∀args w,(callFunc (ρ.f 321) args).run P w= .ok (.enter (ρ.f 321) args) w:=enters_of L.f321 (by kernel_rfl) rfl
 have hemp:t.toList.isEmpty=false:=by
  rw[←decide_eq_emptyBytes]
  exact decide_eq_false (fun h=>hne (by rw[h];rfl))
 have hcv:=Lib.run_convert_string_bytes (P:=P) w (ρ.t 9) (ρ.t 37) (ρ.t 5) t (u:=.string) L.t9 L.t37 L.t5
 have hB:∀j,j<t.size→(Lib.bytesWorld w (ρ.t 5) t).cell? ⟨w.heap.size,j,none⟩=some (.int .u8 (t.data.toList.getD j 0).toNat):=fun j hj=>Lib.bytesWorld_cell w (ρ.t 5) t j hj
 obtain⟨W1,hW1⟩:∃W1,W1=Lib.bytesWorld w (ρ.t 5) t:=⟨_,rfl⟩
 rw[←hW1]at hcv hB⊢
 clear hW1
 obtain⟨bs,hL⟩:∃bs,bs=t.data.toList:=⟨_,rfl⟩
 have hLn:bs.length=t.size:=by rw[hL,Lib.size_eq]
 rw[←hL]at hB⊢
 clear hL
 have hmv:IntKind.u64.wrap (IntKind.u64.wrap 4294967296 - 1)=4294967295:=by
  rw[IntKind.wrap_u64,IntKind.wrap_u64]
  decide
 have hpow:∀k,k<8→16^k*16≤4294967296:=by
  intro k hk
  have:=Nat.pow_le_pow_right (n:=16) (by decide) (show k+1≤8 by omega)
  rw[Nat.pow_succ]at this
  exact this
 go_enter L.f287,Body.n287_ntmps ρ
 go_wp2
 go_loop [12,13,101] (fun vu vn vi=>∃(k acc:Nat) (a:Int),vu= .bool false∧vn= .int .u64 a∧vi= .int .i64 k∧k≤t.size∧Hid (a=(acc:Int)∧acc<16^k∧F9 0 bs=F9 acc (bs.drop k)))
  (fun _ _ vi=>t.size - (intOf vi).toNat)
 case atStart=>exact⟨0,0,0,rfl,rfl,rfl,by omega,rfl,by simp,rfl⟩
 case round=>
  obtain⟨k,acc,a,rfl,rfl,rfl,hk,hh⟩:=hrel
  obtain⟨ha,hacc,hdec⟩:=hh.out
  clear hh
  have a0:0≤a:=by omega
  by_cases hkn:k<t.size
  ·have hp:=hpow k (by omega)
   have a1:a<268435456:=by omega
   clear hpow
   have hc:=hB k hkn
   have hdrop:bs.drop k=bs[k]'(by omega)::bs.drop (k+1):=List.drop_eq_getElem_cons (by omega)
   have hget:bs.getD k 0=bs[k]'(by omega):=by simp[List.getD,List.getElem?_eq_getElem (show k<bs.length by omega)]
   rw[hdrop,F9]at hdec
   rw[hget]at hc
   generalize bs[k]'(by omega)=c at hc hdec
   have hc256:c.toNat<256:=c.toNat_lt
   clear hB hdrop hget
   obtain⟨X,hX⟩:∃X:Int,X=((c|||32).toNat:Int):=⟨_,rfl⟩
   have hv0:0≤X:=by omega
   have hv1:X<256:=by have:=(c|||32).toNat_lt;omega
   by_cases hdig:48≤c.toNat∧c.toNat≤57
   ·obtain⟨hd0,hd1⟩:=hdig
    have hval:E7 c=c.toNat - 48:=by unfold E7;rw[if_pos ⟨hd0,hd1⟩]
    have HN:Hid (a*16+((c.toNat:Int) - 48)=((16*acc+E7 c:Nat):Int)∧16*acc+E7 c<16^ (k+1)∧F9 0 bs=F9 (16*acc+E7 c) (bs.drop (k+1))):=
     Lib.hid ⟨by omega,by rw[Nat.pow_succ];omega,by rw[hdec,if_pos (by omega)]⟩
    have iov:a*16+((c.toNat:Int) - 48)≤4294967295:=by omega
    clear hp hacc hdec ha hX hv0 hv1
    go_wp2
    refine⟨⟨k+1,16*acc+E7 c,a*16+((c.toNat:Int) - 48),rfl,(by first|rfl|(congr 1;omega)),(by first|rfl|(congr 1;omega)),by omega,HN⟩,by simp[intOf];omega⟩
   ·have hlow:∀w,Calls P (ρ.f 321) #[.int .u8 c.toNat] w fun e w'=>e= .returned (.int .u8 X)∧w'=w:=fun w=>XlW {L with} c X hX w
    by_cases h95:c.toNat=95
    ·have hX127:X=127:=by
      have:c=95:=by rw[←UInt8.toNat_inj];exact h95
      rw[hX,this];rfl
     have hval:¬E7 c<16:=by unfold E7;rw[if_neg hdig,if_neg (by omega)];omega
     rw[if_neg hval]at hdec
     rw[h95]at hlow hc
     clear hacc ha hp hX hval hdig
     subst hX127
     go_wp2_with (go_at_fn (ρ.f 321);refine(hlow _).mono ?_;rintro e w' ⟨rfl,rfl⟩)
     all_goals go_ret2
     all_goals first|exact⟨rfl,rfl⟩|exact⟨by rw[hdec];rfl,rfl⟩
    by_cases hlet:97≤X∧X≤102
    ·obtain⟨hx0,hx1⟩:=hlet
     have hval:(E7 c:Int)=X - 87:=by unfold E7;rw[if_neg hdig,if_pos (by omega)];omega
     have HN:Hid (a*16+(X - 87)=((16*acc+E7 c:Nat):Int)∧16*acc+E7 c<16^ (k+1)∧F9 0 bs=F9 (16*acc+E7 c) (bs.drop (k+1))):=
      Lib.hid ⟨by omega,by rw[Nat.pow_succ];omega,by rw[hdec,if_pos (by omega)]⟩
     have iov:a*16+(X - 87)≤4294967295:=by omega
     have hd:c.toNat<48∨57<c.toNat:=by omega
     clear hp hacc hdec ha hdig hX hval
     rcases hd with hd|hd
     all_goals go_wp2_with (go_at_fn (ρ.f 321);refine(hlow _).mono ?_;rintro e w' ⟨rfl,rfl⟩)
     all_goals refine⟨⟨k+1,16*acc+E7 c,a*16+(X - 87),rfl,(by first|rfl|(congr 1;omega)),(by first|rfl|(congr 1;omega)),by omega,HN⟩,by simp[intOf];omega⟩
    ·have hval:¬E7 c<16:=by unfold E7;rw[if_neg hdig,if_neg (by omega)];omega
     rw[if_neg hval]at hdec
     clear hacc ha hp
     have hd:c.toNat<48∨57<c.toNat:=by omega
     have hx:X<97∨(103≤X∧X≤122)∨122<X:=by omega
     clear hdig hlet hX hval
     rcases hd with hd|hd<;>rcases hx with hx|⟨hx,hx2⟩|hx
     all_goals go_wp2_with (go_at_fn (ρ.f 321);refine(hlow _).mono ?_;rintro e w' ⟨rfl,rfl⟩)
     all_goals go_ret2
     all_goals first|exact⟨rfl,rfl⟩|exact⟨by rw[hdec];rfl,rfl⟩
  ·have hkk:k=t.size:=by omega
   subst hkk
   have hF:F9 acc (bs.drop t.size)=some acc:=by rw[List.drop_eq_nil_of_le (by omega)];rfl
   rw[hF]at hdec
   subst ha
   clear hacc hF a0 hpow
   go_wp2
   go_ret2
   first|exact⟨rfl,rfl⟩|exact⟨by rw[hdec];rfl,rfl⟩
end
open Go
theorem NSubW.lo{off len:Nat}{lo:Int}{K:Nat→Nat→Prop}(h:∀o n,o=off+lo.toNat→n=len - lo.toNat→K o n)(h0:0≤lo:=by omega)(h1:lo≤(len:Int):=by omega):NSubW off len (some lo) none K:=⟨_,_,h0,h1,Int.le_refl _,rfl,rfl,h _ _ rfl (by simp)⟩
theorem NSubW.hi{off len:Nat}{hi:Int}{K:Nat→Nat→Prop}(h:∀o n,o=off→n=hi.toNat→K o n)(h1:0≤hi:=by omega)(h2:hi≤(len:Int):=by omega):NSubW off len none (some hi) K:=⟨_,_,Int.le_refl _,h1,h2,rfl,rfl,h _ _ (by simp) (by simp)⟩
def Xk2(l:List Oper):Nat→Nat→Nat→Bool
 |0,_,_=>false
 |fuel+1,j,i=>match l[j]? with
  |none=>false
  |some o=>o.after.toList.any fun e=>Region.binds .any e&&(e.on==i||Xk2 l fuel e.on i)
theorem XhF{ops:Array Oper}:∀{fuel j i:Nat},Xk2 ops.toList fuel j i=O7 ops fuel j i
 |0,_,_=>rfl
 |fuel+1,j,i=>by
  unfold Xk2 O7
  rw[Array.getElem?_toList]
  cases ops[j]? with
  |none=>rfl
  |some o=>
   simp only[Array.any_toList]
   congr 1
   funext e
   rw[XhF (fuel:=fuel)]
def Xkv(ops:List Oper)(N nb:Nat)(eff:List Eff):Bool:=
 (List.range ops.length).all fun j=>match ops[j]? with
  |none=>false
  |some o=>o.after.toList.all (fun e=>!Region.binds .any e||e.on<j)&&(match o.dst with|some d=>d<N|none=>true)&&
   (List.range ops.length).all fun i=>(i==j)||(match ops[i]? with
    |none=>false
    |some o'=>(match o'.dst with
      |none=>true
      |some d=>(o.dst !=some d)&&(!(o.looksAt ⟨ops⟩).contains d||(if i<j then Xk2 ops ops.length j i else Xk2 ops ops.length i j)))&&
     (Xk2 ops ops.length i j||Xk2 ops ops.length j i||Ks nb eff i j))
theorem drawC_eq{ops:Array Oper}{N nb:Nat}{eff:List Eff}:Xkv ops.toList N nb eff=Ot ops N nb eff:=by
 unfold Xkv Ot
 simp only[XhF,Array.length_toList,Array.getElem?_toList,Array.all_toList]
 rfl
theorem DrawW.go2{ops:Array Oper}{N nb:Nat}{eff:List Eff}{K:Unit→Prop}(h:Xkv ops.toList N nb eff=true)(k:K ()):DrawW (fun _=>Ot ops N nb eff) K:=⟨drawC_eq.symm.trans h,k⟩
theorem Bl.mark{P:Program}{tab:List (Nat×TyRow)}(n:Nat)(h:Bl P tab):Bl P ((n,Em P n)::tab):=by
 intro t r hr
 simp only[Cu]at hr
 split at hr
 ·rename_i e
  subst e
  exact(Option.some.inj hr).symm
 ·exact h _ _ hr
theorem Setup.mark{P:Program}{tab:List (Nat×TyRow)}(n:Nat)(h:Setup P tab):Setup P ((n,Em P n)::tab):=⟨h.1.mark n,h.2⟩
open Go
section
variable {c:Ctx} {E:Env}
end
theorem AppW.row0{α:Type}{c:α→List D}{K:Nat→List (List D)→Prop}{bytes:Nat}{ys:List (List D)}{m:List α}(hy:m.map c=ys)(h:∀n v,n=m.length→m.map c=v→K n v)(hb:(2*m.length+1024)*bytes≤2^48:=by omega)(hb2:m.length<2^62:=by omega):AppW 0 0 [] (.row ys) bytes K:=by
 subst hy
 exact⟨_,_,_,rfl,rfl,rfl,by simpa using hb,by simpa using hb2,rfl,rfl,h _ _ (by simp) (by simp)⟩
open Go
section
variable {P:Program} {N:Nat} {Q:Exit→St→Prop} {st:St}
def V2(x:AV)(sl:Nat→AV):List Nat→Nat→AV
 |[]=>sl
 |t::l=>Xap (V2 x sl l) t x
theorem Holds.frz{c:Ctx}{Ei:Env}{a:Act}{w:World}{r sz n:Nat}{xs:List (List D)}(h:Holds c Ei N st a w)(hr:st.rt[r]? =some (.row sz false xs))(hn:n=xs.length)(ts:List Nat)(hts:∀t∈ts,st.sl t= .ref r 0 n):
  Holds c Ei N ⟨V2 (.d (.row sz xs)) st.sl ts,st.rt.set r (.row sz true xs)⟩ a w:=by
 obtain⟨E,rfl,hM,hSt,hrt,hpr,hsl,hdef,hsz,hm⟩:=h
 have hlt:r<st.rt.length:=(List.getElem?_eq_some_iff.1 hr).1
 have hER:E.rt r=some (.row sz false xs):=by rw[hrt];exact hr
 have hrows:∀q∈[r],Fu E q:=by
  intro q hq
  rw[List.mem_singleton]at hq
  subst hq
  exact⟨(hpr q).2 hlt,sz,false,xs,hER⟩
 refine⟨E.lent [r],rfl,Oi hM hrows,hSt.trans lent_step,?_,?_,?_,hdef,hsz,by rw[List.length_set];exact hm⟩
 ·funext x
  show(if x∈[r]then(E.rt x).map Yg else E.rt x)=(st.rt.set r (.row sz true xs))[x]?
  rw[List.getElem?_set]
  by_cases e:r=x
  ·subst e
   rw[if_pos (by simp),if_pos rfl,if_pos hlt,hER]
   rfl
  ·rw[if_neg (by simpa using fun h=>e h.symm),if_neg e,hrt]
   rfl
 ·intro x
  rw[List.length_set]
  exact hpr x
 ·intro t
  have old:RelAV (E.lent [r]) (st.sl t) (a.eval (.tmp t)):=(hsl t).step lent_step
  have key:∀l:List Nat,(∀q∈l,st.sl q= .ref r 0 n)→RelAV (E.lent [r]) (V2 (.d (.row sz xs)) st.sl l t) (a.eval (.tmp t)):=by
   intro l
   induction l with
   |nil=>intro _;exact old
   |cons q l ih=>
    intro hl
    show RelAV _ (Xap (V2 (.d (.row sz xs)) st.sl l) q (.d (.row sz xs)) t) _
    unfold Xap
    split
    ·rename_i e
     subst e
     refine Dg (L:=[r]) (L':=[r]) hM (hsl t) ?_ (fun _ h=>h)
     rw[hl t (by simp)]
     simp only[AV.lendA,hER]
     rw[if_pos (by omega),hn,List.drop_zero,List.take_length]
     rfl
    ·exact ih fun q hq=>hl q (List.mem_cons_of_mem _ hq)
  exact key ts hts
theorem LoopW.frz{body:Code}(r:Nat)(ts:List Nat){sz n:Nat}{xs:List (List D)}(hr:st.rt[r]? =some (.row sz false xs))(hts:ts.map st.sl=ts.map fun _=>.ref r 0 n)(hn:n=xs.length)(h:LoopW P N body Q ⟨V2 (.d (.row sz xs)) st.sl ts,st.rt.set r (.row sz true xs)⟩):LoopW P N body Q st:=by
 obtain⟨⟨h⟩⟩:=h
 refine⟨⟨fun c Ei a w hH=>h c Ei a w (hH.frz hr hn ts ?_)⟩⟩
 intro t ht
 obtain⟨i,hi⟩:=List.getElem?_of_mem ht
 have:=congrArg (·[i]?) hts
 simpa only[List.getElem?_map,hi,Option.map_some,Option.some.injEq]using this
end
inductive LendF (rt:Nat→Option Root):List AV→List AV→List Nat→Prop
 |nil:LendF rt [] [] []
 |d {x:AV} {ys zs:List AV} {L:List Nat} (h:x.isD=true) (t:LendF rt ys zs L):LendF rt (x::ys) (x::zs) L
 |ref {r n sz:Nat} {xs:List (List D)} {ys zs:List AV} {L:List Nat} (h:rt r=some (.row sz false xs)) (hn:n=xs.length) (t:LendF rt ys zs L):LendF rt (.ref r 0 n::ys) (.d (.row sz xs)::zs) (r::L)
 |sub {r o n sz:Nat} {xs us:List (List D)} {ys zs:List AV} {L:List Nat} (h:rt r=some (.row sz false xs)) (hn:o+n≤xs.length) (e:(xs.drop o).take n=us) (t:LendF rt ys zs L):LendF rt (.ref r o n::ys) (.d (.row sz us)::zs) (r::L)
 |fz {r n sz:Nat} {xs:List (List D)} {ys zs:List AV} {L:List Nat} (h:rt r=some (.row sz true xs)) (hn:n=xs.length) (t:LendF rt ys zs L):LendF rt (.ref r 0 n::ys) (.d (.row sz xs)::zs) L
 |agg {l l' ys zs:List AV} {L1 L2:List Nat} (h:LendF rt l l' L1) (t:LendF rt ys zs L2):LendF rt (.agg l::ys) (.agg l'::zs) (L1++L2)
theorem LendF.get{rt:Nat→Option Root}{ys zs:List AV}{L:List Nat}(h:LendF rt ys zs L):AV.lendAs rt ys=some (zs,L)∧∀r∈L,∃sz xs,rt r=some (.row sz false xs):=by
 induction h with
 |nil=>exact⟨rfl,by simp⟩
 |d h _ ih=>exact⟨by simp[AV.lendAs,(Kx rt h).1,ih.1],ih.2⟩
 | @ref r n sz xs ys zs L h hn _ ih=>
   subst hn
   refine⟨by simp[AV.lendAs,AV.lendA,h,ih.1],?_⟩
   intro q hq
   rcases List.mem_cons.1 hq with rfl|hq
   ·exact⟨_,_,h⟩
   ·exact ih.2 q hq
 | @sub r o n sz xs us ys zs L h hn e _ ih=>
   subst e
   refine⟨by simp[AV.lendAs,AV.lendA,h,ih.1,hn],?_⟩
   intro q hq
   rcases List.mem_cons.1 hq with rfl|hq
   ·exact⟨_,_,h⟩
   ·exact ih.2 q hq
 | @fz r n sz xs ys zs L h hn _ ih=>
   subst hn
   exact⟨by simp[AV.lendAs,AV.lendA,h,ih.1],ih.2⟩
 |agg _ _ ih1 ih2=>
  refine⟨by simp[AV.lendAs,AV.lendA,ih1.1,ih2.1],?_⟩
  intro q hq
  rcases List.mem_append.1 hq with hq|hq
  ·exact ih1.2 q hq
  ·exact ih2.2 q hq
section
variable {P P':Program} {f:FuncId} {ys as0:List AV} {rt:List Root} {K:Out→List Nat→Prop}
theorem CallW.lntD{av:AV}{L:List Nat}(hP:P'=P)(h:Fn P f as0 [] ⟨av,[],[]⟩)(hl:LendF (fun r=>rt[r]?) ys as0 L)(k:K ⟨av,[],Xa2 (fun r=>rt[r]?) L⟩ (AV.idss ys))(hL:(L.all fun r=>(AV.idss ys).contains r)=true:=by rfl)(hav:av.isDT=true:=by rfl):CallW P' f ys rt K:=by
 subst hP
 obtain⟨ab,aa⟩:=hl.get
 refine⟨fun o st hst hc=>?_⟩
 subst hst
 obtain⟨cl,x,caps,ys0,hgd,hop,hcl,hx,ha,rfl⟩:=hc
 refine ClW.data hgd hop hcl hx ha ab (fun r hr=>⟨by simpa using List.all_eq_true.1 hL r hr,aa r hr⟩) h.ent h.ok (Zp _ hav) ?_ k
 intro p hp
 obtain⟨r,hr,rfl⟩:=List.mem_map.1 hp
 obtain⟨sz,xs,hx⟩:=aa r hr
 exact(List.getElem?_eq_some_iff.1 hx).1
end
open Go
section
variable {P P':Program} {f:FuncId} {ys:List AV} {rt:List Root} {K:Out→List Nat→Prop}
theorem CallW.ddN{o0:Out}{av:AV}{nw:List Root}(hP:P'=P)(h:Fn P f ys [] o0)(hren:o0.ren (Az [] rt.length o0.new.length)=some ⟨av,nw,[]⟩)(k:K ⟨av,nw,[]⟩ [])(hd:AV.isDs ys=true:=by rfl):CallW P' f ys rt K:=by
 subst hP
 refine⟨fun o st hst hc=>?_⟩
 subst hst
 obtain⟨cl,x,caps,ys0,hgd,hop,hcl,hx,ha,rfl⟩:=hc
 have hl:=J0 st.look hd
 refine ClW.call (out:=⟨av,nw,[]⟩) (L:=[]) (π:=[]) (r0:=[]) hgd hop hcl hx ha (LendsR.refl _) (by simp) h.ent (Ij _ hl.1) h.ok hren rfl .nil (by simp) (by simp) (by simp) (by simp) ?_ ?_
 ·intro p hp
  exact absurd hp (by simp[Xa2])
 ·rw[hl.2]
  simpa[Xa2]using k
end
theorem Ag{α β:Type}{c:α→β}{l:List α}{x:List β}{n:Nat}(h:l.map c=x)(e:n=l.length:=by first|omega|(simp;omega)):n=x.length:=by rw[←h,List.length_map];exact e
theorem AppW.sub0{α:Type}{c:α→List D}{K:Nat→List (List D)→Prop}{bytes n:Nat}{ys:List (List D)}{m:List α}(hy:m.map c=ys)(h:∀n v,n=m.length→m.map c=v→K n v)(hn:n=m.length:=by omega)(hb:(2*m.length+1024)*bytes≤2^48:=by omega)(hb2:m.length<2^62:=by omega):AppW 0 0 [] (.sub ys 0 n) bytes K:=by
 subst hy hn
 exact⟨_,_,m.map c,by simp[Src.val,←List.map_take],rfl,rfl,by simpa using hb,by simpa using hb2,rfl,rfl,h _ _ (by simp) (by simp)⟩
open Go
theorem LendsR.ref{rt:Nat→Option Root}{r n sz:Nat}{xs:List (List D)}{ys zs:List AV}{L:List Nat}(h:rt r=some (.row sz false xs))(hn:n=xs.length)(t:LendsR rt L ys zs)(hs:L.contains r=true:=by rfl):LendsR rt L (.ref r 0 n::ys) (.d (.row sz xs)::zs):=by
 subst hn
 refine .lend (L':=[r]) (by simp[AV.lendA,h]) ?_ t
 intro q hq
 rw[List.mem_singleton.1 hq]
 simpa using hs
theorem LendsR.agg1{rt:Nat→Option Root}{L L1:List Nat}{l l' ys zs:List AV}(h:LendF rt l l' L1)(t:LendsR rt L ys zs)(hs:(L1.all fun r=>L.contains r)=true:=by rfl):LendsR rt L (.agg l::ys) (.agg l'::zs):=
 .lend (L':=L1) (by simp[AV.lendA,h.get.1]) (fun r hr=>by simpa using List.all_eq_true.1 hs r hr) t
def rowB:Option Root→Bool
 |some (.row _ false _)=>true
 |_=>false
theorem CallW.bxL{P P':Program}{f:FuncId}{ys as0 zs:List AV}{rt r0 rs:List Root}{K:Out→List Nat→Prop}{o0 out:Out}(π L:List Nat)(hl:LendsR (fun r=>rt[r]?) L ys zs)(hP:P'=P)(h:Fn P f as0 r0 o0)
  (has:AV.rens (Az π rt.length o0.new.length) as0=some zs)(hren:o0.ren (Az π rt.length o0.new.length)=some out)(hrs:E4 (Az π rt.length o0.new.length) r0=some rs)
  (hrt:π.map (fun r=>rt[r]?)=rs.map some)(k:K ⟨out.av,out.new,out.g++Xa2 (fun r=>rt[r]?) L⟩ (AV.idss ys))(hnd0:r0.all ndB=true:=by rfl)(hlen:π.length=r0.length:=by rfl)(hnd:π.Nodup:=by decide)
  (hlt:(π.all fun r=>Nat.blt r rt.length)=true:=by rfl)(hin:(π.all fun r=>(AV.idss ys).contains r)=true:=by rfl)(hdis:(π.all fun r=>!L.contains r)=true:=by rfl)(hL:(L.all fun r=>(AV.idss ys).contains r)=true:=by rfl)
  (hL2:(L.all fun r=>rowB rt[r]?)=true:=by rfl)(hg:((out.g++Xa2 (fun r=>rt[r]?) L).all fun p=>Nat.blt p.1 (rt.length+out.new.length))=true:=by rfl):CallW P' f ys rt K:=by
 subst hP
 have aa:∀r∈L,∃sz xs,rt[r]? =some (.row sz false xs):=by
  intro r hr
  have:=List.all_eq_true.1 hL2 r hr
  unfold rowB at this
  split at this
  ·rename_i sz xs e;exact⟨sz,xs,e⟩
  ·cases this
 refine⟨fun o st hst hc=>?_⟩
 subst hst
 obtain⟨cl,x,caps,ys0,hgd,hop,hcl,hx,ha,rfl⟩:=hc
 refine ClW.call (out:=out) (L:=L) (π:=π) (r0:=r0) hgd hop hcl hx ha hl (fun r hr=>⟨by simpa using List.all_eq_true.1 hL r hr,aa r hr⟩) h.ent has h.ok hren hlen hnd ?_ ?_ ?_ ?_ ?_ k
 ·intro r hr
  simpa[Nat.blt_eq]using List.all_eq_true.1 hlt r hr
 ·intro r hr
  simpa using List.all_eq_true.1 hdis r hr
 ·intro r hr
  simpa using List.all_eq_true.1 hin r hr
 ·intro j r R hj hR
  obtain⟨hl,hg'⟩:=Fj hrs
  obtain⟨R',h1,h2⟩:=hg' j R hR
  refine⟨R',?_,?_,h2⟩
  ·have:=congrArg (·[j]?) hrt
   simp only[List.getElem?_map,hj,h1,Option.map_some,Option.some.injEq]at this
   exact this
  ·rintro rfl
   have:=List.all_eq_true.1 hnd0 _ (List.mem_of_getElem? hR)
   cases this
 ·intro p hp
  simpa[Nat.blt_eq]using List.all_eq_true.1 hg p hp
theorem CallW.lntN{P P':Program}{f:FuncId}{ys as0:List AV}{rt:List Root}{K:Out→List Nat→Prop}{o0 out:Out}(hP:P'=P)(h:Fn P f as0 [] o0)(hl:LendL (fun r=>rt[r]?) ys as0)(hren:o0.ren (Az [] rt.length o0.new.length)=some out)
  (hog:out.g=[])(hfa:out.av.flat=true)(hfn:out.new.all Root.flat=true)(k:K out (AV.idss ys)):CallW P' f ys rt K:=by
 subst hP
 refine⟨fun o st hst hc=>?_⟩
 subst hst
 obtain⟨cl,x,caps,ys0,hgd,hop,hcl,hx,ha,rfl⟩:=hc
 obtain⟨L,hL⟩:=hl.get
 exact ClW.pure hgd hop hcl hx ha hL h.ent h.ok hren hog hfa hfn k
end
end Go.Proofs.YtjbmpmmffjgedaaGreatDoor.Ab
