/- A relation between the machine and an abstract state, evaluators for single operations and for code, proved sound (part 5). No conditions. -/
import Derived.Lib.ConvBytes
import Derived.Laws.AppendOwn
import Derived.KernelRfl
import Derived.Test.YtamdgfklbjoaiaaZ4
set_option linter.unusedVariables false
set_option linter.unusedSimpArgs false
namespace Go.Proofs.Ytamdgfklbjoaiaa.Ab
open Go

/-! Stops: operations on values that are not known; each waits for what is known of them. -/
inductive ArW (op : BinOp) (k k' : IntKind) (a b : Int) (K : Int → Prop) : Prop | mk (v : Int) (h : binSc op false (.int k a) (.int k' b) = some (.int k v)) (hk : K v) : ArW op k k' a b K
inductive CmpW (op : BinOp) (k k' : IntKind) (a b : Int) (K : Bool → Prop) : Prop | mk (v : Bool) (h : binSc op false (.int k a) (.int k' b) = some (.bool v)) (hk : K v) : CmpW op k k' a b K
inductive CatW (a b : ByteArray) (K : ByteArray → Prop) : Prop | mk (v : ByteArray) (h : binStr .add a b = some (.string v)) (hk : K v) : CatW a b K
inductive SCmpW (op : BinOp) (a b : ByteArray) (K : Bool → Prop) : Prop | mk (v : Bool) (h : binStr op a b = some (.bool v)) (hk : K v) : SCmpW op a b K
inductive BCmpW (op : BinOp) (a b : Bool) (K : Bool → Prop) : Prop | mk (v : Bool) (h : binSc op true (.bool a) (.bool b) = some (.bool v)) (hk : K v) : BCmpW op a b K
inductive AggW (ks : List EK) (xs ys : List AV) (K : Bool → Prop) : Prop | mk (v : Bool) (h : eqAll ks xs ys = some v) (hk : K v) : AggW ks xs ys K
inductive EmpW (xs : List (List D)) (K : Bool → Prop) : Prop | mk (v : Bool) (h : v = xs.isEmpty) (hk : K v) : EmpW xs K
inductive Emp0W (n : Nat) (K : Bool → Prop) : Prop | mk (v : Bool) (h : v = (n == 0)) (hk : K v) : Emp0W n K
inductive NegW (k : IntKind) (n : Int) (K : Int → Prop) : Prop | mk (v : Int) (h : v = k.wrap (0 - n)) (hk : K v) : NegW k n K
inductive RowW (xs : List (List D)) (i : Nat) (K : List D → Prop) : Prop | mk (cs : List D) (h : xs[i]? = some cs) (hk : K cs) : RowW xs i K
inductive IdxW (xs : List (List D)) (i : Int) (K : List D → Prop) : Prop | mk (cs : List D) (h0 : 0 ≤ i) (h : xs[i.toNat]? = some cs) (hk : K cs) : IdxW xs i K
inductive RIdxW (off len : Nat) (i : Int) (K : Nat → Prop) : Prop | mk (p : Nat) (h0 : 0 ≤ i) (h1 : i < len) (h : p = off + i.toNat) (hk : K p) : RIdxW off len i K
inductive SIdxW (s : ByteArray) (i : Int) (K : Int → Prop) : Prop | mk (v : Int) (h0 : 0 ≤ i) (h1 : i.toNat < s.size) (h : v = ((s[i.toNat]'h1).toNat : Int)) (hk : K v) : SIdxW s i K
inductive SSubW (s : ByteArray) (lo hi : Option Int) (K : ByteArray → Prop) : Prop
  | mk (v : ByteArray) (h0 : 0 ≤ lo.getD 0) (h1 : lo.getD 0 ≤ hi.getD s.size) (h2 : hi.getD s.size ≤ s.size) (h : v = s.extract (lo.getD 0).toNat (hi.getD s.size).toNat) (hk : K v) : SSubW s lo hi K
inductive RSubW (xs : List (List D)) (lo hi : Option Int) (K : List (List D) → Prop) : Prop
  | mk (v : List (List D)) (h0 : 0 ≤ lo.getD 0) (h1 : lo.getD 0 ≤ hi.getD xs.length) (h2 : hi.getD xs.length ≤ xs.length) (h : v = (xs.drop (lo.getD 0).toNat).take ((hi.getD xs.length).toNat - (lo.getD 0).toNat)) (hk : K v) : RSubW xs lo hi K
inductive NSubW (off len : Nat) (lo hi : Option Int) (K : Nat → Nat → Prop) : Prop
  | mk (o n : Nat) (h0 : 0 ≤ lo.getD 0) (h1 : lo.getD 0 ≤ hi.getD len) (h2 : hi.getD len ≤ len) (ho : o = off + (lo.getD 0).toNat) (hn : n = (hi.getD len).toNat - (lo.getD 0).toNat) (hk : K o n) : NSubW off len lo hi K
inductive WrapW (k : IntKind) (n : Int) (K : Int → Prop) : Prop | mk (v : Int) (h : v = k.wrap n) (hk : K v) : WrapW k n K
inductive BytesW (xs : List (List D)) (K : ByteArray → Prop) : Prop | mk (v : ByteArray) (ns : List Int) (h : byteRow xs = some ns) (hv : v = strOfInts ns) (hk : K v) : BytesW xs K
inductive RBytesW (xs : List (List D)) (off len : Nat) (K : ByteArray → Prop) : Prop
  | mk (v : ByteArray) (ns : List Int) (h0 : off + len ≤ xs.length) (h : byteRow ((xs.drop off).take len) = some ns) (hv : v = strOfInts ns) (hk : K v) : RBytesW xs off len K
inductive SLenW (s : ByteArray) (K : Int → Prop) : Prop | mk (v : Int) (h : v = (s.size : Int)) (hk : K v) : SLenW s K
inductive LenW (xs : List (List D)) (K : Int → Prop) : Prop | mk (v : Int) (h : v = (xs.length : Int)) (hk : K v) : LenW xs K
inductive NLenW (n : Nat) (K : Int → Prop) : Prop | mk (v : Int) (h : v = (n : Int)) (hk : K v) : NLenW n K
inductive MaxW (a b : Int) (K : Int → Prop) : Prop | mk (v : Int) (h : v = if b > a then b else a) (hk : K v) : MaxW a b K
inductive MinW (a b : Int) (K : Int → Prop) : Prop | mk (v : Int) (h : v = if b < a then b else a) (hk : K v) : MinW a b K
inductive RSetW (xs : List (List D)) (i j : Nat) (ds : List D) (K : List (List D) → Prop) : Prop
  | mk (v : List (List D)) (y : List D) (hy : xs[i]? = some y) (hj : j + ds.length ≤ y.length) (h : v = xs.set i (putAt y j ds)) (hk : K v) : RSetW xs i j ds K
inductive MakeW (n m : Int) (bytes : Nat) (z : List D) (K : Nat → List (List D) → Prop) : Prop
  | mk (l : Nat) (v : List (List D)) (h0 : 0 ≤ n) (h1 : n ≤ m) (h2 : bytes * m ≤ 2 ^ 48) (h3 : m < 2 ^ 63) (hl : l = n.toNat) (h : v = List.replicate n.toNat z) (hk : K l v) : MakeW n m bytes z K
/-- What is put behind a row. -/
inductive Src where
  | str (s : ByteArray)
  | row (xs : List (List D))
  | sub (xs : List (List D)) (off len : Nat)
def Src.val : Src → Option (List (List D))
  | .str s => some (strRow s)
  | .row xs => some xs
  | .sub xs off len => if off + len ≤ xs.length then some ((xs.drop off).take len) else none
inductive AppW (off len : Nat) (xs : List (List D)) (s : Src) (bytes : Nat) (K : Nat → List (List D) → Prop) : Prop
  | mk (n : Nat) (v ys : List (List D)) (hs : s.val = some ys) (h0 : off = 0) (h1 : len = xs.length) (h2 : (2 * (xs.length + ys.length) + 1024) * bytes ≤ 2 ^ 48) (h3 : xs.length + ys.length < 2 ^ 62) (hn : n = xs.length + ys.length) (h : v = xs ++ ys) (hk : K n v) : AppW off len xs s bytes K

/-! One operation, with stops. -/
def isCmp : BinOp → Bool
  | .eql | .neq | .lss | .leq | .gtr | .geq => true
  | _ => false
def sBin (R : TyRow) (op : BinOp) (x y : AV) (K : AV → Prop) : Prop :=
  match x, y with
  | .d (.sc (.int k a)), .d (.sc (.int k' b)) => (match isCmp op with
    | true => CmpW op k k' a b fun v => K (.d (.sc (.bool v)))
    | false => ArW op k k' a b fun v => K (.d (.sc (.int k v))))
  | .d (.sc (.string a)), .d (.sc (.string b)) => (match op with
    | .add => CatW a b fun s => K (.d (.sc (.string s)))
    | _ => SCmpW op a b fun v => K (.d (.sc (.bool v))))
  | .d (.sc (.bool a)), .d (.sc (.bool b)) => (match isBoolK R.sk with
    | true => BCmpW op a b fun v => K (.d (.sc (.bool v)))
    | false => False)
  | .agg xs, .agg ys => (match op, R.eq with
    | .eql, some ks => AggW ks xs ys fun v => K (.d (.sc (.bool v)))
    | .neq, some ks => AggW ks xs ys fun v => br v (fun _ => K (.d (.sc (.bool false)))) (fun _ => K (.d (.sc (.bool true))))
    | _, _ => False)
  | _, _ => False

def sBinN (rt : Nat → Option Root) (R : TyRow) (op : BinOp) (x y : AV) (yo : Operand) (K : AV → Prop) : Prop :=
  match isNilC yo with
  | true => (match op, R.sk, x with
    | .eql, .sl _, .d (.row _ xs) => EmpW xs fun v => K (.anyb v)
    | .eql, .sl _, .ref r _ len => (match alive rt r with | true => Emp0W len fun v => K (.anyb v) | false => False)
    | _, _, _ => False)
  | false => sBin R op x y K

def sUn (op : UnOp) (x : AV) (K : AV → Prop) : Prop :=
  match x with
  | .d (.sc (.bool b)) => (match op with | .not => br b (fun _ => K (.d (.sc (.bool false)))) (fun _ => K (.d (.sc (.bool true)))) | _ => False)
  | .d (.sc (.int k n)) => (match op with | .neg => NegW k n fun v => K (.d (.sc (.int k v))) | _ => False)
  | _ => False

def okAV (x : Option AV) (K : AV → Prop) : Prop := match x with | some v => K v | none => False

def sLoad (rt : Nat → Option Root) (R : TyRow) (x : AV) (K : AV → Prop) : Prop :=
  match R.agg, R.sz with
  | some g, some n => (match x with
    | .ptr r i j => (match rt r with
      | some (.row _ _ xs) => RowW xs i fun cs => okAV (takeP (cs.map AV.d) j n g) K
      | some (.box ty l) => (match i with | 0 => okAV (takeP l j n g) K | _ => False)
      | _ => False)
    | .rptr cs => okAV (takeP (cs.map AV.d) 0 n g) K
    | _ => False)
  | _, _ => False

def sIndexAddr (rt : Nat → Option Root) (R : TyRow) (x : AV) (i : Int) (K : AV → Prop) : Prop :=
  match R.el with
  | none => False
  | some (esz, _) => (match x with
    | .ref r off len => (match rt r with
      | some (.row sz _ _) => (match Nat.beq esz sz with | true => RIdxW off len i fun p => K (.ptr r p 0) | false => False)
      | _ => False)
    | .d (.row sz xs) => (match Nat.beq esz sz with | true => IdxW xs i fun cs => K (.rptr cs) | false => False)
    | _ => False)

def sIndexS (R : TyRow) (x : AV) (i : Int) (K : AV → Prop) : Prop :=
  match x with
  | .d (.sc (.string s)) => (match isStrK R.sk with | true => SIdxW s i fun v => K (.d (.sc (.int .u8 v))) | false => False)
  | _ => False

def sSlice (rt : Nat → Option Root) (R : TyRow) (x : AV) (lo hi : Option Int) (K : AV → Prop) : Prop :=
  match x with
  | .d (.sc (.string s)) => (match isStrK R.sk with | true => SSubW s lo hi fun v => K (.d (.sc (.string v))) | false => False)
  | .d (.row sz xs) => (match R.el with
    | some (esz, _) => (match Nat.beq esz sz with | true => RSubW xs lo hi fun v => K (.d (.row sz v)) | false => False)
    | none => False)
  | .ref r off len => (match rt r, R.el with
    | some (.row sz _ _), some (esz, _) => (match Nat.beq esz sz with | true => NSubW off len lo hi fun o n => K (.ref r o n) | false => False)
    | _, _ => False)
  | _ => False

def sConv (rt : Nat → Option Root) (S T : TyRow) (x : AV) (K : AV → Prop) : Prop :=
  match T.sk, x with
  | .int k, .d (.sc (.int _ n)) => (match S.sk with | .int _ => WrapW k n fun v => K (.d (.sc (.int k v))) | _ => False)
  | .str, .d (.sc (.string s)) => (match isStrK S.sk with | true => K (.d (.sc (.string s))) | false => False)
  | .str, .d (.row sz xs) => (match S.bsl, sz with | true, 1 => BytesW xs fun v => K (.d (.sc (.string v))) | _, _ => False)
  | .str, .ref r off len => (match rt r with
    | some (.row sz _ xs) => (match S.bsl, sz with | true, 1 => RBytesW xs off len fun v => K (.d (.sc (.string v))) | _, _ => False)
    | _ => False)
  | _, _ => False

def sLen (rt : Nat → Option Root) (R : TyRow) (x : AV) (K : AV → Prop) : Prop :=
  match x with
  | .d (.sc (.string s)) => (match isStrK R.sk with | true => SLenW s fun v => K (.d (.sc (.int .i64 v))) | false => False)
  | .d (.row _ xs) => (match R.sk with | .sl _ => LenW xs fun v => K (.d (.sc (.int .i64 v))) | _ => False)
  | .ref r _ len => (match R.sk, alive rt r with | .sl _, true => NLenW len fun v => K (.d (.sc (.int .i64 v))) | _, _ => False)
  | _ => False

def sSrc (rt : Nat → Option Root) : AV → Option (Nat × Src)
  | .d (.sc (.string s)) => some (1, .str s)
  | .d (.row sz xs) => some (sz, .row xs)
  | .ref r off len => (match rt r with
    | some (.row sz _ xs) => some (sz, .sub xs off len)
    | _ => none)
  | _ => none

def sAppend (rt : Nat → Option Root) (nb : Nat) (R X : TyRow) (s x : AV) (K : Out → Prop) : Prop :=
  match s, R.el, R.ez, (match X.sk with | .sl _ => true | .str => true | _ => false) with
  | .ref r off len, some (n, bytes), some _, true => (match rt r, sSrc rt x with
    | some (.row sz false xs), some (sz', src) => (match Nat.beq sz' sz && Nat.beq n sz with
      | true => AppW off len xs src bytes fun n v => K ⟨.ref nb 0 n, [.row sz false v], [(r, .dead)]⟩
      | false => False)
    | _, _ => False)
  | _, _, _, _ => False

def sStore (rt : Nat → Option Root) (n : Nat) (p x : AV) (K : Nat × Root → Prop) : Prop :=
  match p, x.leaves with
  | .ptr r i j, some ys => (match rt r with
    | some (.box ty l) => (match i, Nat.beq ys.length n && Nat.ble (j + ys.length) l.length with
      | 0, true => K (r, .box ty (putAt l j ys))
      | _, _ => False)
    | some (.row sz false xs) => (match toDs rt ys with
      | some ds => (match Nat.beq ds.length n with
        | true => RSetW xs i j ds fun v => K (r, .row sz false v)
        | false => False)
      | none => False)
    | _ => False)
  | _, _ => False

def okOut (x : VA) (K : AV → Prop) : Prop := match x with | some (v, ps) => andAll ps (K v) | none => False

/-- The arguments of a call; an empty slice's elements are as long as its type says. -/
def sArgs (tab : List (Nat × TyRow)) (sl : Nat → AV) : List Operand → List TypeId → List AV
  | [], _ => []
  | x :: xs, [] => opd0 sl x :: sArgs tab sl xs []
  | x :: xs, t :: ts => (match isNilC x with | true => .d (.row (hintR (tabGet tab t)) []) | false => opd0 sl x) :: sArgs tab sl xs ts

def sCall (tab : List (Nat × TyRow)) (nb : Nat) (sl : Nat → AV) (rt : Nat → Option Root) (c : Call) (k : Out → Prop) : Prop :=
  match c.callee, c.args.toList, c.argTypes.toList with
  | .builtin .len, [x], [t] => (match tabGet tab t with | some R => sLen rt R (opd0 sl x) fun v => k ⟨v, [], []⟩ | none => False)
  | .builtin .append, [s, x], [t, xt] => (match tabGet tab t, tabGet tab xt with
    | some R, some X => sAppend rt nb R X (opd0 sl s) (opd0 sl x) k
    | _, _ => False)
  | .builtin .max, [x, y], _ => (match opd0 sl x, opd0 sl y with | .d (.sc (.int k' a)), .d (.sc (.int _ b)) => MaxW a b fun v => k ⟨.d (.sc (.int k' v)), [], []⟩ | _, _ => False)
  | .builtin .min, [x, y], _ => (match opd0 sl x, opd0 sl y with | .d (.sc (.int k' a)), .d (.sc (.int _ b)) => MinW a b fun v => k ⟨.d (.sc (.int k' v)), [], []⟩ | _, _ => False)
  | _, _, _ => False

def sv (tab : List (Nat × TyRow)) (nb : Nat) (sl : Nat → AV) (rt : Nat → Option Root) (o : Oper) (k : Out → Prop) : Prop :=
  match o.op with
  | .load t x => (match tabGet tab t with | some R => sLoad rt R (opd0 sl x) fun v => k ⟨v, [], []⟩ | none => False)
  | .store t p x => (match tabGet tab t with
    | some R => (match R.sz, opd nb (hintR (some R)) sl x with
      | some n, (av, new) => sStore rt n (opd0 sl p) av fun q => (match Nat.blt q.1 nb with | true => k ⟨.junk, new, [q]⟩ | false => False)
      | _, _ => False)
    | none => False)
  | .binOp op t x y _ => (match tabGet tab t with | some R => sBinN rt R op (opd0 sl x) (opd0 sl y) y fun v => k ⟨v, [], []⟩ | none => False)
  | .unOp op _ x => sUn op (opd0 sl x) fun v => k ⟨v, [], []⟩
  | .convert s d x => (match tabGet tab s, tabGet tab d with | some S, some T => sConv rt S T (opd0 sl x) fun v => k ⟨v, [], []⟩ | _, _ => False)
  | .indexAddr t x i => (match tabGet tab t, opd0 sl i with | some R, .d (.sc (.int _ n)) => sIndexAddr rt R (opd0 sl x) n fun v => k ⟨v, [], []⟩ | _, _ => False)
  | .index t x i => (match tabGet tab t, opd0 sl i with | some R, .d (.sc (.int _ n)) => sIndexS R (opd0 sl x) n fun v => k ⟨v, [], []⟩ | _, _ => False)
  | .slice t x lo hi none => (match tabGet tab t, bound? sl lo, bound? sl hi with | some R, some l, some h => sSlice rt R (opd0 sl x) l h fun v => k ⟨v, [], []⟩ | _, _, _ => False)
  | .makeSlice t n m => (match tabGet tab t, opd0 sl n, opd0 sl m with
    | some R, .d (.sc (.int _ n)), .d (.sc (.int _ m)) => (match R.ez with | some z => MakeW n m z.2.2 z.1 fun l v => k ⟨.ref nb 0 l, [.row z.2.1 false v], []⟩ | none => False)
    | _, _, _ => False)
  | .call c => sCall tab nb sl rt c k
  | .slice _ _ _ _ (some _) => False
  | _ => (match vev std tab nb sl rt o with | some (out, ps) => andAll ps (k out) | none => False)
end Go.Proofs.Ytamdgfklbjoaiaa.Ab

namespace Go.Proofs.Ytamdgfklbjoaiaa.Ab
open Go

/-! What stops say is what the machine does. -/
section
variable {P : Program} {rt : Nat → Option Root} {K : AV → Prop} {x y : AV} {t : TypeId}

theorem sBin_ok {op : BinOp} (h : sBin (rowOf P t) op x y K) : ∃ v, evBin P op t x y = some v ∧ K v := by
  unfold sBin at h
  split at h
  · rename_i k a k' b
    split at h
    · obtain ⟨v, h1, h2⟩ := h
      exact ⟨_, by show (binSc op (isBoolT P t) (.int k a) (.int k' b)).map _ = _; rw [show binSc op (isBoolT P t) (.int k a) (.int k' b) = some (.bool v) from h1]; rfl, h2⟩
    · obtain ⟨v, h1, h2⟩ := h
      exact ⟨_, by show (binSc op (isBoolT P t) (.int k a) (.int k' b)).map _ = _; rw [show binSc op (isBoolT P t) (.int k a) (.int k' b) = some (.int k v) from h1]; rfl, h2⟩
  · rename_i a b
    split at h
    · obtain ⟨v, h1, h2⟩ := h
      exact ⟨_, by show (binSc .add (isBoolT P t) (.string a) (.string b)).map _ = _; rw [show binSc .add (isBoolT P t) (.string a) (.string b) = some (.string v) from h1]; rfl, h2⟩
    · obtain ⟨v, h1, h2⟩ := h
      exact ⟨_, by show (binSc op (isBoolT P t) (.string a) (.string b)).map _ = _; rw [show binSc op (isBoolT P t) (.string a) (.string b) = some (.bool v) from h1]; rfl, h2⟩
  · rename_i a b
    split at h
    · rename_i hb
      obtain ⟨v, h1, h2⟩ := h
      have e : isBoolT P t = true := skOf_bool hb
      exact ⟨_, by show (binSc op (isBoolT P t) (.bool a) (.bool b)).map _ = _; rw [e, h1]; rfl, h2⟩
    · exact h.elim
  · rename_i xs ys
    split at h
    · rename_i ks hks
      obtain ⟨v, h1, h2⟩ := h
      have e : eqT P t = some ks := hks
      exact ⟨_, by show (eqT P t).bind _ = _; rw [e, Option.bind_some, h1]; rfl, h2⟩
    · rename_i ks hks
      obtain ⟨v, h1, h2⟩ := h
      have e : eqT P t = some ks := hks
      refine ⟨.d (.sc (.bool !v)), by show (eqT P t).bind _ = _; rw [e, Option.bind_some, h1]; rfl, ?_⟩
      cases v <;> exact h2
    · exact h.elim
  · exact h.elim

theorem sBinN_ok {op : BinOp} {yo : Operand} (h : sBinN rt (rowOf P t) op x y yo K) : ∃ v, evBinN P rt op t x y yo = some v ∧ K v := by
  unfold sBinN at h
  unfold evBinN
  split at h
  · rename_i hy
    simp only [hy]
    split at h
    · rename_i n sz xs hs
      obtain ⟨v, h1, h2⟩ := h
      rw [if_pos (skOf_sl hs)]
      subst h1
      exact ⟨_, rfl, h2⟩
    · rename_i n r off len hs
      split at h
      · rename_i ha
        obtain ⟨v, h1, h2⟩ := h
        rw [if_pos (skOf_sl hs)]
        subst h1
        exact ⟨_, by simp only [evNilS, ha, if_true, Option.map_some], h2⟩
      · exact h.elim
    · exact h.elim
  · rename_i hy
    simp only [hy]
    exact sBin_ok h

theorem sUn_ok {op : UnOp} (h : sUn op x K) : ∃ v, evUn op x = some v ∧ K v := by
  unfold sUn at h
  split at h
  · rename_i b
    split at h
    · refine ⟨.d (.sc (.bool !b)), rfl, ?_⟩
      cases b <;> exact h
    · exact h.elim
  · rename_i k n
    split at h
    · obtain ⟨v, h1, h2⟩ := h
      subst h1
      exact ⟨_, rfl, h2⟩
    · exact h.elim
  · exact h.elim

theorem okAV_some {a : Option AV} (h : okAV a K) : ∃ v, a = some v ∧ K v := by
  unfold okAV at h
  split at h
  · exact ⟨_, rfl, h⟩
  · exact h.elim

theorem sLoad_ok (h : sLoad rt (rowOf P t) x K) : ∃ g n v, aggT P t = some g ∧ szT P t = some n ∧ evLoad rt n g x = some v ∧ K v := by
  unfold sLoad at h
  split at h
  · rename_i g n hg hn
    refine ⟨g, n, ?_⟩
    have hg' : aggT P t = some g := hg
    have hn' : szT P t = some n := hn
    split at h
    · rename_i r i j
      split at h
      · rename_i sz fz xs hr
        obtain ⟨cs, h1, h2⟩ := h
        obtain ⟨v, h3, h4⟩ := okAV_some h2
        exact ⟨v, hg', hn', by simp only [evLoad, hr, h1, Option.bind_some, h3], h4⟩
      · rename_i l hr
        split at h
        · obtain ⟨v, h3, h4⟩ := okAV_some h
          exact ⟨v, hg', hn', by simp only [evLoad, hr, if_true, h3], h4⟩
        · exact h.elim
      · exact h.elim
    · rename_i cs
      obtain ⟨v, h3, h4⟩ := okAV_some h
      exact ⟨v, hg', hn', h3, h4⟩
    · exact h.elim
  · exact h.elim

theorem elT_of {t : TypeId} {esz b sz : Nat} (h : (rowOf P t).el = some (esz, b)) (e : Nat.beq esz sz = true) : (elT P t).map (·.1) = some sz := by
  have : elT P t = some (esz, b) := h
  rw [this, Option.map_some, Nat.eq_of_beq_eq_true e]

theorem sIndexAddr_ok {i : Int} (h : sIndexAddr rt (rowOf P t) x i K) : ∃ v, evIndexAddr rt (elT P t) x i = some v ∧ K v := by
  unfold sIndexAddr at h
  split at h
  · exact h.elim
  · rename_i esz b hel
    split at h
    · rename_i r off len
      split at h
      · rename_i sz fz xs hr
        split at h
        · rename_i he
          obtain ⟨p, h0, h1, rfl, hk⟩ := h
          refine ⟨_, ?_, hk⟩
          simp only [evIndexAddr, hr]
          rw [if_pos ⟨elT_of hel he, h0, h1⟩]
        · exact h.elim
      · exact h.elim
    · rename_i sz xs
      split at h
      · rename_i he
        obtain ⟨cs, h0, h1, hk⟩ := h
        refine ⟨_, ?_, hk⟩
        simp only [evIndexAddr]
        rw [if_pos ⟨elT_of hel he, h0⟩, h1]
        rfl
      · exact h.elim
    · exact h.elim

theorem sIndexS_ok {i : Int} (h : sIndexS (rowOf P t) x i K) : ∃ v, evIndexS (isStrT P t) x i = some v ∧ K v := by
  unfold sIndexS at h
  split at h
  · rename_i s
    split at h
    · rename_i hs
      obtain ⟨v, h0, h1, rfl, hk⟩ := h
      refine ⟨_, ?_, hk⟩
      simp only [evIndexS]
      rw [dif_pos ⟨skOf_str hs, h0, h1⟩]
    · exact h.elim
  · exact h.elim

theorem sSlice_ok {lo hi : Option Int} (h : sSlice rt (rowOf P t) x lo hi K) : ∃ v, evSlice rt (elT P t) (isStrT P t) x lo hi = some v ∧ K v := by
  unfold sSlice at h
  split at h
  · rename_i s
    split at h
    · rename_i hs
      obtain ⟨v, h0, h1, h2, rfl, hk⟩ := h
      refine ⟨_, ?_, hk⟩
      simp only [evSlice]
      rw [if_pos ⟨skOf_str hs, h0, h1, h2⟩]
    · exact h.elim
  · rename_i sz xs
    split at h
    · rename_i esz b hel
      split at h
      · rename_i he
        obtain ⟨v, h0, h1, h2, rfl, hk⟩ := h
        refine ⟨_, ?_, hk⟩
        simp only [evSlice]
        rw [if_pos ⟨elT_of hel he, h0, h1, h2⟩]
      · exact h.elim
    · exact h.elim
  · rename_i r off len
    split at h
    · rename_i sz fz xs esz b hr hel
      split at h
      · rename_i he
        obtain ⟨o, n, h0, h1, h2, rfl, rfl, hk⟩ := h
        refine ⟨_, ?_, hk⟩
        simp only [evSlice, hr]
        rw [if_pos ⟨elT_of hel he, h0, h1, h2⟩]
      · exact h.elim
    · exact h.elim
  · exact h.elim

theorem skOf_int {k : IntKind} (h : skOf P t = .int k) : P.underlying t = some (.int k) := by
  unfold skOf at h
  split at h <;> first | (cases h; assumption) | cases h
theorem skOf_str' (h : skOf P t = .str) : P.underlying t = some .string := by
  unfold skOf at h
  split at h <;> first | assumption | cases h
theorem isStr_und (h : isStrK (skOf P t) = true) : P.underlying t = some .string := by
  unfold isStrK at h
  split at h
  · rename_i e; exact skOf_str' e
  · cases h

theorem bsl_und (h : isByteSliceT P t = true) : ∃ d, P.underlying t = some d := by
  unfold isByteSliceT at h
  split at h
  · exact ⟨_, by assumption⟩
  · cases h

theorem sConv_ok {nb : Nat} {s d : TypeId} (h : sConv rt (rowOf P s) (rowOf P d) x K) : ∃ src dst v, P.underlying s = some src ∧ P.underlying d = some dst ∧ evConv rt nb src dst (isByteSliceT P s) x = some (v, []) ∧ K v := by
  unfold sConv at h
  split at h
  · rename_i k k0 n hk
    split at h
    · rename_i k1 hs
      obtain ⟨v, rfl, hk'⟩ := h
      exact ⟨_, _, _, skOf_int hs, skOf_int hk, rfl, hk'⟩
    · exact h.elim
  · rename_i s' hd
    split at h
    · rename_i hs
      exact ⟨_, _, _, isStr_und hs, skOf_str' hd, rfl, h⟩
    · exact h.elim
  · rename_i sz xs hd
    split at h
    · rename_i hb
      obtain ⟨v, ns, h1, rfl, hk⟩ := h
      have hb' : isByteSliceT P s = true := hb
      obtain ⟨src, hsrc⟩ := bsl_und hb'
      refine ⟨src, _, _, hsrc, skOf_str' hd, ?_, hk⟩
      simp only [evConv, hb', if_true, AV.view, Option.bind_some, h1, Option.map_some]
    · exact h.elim
  · rename_i r off len hd
    split at h
    · rename_i sz fz xs hr
      split at h
      · rename_i hb
        obtain ⟨v, ns, h0, h1, rfl, hk⟩ := h
        have hb' : isByteSliceT P s = true := hb
        obtain ⟨src, hsrc⟩ := bsl_und hb'
        refine ⟨src, _, _, hsrc, skOf_str' hd, ?_, hk⟩
        simp only [evConv, hb', if_true, AV.view, hr, h0, Option.bind_some, h1, Option.map_some]
      · exact h.elim
    · exact h.elim
  · exact h.elim

theorem sLen_ok (h : sLen rt (rowOf P t) x K) : ∃ v, evLen P rt t x = some v ∧ K v := by
  unfold sLen at h
  split at h
  · rename_i s
    split at h
    · rename_i hs
      obtain ⟨v, rfl, hk⟩ := h
      exact ⟨_, by simp only [evLen]; rw [if_pos (skOf_str hs)], hk⟩
    · exact h.elim
  · rename_i sz xs
    split at h
    · rename_i n hs
      obtain ⟨v, rfl, hk⟩ := h
      exact ⟨_, by simp only [evLen]; rw [if_pos (skOf_sl hs)], hk⟩
    · exact h.elim
  · rename_i r off len
    split at h
    · rename_i n hs ha
      obtain ⟨v, rfl, hk⟩ := h
      exact ⟨_, by simp only [evLen]; rw [if_pos (by rw [skOf_sl hs, ha]; rfl)], hk⟩
    · exact h.elim
  · exact h.elim

theorem sSrc_ok {sz : Nat} {src : Src} {ys : List (List D)} (h : sSrc rt x = some (sz, src)) (hy : src.val = some ys) : x.src rt = some (sz, ys) := by
  unfold sSrc at h
  split at h
  · cases h; cases hy; rfl
  · cases h; cases hy; rfl
  · rename_i r off len
    split at h
    · rename_i s fz xs hr
      cases h
      simp only [Src.val] at hy
      show AV.view rt (.ref r off len) = _
      simp only [AV.view, hr]
      split at hy
      · rename_i hle
        cases hy
        rw [if_pos hle]
      · cases hy
    · cases h
  · cases h

theorem sAppend_ok {nb : Nat} {xt : TypeId} {s : AV} {k : Out → Prop} (h : sAppend rt nb (rowOf P t) (rowOf P xt) s x k) :
    ∃ out, (if (ezT P t).isSome && (isSliceT P xt || isStrT P xt) then (evAppend rt nb (elT P t) s x).map fun (av, new, r) => (⟨av, new, [(r, .dead)]⟩ : Out) else none) = some out ∧ k out := by
  unfold sAppend at h
  split at h
  · rename_i r off len n bytes z hel hez hx
    split at h
    · rename_i sz xs sz' src hr hsrc
      split at h
      · rename_i he
        simp only [Bool.and_eq_true] at he
        obtain ⟨m, v, ys, hs, rfl, rfl, h2, h3, rfl, rfl, hk⟩ := h
        have e1 := Nat.eq_of_beq_eq_true he.1
        have e2 := Nat.eq_of_beq_eq_true he.2
        subst e1 e2
        refine ⟨_, ?_, hk⟩
        have hel' : elT P t = some (n, bytes) := hel
        have hez' : ezT P t = some z := hez
        have hsl : (isSliceT P xt || isStrT P xt) = true := by
          have hx' : (match skOf P xt with | .sl _ => true | .str => true | _ => false) = true := hx
          split at hx'
          · rename_i m hm; rw [skOf_sl hm]; rfl
          · rename_i hm; rw [show isStrT P xt = true from skOf_str (by rw [hm]; rfl)]; simp
          · cases hx'
        rw [hez', hsl]
        simp only [Option.isSome_some, Bool.and_self, if_true, evAppend, hr, sSrc_ok hsrc hs, Option.bind_some, hel']
        rw [if_pos (by exact ⟨trivial, trivial, trivial, trivial, h2, h3⟩)]
        rfl
      · exact h.elim
    · exact h.elim
  · exact h.elim

theorem sStore_ok {n : Nat} {p : AV} {k : Nat × Root → Prop} (h : sStore rt n p x k) : ∃ q, evStore rt n p x = some q ∧ k q := by
  unfold sStore at h
  split at h
  · rename_i r i j ys hys
    split at h
    · rename_i l hr
      split at h
      · rename_i hb
        simp only [Bool.and_eq_true] at hb
        refine ⟨_, ?_, h⟩
        simp only [evStore, hr, hys, Option.bind_some]
        rw [if_pos (by exact ⟨trivial, Nat.eq_of_beq_eq_true hb.1, Nat.le_of_ble_eq_true hb.2⟩)]
      · exact h.elim
    · rename_i sz xs hr
      split at h
      · rename_i ds hds
        split at h
        · rename_i hn
          obtain ⟨v, y, hy, hj, rfl, hk⟩ := h
          refine ⟨_, ?_, hk⟩
          simp only [evStore, hr, hys, Option.bind_some, hds, hy]
          rw [if_pos ⟨Nat.eq_of_beq_eq_true hn, hj⟩]
        · exact h.elim
      · exact h.elim
    · exact h.elim
  · exact h.elim

theorem sCall_ok {tab : List (Nat × TyRow)} (hT : TabOk P tab) {nb : Nat} {sl : Nat → AV} {c : Call} {k : Out → Prop} (h : sCall tab nb sl rt c k) : ∃ out, evCall P nb sl rt c = some out ∧ k out := by
  unfold sCall at h
  split at h
  · rename_i x t hc ha ht
    split at h
    · rename_i R hR
      have e := hT t R hR
      subst e
      obtain ⟨v, h1, h2⟩ := sLen_ok h
      exact ⟨_, by simp only [evCall, hc, ha, ht, h1, Option.map_some], h2⟩
    · exact h.elim
  · rename_i s x t xt hc ha ht
    split at h
    · rename_i R X hR hX
      have e := hT t R hR
      subst e
      have e := hT xt X hX
      subst e
      obtain ⟨v, h1, h2⟩ := sAppend_ok h
      exact ⟨_, by simp only [evCall, hc, ha, ht]; exact h1, h2⟩
    · exact h.elim
  · rename_i x y hc ha
    split at h
    · rename_i k' a k2 b hx hy
      obtain ⟨v, rfl, h2⟩ := h
      refine ⟨_, ?_, h2⟩
      simp only [evCall]
      rw [hc, ha]
      simp only [hx, hy, evMinMax, if_true, Option.map_some]
    · exact h.elim
  · rename_i x y hc ha
    split at h
    · rename_i k' a k2 b hx hy
      obtain ⟨v, rfl, h2⟩ := h
      refine ⟨_, ?_, h2⟩
      simp only [evCall]
      rw [hc, ha]
      simp only [hx, hy, evMinMax, Bool.false_eq_true, if_false, Option.map_some]
    · exact h.elim
  · exact h.elim
end

theorem sv_ok {P : Program} {tab : List (Nat × TyRow)} (hT : TabOk P tab) {nb : Nat} {sl : Nat → AV} {rt : Nat → Option Root} {o : Oper} {k : Out → Prop} (h : sv tab nb sl rt o k) : ∃ out, ev P nb sl rt o = some out ∧ k out := by
  unfold sv at h
  split at h
  · rename_i t x ho
    split at h
    · rename_i R hR
      have e := hT t R hR
      subst e
      obtain ⟨g, n, v, h1, h2, h3, h4⟩ := sLoad_ok h
      exact ⟨_, by simp only [ev, ho, h1, h2, h3, Option.bind_some, Option.map_some], h4⟩
    · exact h.elim
  · rename_i t p x ho
    split at h
    · rename_i R hR
      have e := hT t R hR
      subst e
      split at h
      · rename_i n av new hn hopd
        have hn' : szT P t = some n := hn
        have hopd' : opd nb (hintT P t) sl x = (av, new) := hopd
        obtain ⟨q, h1, h2⟩ := sStore_ok h
        split at h2
        · rename_i hlt
          refine ⟨_, ?_, h2⟩
          simp only [ev, ho, hn', Option.bind_some, hopd', h1]
          rw [if_pos (by simpa [Nat.blt_eq] using hlt)]
        · exact h2.elim
      · exact h.elim
    · exact h.elim
  · rename_i op t x y yt ho
    split at h
    · rename_i R hR
      have e := hT t R hR
      subst e
      obtain ⟨v, h1, h2⟩ := sBinN_ok h
      exact ⟨_, by simp only [ev, ho, h1, Option.map_some], h2⟩
    · exact h.elim
  · rename_i op t x ho
    obtain ⟨v, h1, h2⟩ := sUn_ok h
    exact ⟨_, by simp only [ev, ho, h1, Option.map_some], h2⟩
  · rename_i s d x ho
    split at h
    · rename_i S T hS hT'
      have e := hT s S hS
      subst e
      have e := hT d T hT'
      subst e
      obtain ⟨src, dst, v, h1, h2, h3, h4⟩ := sConv_ok (nb := nb) h
      exact ⟨_, by simp only [ev, ho, h1, h2, h3, Option.bind_some, Option.map_some], h4⟩
    · exact h.elim
  · rename_i t x i ho
    split at h
    · rename_i R k' n hR hi
      have e := hT t R hR
      subst e
      obtain ⟨v, h1, h2⟩ := sIndexAddr_ok h
      exact ⟨_, by simp only [ev, ho, intOf_sc hi, h1, Option.bind_some, Option.map_some], h2⟩
    · exact h.elim
  · rename_i t x i ho
    split at h
    · rename_i R k' n hR hi
      have e := hT t R hR
      subst e
      obtain ⟨v, h1, h2⟩ := sIndexS_ok h
      exact ⟨_, by simp only [ev, ho, intOf_sc hi, h1, Option.bind_some, Option.map_some], h2⟩
    · exact h.elim
  · rename_i t x lo hi ho
    split at h
    · rename_i R l m hR hl hm
      have e := hT t R hR
      subst e
      obtain ⟨v, h1, h2⟩ := sSlice_ok h
      exact ⟨_, by simp only [ev, ho, hl, hm, h1, Option.bind_some, Option.map_some], h2⟩
    · exact h.elim
  · rename_i t n m ho
    split at h
    · rename_i R k1 n k2 m hR hn hm
      have e := hT t R hR
      subst e
      split at h
      · rename_i z hz
        have hz' : ezT P t = some z := hz
        obtain ⟨l, v, h0, h1, h2, h3, rfl, rfl, hk⟩ := h
        refine ⟨_, ?_, hk⟩
        simp only [ev, ho, hz', intOf_sc hn, intOf_sc hm, Option.bind_some, evMake]
        rw [if_pos ⟨h0, h1, h2, h3⟩]
        rfl
      · exact h.elim
    · exact h.elim
  · rename_i c ho
    obtain ⟨out, h1, h2⟩ := sCall_ok hT h
    exact ⟨out, by simp only [ev, ho, h1], h2⟩
  · exact h.elim
  · split at h
    · rename_i out ps hv
      obtain ⟨h1, h2⟩ := andAll_ok h
      exact ⟨out, vev_sound hT hv h1, h2⟩
    · exact h.elim
end Go.Proofs.Ytamdgfklbjoaiaa.Ab

namespace Go.Proofs.Ytamdgfklbjoaiaa.Ab
open Go

/-! The bytes of a text, as a new row. -/
theorem bytes_yields {P : Program} {c : Ctx} {E : Env} (hM : Mem c E) {nb : Nat} {s d e : TypeId} {u : TypeDesc} {str : ByteArray} (hs : P.underlying s = some u) (hd : P.underlying d = some (.slice e)) (he : P.underlying e = some (.int .u8))
    (hF : Fresh c E nb [.row 1 false (strRow str)]) : Yields1 c P E nb (.ref nb 0 str.size, [.row 1 false (strRow str)]) (convert s d (.string str)) := by
  have hnew := Lib.bytesWorld_at_new E.w e str
  have g : Grow E.w (Lib.bytesWorld E.w e str) (.cells (Lib.bytesCells E.w e str) e ((Lib.bytesCells E.w e str).size, (Lib.bytesCells E.w e str).size + 1)) := by
    refine ⟨?_, rfl, rfl, rfl⟩
    refine Array.ext_getElem? ?_
    intro j
    rw [Array.getElem?_push]
    split
    · rename_i h; subst h; exact hnew
    · rename_i h
      by_cases hj : j < E.w.heap.size
      · exact Lib.bytesWorld_at_old E.w e str j hj
      · rw [Array.getElem?_eq_none (by rw [Lib.bytesWorld_size]; omega), Array.getElem?_eq_none (by omega)]
  have hlen : (strRow str).length = str.size := by unfold strRow; rw [List.length_map]; exact Array.length_toList
  have hsz : str.size ≤ (Lib.bytesCells E.w e str).size := by
    unfold Lib.bytesCells
    rw [Array.size_append, Array.size_map]
    show str.data.size ≤ _
    omega
  have hcap : grownCap E.w str.size 0 e ≤ (Lib.bytesCells E.w e str).size := by
    unfold Lib.bytesCells
    rw [Array.size_append, Array.size_map, Array.size_replicate]
    show _ ≤ str.data.size + _
    have : str.size = str.data.size := rfl
    omega
  have hcap0 : str.size ≤ grownCap E.w str.size 0 e := grownCap_ge _ _ _ _
  obtain ⟨q, hrel⟩ := rowed hM (r := nb) (sz := 1) (xs := strRow str) (t := e) (by simpa using hF.rt 0 _ rfl) (by simpa using hF.np 0 (by simp)) hF.m g (fun o ho hh => by omega)
    (by intro i x hx; obtain ⟨b, _, rfl⟩ := List.mem_map.1 (List.mem_of_getElem? hx); rfl)
    (by rw [hlen]; omega)
    (by
      intro i x j y hx hy
      unfold strRow at hx
      rw [List.getElem?_map] at hx
      obtain ⟨b, hb, rfl⟩ := Option.map_eq_some_iff.1 hx
      cases j with
      | succ j => simp at hy
      | zero =>
        simp at hy
        subst hy
        refine ⟨.int .u8 b.toNat, ?_, .sc _ rfl⟩
        have hi : i < str.data.size := by have := (List.getElem?_eq_some_iff.1 hb).1; simpa using this
        rw [show i * 1 + 0 = i by omega]
        unfold Lib.bytesCells
        rw [Array.getElem?_append_left (by simpa using hi), Array.getElem?_map]
        rw [Array.getElem?_toList] at hb
        rw [hb]
        rfl)
  refine ⟨_, _, Lib.run_convert_string_bytes E.w s d e str hs hd he, q, hrel _ _ hcap0 (by omega)⟩

theorem OpSem.strB {P : Program} {ops : Array Oper} {i nb : Nat} {o : Oper} {sl : Nat → AV} {rt : Nat → Option Root} {s d e : TypeId} {u : TypeDesc} {x : Operand} {str : ByteArray} (ho : ops[i]? = some o) (hg : guardV ops o sl = some true) (hop : o.op = .convert s d x)
    (hx : opd0 sl x = .d (.sc (.string str))) (hs : P.underlying s = some u) (hd : P.underlying d = some (.slice e)) (he : P.underlying e = some (.int .u8)) : OpSem P ops i [] sl rt nb ⟨.ref nb 0 str.size, [.row 1 false (strRow str)], []⟩ := by
  refine ⟨o, ho, ?_⟩
  intro c E a hM hl hT hnb hF K Q k
  unfold wpOp
  rw [ho]
  simp only [guardV_wanted hl hg, if_true]
  obtain ⟨hsl, hop0⟩ := opd0_junk hl
  have hv := opd0_rel hsl x
  rw [← hop0 x (by rw [hop]; simp [Op.operands]), hx] at hv
  have hval := relSc hv
  refine .inl (Done.wp ?_ k)
  refine Done.of (r := (.ref nb 0 str.size, [.row 1 false (strRow str)])) (s := convert s d (.string str)) (bytes_yields hM hs hd he hF) ?_
  simp [execOp, hop, hval]

/-! Buffers. -/
theorem Mem.recast {c : Ctx} {E : Env} (hM : Mem c E) {rt1 : Nat → Option Root} (h1 : ∀ x R, E.rt x = some R → ∃ R', rt1 x = some R' ∧ R'.kind = R.kind) (h2 : ∀ x R', rt1 x = some R' → ∃ R, E.rt x = some R ∧ R'.kind = R.kind)
    (h3 : ∀ x R', E.pres x → rt1 x = some R' → RootRel E x R') : Mem c { E with rt := rt1 } ∧ Step E { E with rt := rt1 } ∧ Step { E with rt := rt1 } E := by
  have st : Step E { E with rt := rt1 } := ⟨fun x R h => by obtain ⟨R', a, b⟩ := h1 x R h; exact ⟨R', a, .inr b⟩, fun _ h => h, fun _ _ => rfl, fun _ h => h, fun _ _ => rfl, fun _ _ h => h⟩
  have st' : Step { E with rt := rt1 } E := ⟨fun x R h => by obtain ⟨R', a, b⟩ := h2 x R h; exact ⟨R', a, .inr b.symm⟩, fun _ h => h, fun _ _ => rfl, fun _ h => h, fun _ _ => rfl, fun _ _ h => h⟩
  have dd : ∀ {R R' : Root}, R'.kind = R.kind → R' ≠ .dead → R ≠ .dead := by
    intro R R' hk hd e
    exact hd (kind_dead.1 (hk.trans (kind_dead.2 e)))
  refine ⟨{ os := hM.os, output := hM.output, tape := hM.tape, size := hM.size, keep := hM.keep, shape := hM.shape, s0 := hM.s0, slt := hM.slt, snew := hM.snew, blt := hM.blt, bown := ?_, bkeep := ?_, inj := ?_, roots := ?_ }, st, st'⟩
  · intro r R b hp hr hd hb
    obtain ⟨R0, a, k⟩ := h2 r R hr
    exact hM.bown r R0 b hp a (dd k hd) hb
  · intro r R hm hp hr hd
    obtain ⟨R0, a, k⟩ := h2 r R hr
    exact hM.bkeep r R0 hm hp a (dd k hd)
  · intro r r' R R' b hp hp' hr hd hr' hd' hb hb'
    obtain ⟨R0, a, k⟩ := h2 r R hr
    obtain ⟨R1, a', k'⟩ := h2 r' R' hr'
    exact hM.inj r r' R0 R1 b hp hp' a (dd k hd) a' (dd k' hd') hb hb'
  · intro r R hp hr
    exact (h3 r R hp hr).step st hp (fun _ _ => rfl) (fun _ _ h => h)

theorem cB_at {bs : List UInt8} {i j : Nat} {x : List D} {y : D} (hx : (bs.map cB)[i]? = some x) (hy : x[j]? = some y) : j = 0 ∧ ∃ u : UInt8, bs[i]? = some u ∧ y = .sc (.int .u8 u.toNat) := by
  rw [List.getElem?_map] at hx
  obtain ⟨u, hu, rfl⟩ := Option.map_eq_some_iff.1 hx
  cases j with
  | succ j => simp [cB] at hy
  | zero => simp [cB] at hy; exact ⟨rfl, u, hu, hy.symm⟩

/-- A text put behind a buffer. -/
theorem append_buf {P : Program} {c : Ctx} {E : Env} (hM : Mem c E) {nb t xT ty r len e inf_bytes : Nat} {bs : List UInt8} {s : ByteArray} {vs : Value} (hx : P.underlying xT = some .string) (hz : (ezT P t).isSome = true) (hel : elT P t = some (1, inf_bytes))
    (hu : P.underlying t = some (.slice e)) (hr : E.rt r = some (.buf e false bs)) (hs : RelAV E (.ref r 0 len) vs) (hlen : len = bs.length) (h48 : (2 * (bs.length + s.size) + 1024) * inf_bytes ≤ 2 ^ 48) (h62 : bs.length + s.size < 2 ^ 62)
    (hp : E.pres r) (hF : Fresh c E nb [.buf e false (bs ++ s.data.toList)]) :
    ∃ v E', (Builtin.append_ #[t, xT] ty #[vs, .string s]).run P E.w = .ok v E'.w ∧ Appended c E nb r E' ∧ RelAV E' (.ref nb 0 (bs.length + s.size)) v := by
  have hstr : strRow s = s.data.toList.map cB := rfl
  have hsl : (strRow s).length = s.size := by rw [hstr, List.length_map]; exact Array.length_toList
  have hnb : E.rt nb = some (.buf e false (bs ++ s.data.toList)) := by simpa using hF.rt 0 _ rfl
  have hnp : ¬ E.pres nb := by simpa using hF.np 0 (by simp)
  have hne : nb ≠ r := by rintro rfl; exact hnp hp
  obtain ⟨hM1, st, st'⟩ := hM.recast (rt1 := fun x => if x = r then some (.row 1 false (bs.map cB)) else if x = nb then some (.row 1 false (bs.map cB ++ strRow s)) else E.rt x)
    (by
      intro x R hR
      by_cases h : x = r
      · subst h; rw [hr] at hR; obtain rfl := Option.some.inj hR; exact ⟨_, if_pos rfl, rfl⟩
      · by_cases h' : x = nb
        · subst h'; rw [hnb] at hR; obtain rfl := Option.some.inj hR; exact ⟨.row 1 false (bs.map cB ++ strRow s), by rw [if_neg h, if_pos rfl], rfl⟩
        · exact ⟨R, by rw [if_neg h, if_neg h']; exact hR, rfl⟩)
    (by
      intro x R hR
      by_cases h : x = r
      · subst h; rw [if_pos rfl] at hR; obtain rfl := Option.some.inj hR; exact ⟨_, hr, rfl⟩
      · rw [if_neg h] at hR
        by_cases h' : x = nb
        · subst h'; rw [if_pos rfl] at hR; obtain rfl := Option.some.inj hR; exact ⟨_, hnb, rfl⟩
        · rw [if_neg h'] at hR; exact ⟨R, hR, rfl⟩)
    (by
      intro x R hpx hR
      by_cases h : x = r
      · subst h
        rw [if_pos rfl] at hR
        obtain rfl := Option.some.inj hR
        rcases hM.roots x _ hpx hr with ⟨h1, h2⟩ | ⟨b, cs, fr, h1, h2, h3, h4, h5, h6⟩
        · exact .inl ⟨h1, by rw [h2]; rfl⟩
        · refine .inr ⟨b, cs, e, fr, h1, h2, ?_, by simpa using h3, ?_, .inr ⟨rfl, h5, h6 rfl⟩⟩
          · intro i y hy
            obtain ⟨u, _, rfl⟩ := List.mem_map.1 (List.mem_of_getElem? hy)
            rfl
          · intro i y j z hy hz'
            obtain ⟨rfl, u, hu', rfl⟩ := cB_at hy hz'
            exact ⟨_, by simpa using h4 i u hu', .sc _ rfl⟩
      · rw [if_neg h] at hR
        by_cases h' : x = nb
        · subst h'; exact absurd hpx hnp
        · rw [if_neg h'] at hR; exact hM.roots x R hpx hR)
  generalize hE1 : ({ E with rt := _ } : Env) = E1 at hM1 st st'
  have e1r : E1.rt r = some (.row 1 false (bs.map cB)) := by rw [← hE1]; exact if_pos rfl
  have e1n : E1.rt nb = some (.row 1 false (bs.map cB ++ strRow s)) := by rw [← hE1]; show (if nb = r then _ else _) = _; rw [if_neg hne, if_pos rfl]
  have e1o : ∀ x, x ≠ r → x ≠ nb → E1.rt x = E.rt x := by intro x h1 h2; rw [← hE1]; show (if x = r then _ else _) = _; rw [if_neg h1, if_neg h2]
  have e1w : E1.w = E.w := by rw [← hE1]
  have e1p : E1.pres = E.pres := by rw [← hE1]
  have e1b : E1.β = E.β := by rw [← hE1]
  have e1S : E1.S = E.S := by rw [← hE1]
  have hF1 : Fresh c E1 nb [.row 1 false (bs.map cB ++ strRow s)] := ⟨hF.m, fun k R hk => by
      cases k with
      | zero => simp at hk; subst hk; exact e1n
      | succ k => simp at hk, fun k hk => by
      have : k = 0 := by simpa using hk
      subst this
      rw [e1p]; exact hnp⟩
  have hev : evAppend E1.rt nb (elT P t) (.ref r 0 len) (.d (.sc (.string s))) = some (.ref nb 0 ((bs.map cB).length + (strRow s).length), [.row 1 false (bs.map cB ++ strRow s)], r) := by
    simp only [evAppend, e1r, AV.src, Option.bind_some, hel]
    rw [if_pos (by refine ⟨trivial, ?_, trivial, trivial, ?_, ?_⟩ <;> simp only [List.length_map, hsl] <;> assumption)]
  obtain ⟨v, E2, hrun, hA, hrel, hty⟩ := evAppend_sound (ty := ty) hM1 (.inr hx) hz (hs.step st) (.d _ _ (.sc (.string s) rfl)) hev hF1
  have hlb : (bs.map cB).length + (strRow s).length = bs.length + s.size := by rw [hsl, List.length_map]
  rw [hlb] at hrel
  have e2 : ∀ x, E2.rt x = (E1.kill r).rt x := fun x => by rw [hA.rt]
  have kr : ∀ x, (E.kill r).rt x = if x = r then some .dead else E.rt x := fun x => rfl
  have kr1 : ∀ x, (E1.kill r).rt x = if x = r then some .dead else E1.rt x := fun x => rfl
  have hpn : E2.pres nb := (hA.pres nb).2 (.inr rfl)
  obtain ⟨hM2, st2, st2'⟩ := hA.mem.recast (rt1 := (E.kill r).rt)
    (by
      intro x R hR
      rw [e2, kr1] at hR
      rw [kr]
      by_cases h : x = r
      · rw [if_pos h] at hR ⊢; exact ⟨R, hR, rfl⟩
      · rw [if_neg h] at hR ⊢
        by_cases h' : x = nb
        · subst h'; rw [e1n] at hR; obtain rfl := Option.some.inj hR; exact ⟨_, hnb, rfl⟩
        · rw [e1o x h h'] at hR; exact ⟨R, hR, rfl⟩)
    (by
      intro x R hR
      rw [kr] at hR
      simp only [e2, kr1]
      by_cases h : x = r
      · rw [if_pos h] at hR ⊢; exact ⟨R, hR, rfl⟩
      · rw [if_neg h] at hR ⊢
        by_cases h' : x = nb
        · subst h'; rw [hnb] at hR; obtain rfl := Option.some.inj hR; exact ⟨_, e1n, rfl⟩
        · rw [e1o x h h']; exact ⟨R, hR, rfl⟩)
    (by
      intro x R hpx hR
      rw [kr] at hR
      by_cases h : x = r
      · rw [if_pos h] at hR; obtain rfl := Option.some.inj hR; trivial
      · rw [if_neg h] at hR
        by_cases h' : x = nb
        · subst h'
          rw [hnb] at hR
          obtain rfl := Option.some.inj hR
          have hroot := hA.mem.roots x _ hpn (by rw [e2, kr1, if_neg h]; exact e1n)
          rcases hroot with ⟨h1, h2⟩ | ⟨b, cs, tt, fr, h1, h2, h3, h4, h5, h6⟩
          · refine .inl ⟨h1, ?_⟩
            rw [hstr, ← List.map_append] at h2
            simpa using h2
          · have htt : tt = e := by
              have key : ∃ n, E2.w.shape? b = some (e, n) := by
                rcases hty e hu b h1 with hb | hb
                · rw [e1b] at hb
                  rcases hM.roots r _ hp hr with ⟨g1, _⟩ | ⟨b', cs', fr', g1, g2, _⟩
                  · rw [g1] at hb; cases hb
                  · rw [g1] at hb
                    obtain rfl := Option.some.inj hb
                    exact ⟨_, hA.step.shape b' _ (by rw [e1w]; unfold World.shape?; rw [g2])⟩
                · exact hb
              obtain ⟨n, hn⟩ := key
              unfold World.shape? at hn
              rw [h2] at hn
              simp only [Option.some.injEq, Prod.mk.injEq] at hn
              exact hn.1
            subst htt
            rw [hstr, ← List.map_append] at h4 h5
            refine .inr ⟨b, cs, fr, h1, h2, by simpa using h4, ?_, ?_⟩
            · intro i u hu'
              obtain ⟨w', hw, hd⟩ := h5 i (cB u) 0 (.sc (.int .u8 u.toNat)) (by rw [List.getElem?_map, hu']; rfl) rfl
              cases hd
              simpa using hw
            · rcases h6 with ⟨h6, _⟩ | ⟨_, h7, h8⟩
              · cases h6
              · exact ⟨h7, fun _ => h8⟩
        · rw [← e1o x h h'] at hR
          exact hA.mem.roots x R hpx (by rw [e2, kr1, if_neg h]; exact hR))
  refine ⟨v, _, ?_, ⟨hM2, (st.trans hA.step).trans st2, rfl, ?_, ?_, ?_⟩, hrel.step st2⟩
  · rw [e1w] at hrun; exact hrun
  · intro x
    have := hA.pres x
    rw [e1p] at this
    exact this
  · show E2.S = E.S
    rw [hA.S, e1S]
  · have := hA.size
    rw [e1w] at this
    exact this

theorem OpSem.appB {P : Program} {ops : Array Oper} {i nb : Nat} {o : Oper} {sl : Nat → AV} {rt : Nat → Option Root} {cl : Call} {x y : Operand} {t xT r len e bytes : Nat} {bs : List UInt8} {str : ByteArray} (ho : ops[i]? = some o) (hg : guardV ops o sl = some true) (hop : o.op = .call cl)
    (hc : cl.callee = .builtin .append) (ha : cl.args = #[x, y]) (ht : cl.argTypes = #[t, xT]) (hx : opd0 sl x = .ref r 0 len) (hy : opd0 sl y = .d (.sc (.string str))) (hxT : P.underlying xT = some .string) (hz : (ezT P t).isSome = true) (hel : elT P t = some (1, bytes))
    (hu : P.underlying t = some (.slice e)) (hr : rt r = some (.buf e false bs)) (hlen : len = bs.length) (h48 : (2 * (bs.length + str.size) + 1024) * bytes ≤ 2 ^ 48) (h62 : bs.length + str.size < 2 ^ 62) :
    OpSem P ops i [r] sl rt nb ⟨.ref nb 0 (bs.length + str.size), [.buf e false (bs ++ str.data.toList)], [(r, .dead)]⟩ := by
  refine ⟨o, ho, ?_⟩
  intro c E a hM hl hT hnb hF K Q k
  unfold wpOp
  rw [ho]
  simp only [guardV_wanted hl hg, if_true]
  obtain ⟨hsl, hop0⟩ := opd0_junk hl
  have hv := opd0_rel hsl x
  rw [← hop0 x (by rw [hop]; simp [Op.operands, Call.operands, hc, ha]), hx] at hv
  have hw := opd0_rel hsl y
  rw [← hop0 y (by rw [hop]; simp [Op.operands, Call.operands, hc, ha]), hy] at hw
  have hval := relSc hw
  have hr' : E.rt r = some (.buf e false bs) := by
    rcases hT r (by simp) with h | h
    · rw [h] at hr; cases hr
    · rw [h]; exact hr
  have hp : E.pres r := pres_of_ids hv (by simp [AV.ids]) hr' (by simp)
  obtain ⟨v, E', hrun, hA, hrel⟩ := append_buf (ty := o.type) hM hxT hz hel hu hr' hv hlen h48 h62 hp hF
  refine .inl (Done.wp ?_ k)
  refine ⟨v, E', .inl ?_, hA.mem, hA.step, ?_, ?_, hA.size, hrel⟩
  · simp [execOp, hop, resolve, hc, ha, ht, invoke, builtin, hval, hrun]
  · rw [hA.rt]; rfl
  · intro z
    rw [hA.pres]
    constructor
    · rintro (h | rfl)
      · exact .inl h
      · exact .inr ⟨Nat.le_refl _, by simp⟩
    · rintro (h | ⟨h1, h2⟩)
      · exact .inl h
      · have h2' : z < nb + 1 := by simpa using h2
        exact .inr (by omega)
end Go.Proofs.Ytamdgfklbjoaiaa.Ab

namespace Go.Proofs.Ytamdgfklbjoaiaa.Ab
open Go

/-! Code, gone through with stops. -/
structure Fn (P : Program) (f : FuncId) (as : List AV) (r0 : List Root) (o : Out) : Prop where
  ent : Entered P f
  ok : CallOk P f as r0 o

/-- The operation is a call of f with the arguments ys. -/
inductive IsCall (o : Oper) (st : St) (f : FuncId) (ys : List AV) : Prop
  | mk (cl : Call) (x : Operand) (caps ys0 : List AV) (hgd : o.guard = none) (hop : o.op = .call cl) (hc : cl.callee = .value x) (hx : opd0 st.sl x = .clo f caps) (ha : ArgR st.sl cl.args.toList ys0) (e : ys0 ++ caps = ys) : IsCall o st f ys

/-- A call that is still to be told. -/
inductive CallW (P : Program) (f : FuncId) (ys : List AV) (rt : List Root) (k : Out → List Nat → Prop) : Prop
  | mk (h : ∀ (o : Oper) (st : St), st.rt = rt → IsCall o st f ys → ClW P o st k) : CallW P f ys rt k

/-- A loop that is still to be told: its state. -/
inductive LoopW (P : Program) (N : Nat) (body : Code) (Q : Exit → St → Prop) (st : St) : Prop
  | mk (h : LpW P N body Q st) : LoopW P N body Q st

def calleeOf (o : Oper) : Option (Operand × Call) :=
  match o.op with
  | .call c => (match c.callee with | .value x => some (x, c) | _ => none)
  | _ => none

inductive StrBW (s : ByteArray) (K : Nat → List (List D) → Prop) : Prop | mk (n : Nat) (v : List (List D)) (hn : n = s.size) (hv : v = strRow s) (hk : K n v) : StrBW s K
inductive AppBW (P : Program) (t e bytes len : Nat) (bs : List UInt8) (s : ByteArray) (K : Nat → List UInt8 → Prop) : Prop
  | mk (n : Nat) (v : List UInt8) (hu : P.underlying t = some (.slice e)) (hl : len = bs.length) (h48 : (2 * (bs.length + s.size) + 1024) * bytes ≤ 2 ^ 48) (h62 : bs.length + s.size < 2 ^ 62) (hn : n = bs.length + s.size) (hv : v = bs ++ s.data.toList) (hk : K n v) : AppBW P t e bytes len bs s K
inductive Sp where
  | no
  | strB (s : ByteArray)
  | appB (t r len e bytes : Nat) (bs : List UInt8) (s : ByteArray)
def spOf (tab : List (Nat × TyRow)) (o : Oper) (st : St) : Sp :=
  match o.op with
  | .convert s d x => (match opd0 st.sl x with
    | .d (.sc (.string str)) => (match tabGet tab s, tabGet tab d with
      | some S, some D => (match isStrK S.sk, D.bsl with
        | true, true => .strB str
        | _, _ => .no)
      | _, _ => .no)
    | _ => .no)
  | .call cl => (match cl.callee, cl.args.toList, cl.argTypes.toList with
    | .builtin .append, [x, y], [t, xT] => (match opd0 st.sl x with
      | .ref r 0 len => (match st.look r with
        | some (.buf e false bs) => (match opd0 st.sl y with
          | .d (.sc (.string s)) => (match tabGet tab t, tabGet tab xT with
            | some R, some X => (match R.el, R.ez, isStrK X.sk with
              | some (1, bytes), some _, true => .appB t r len e bytes bs s
              | _, _, _ => .no)
            | _, _ => .no)
          | _ => .no)
        | _ => .no)
      | _ => .no)
    | _, _, _ => .no)
  | _ => .no

def wStep (P : Program) (tab : List (Nat × TyRow)) (o : Oper) (st : St) (k : Out → List Nat → Prop) : Prop :=
  match calleeOf o with
  | some (x, c) => (match opd0 st.sl x with
    | .clo f caps => CallW P f (sArgs tab st.sl c.args.toList c.argTypes.toList ++ caps) st.rt k
    | _ => False)
  | none => (match spOf tab o st with
    | .strB s => StrBW s fun n v => k ⟨.ref st.rt.length 0 n, [.row 1 false v], []⟩ []
    | .appB t r len e bytes bs s => AppBW P t e bytes len bs s fun n v => k ⟨.ref st.rt.length 0 n, [.buf e false v], [(r, .dead)]⟩ [r]
    | .no => sv tab st.rt.length st.sl st.look o fun out => (match out.g.all (fun p => Nat.blt p.1 (st.rt.length + out.new.length)) with
      | true => k out (Op.touched st.sl o.op)
      | false => False))

def guardD (ds : List (Option Tmp)) (o : Oper) (sl : Nat → AV) : GV :=
  match o.guard with
  | none => .yes
  | some (g, w) => match ds[g]? with
    | some (some t) => (match sl t with | .d (.sc (.bool b)) => .test t b w | .tup [] => .no | _ => .bad)
    | _ => .bad

theorem guardD_eq {ops : Array Oper} {o : Oper} {sl : Nat → AV} : guardD (ops.toList.map (·.dst)) o sl = guardG ops o sl := by
  unfold guardD guardG
  cases o.guard with
  | none => rfl
  | some p =>
    obtain ⟨g, w⟩ := p
    simp only [List.getElem?_map, Array.getElem?_toList]
    cases h : ops[g]? with
    | none => rfl
    | some og =>
      simp only [Option.map_some]
      cases og.dst <;> rfl

def wOps (P : Program) (tab : List (Nat × TyRow)) (ds : List (Option Tmp)) : List Oper → St → List Eff → (List Eff → St → Prop) → Prop
  | [], st, acc, K => K acc st
  | o :: l, st, acc, K =>
    match guardD ds o st.sl with
    | .yes => wStep P tab o st fun out T => wOps P tab ds l (st.put o.dst out) (acc ++ [⟨out.g.map (·.1), out.new.length, T⟩]) K
    | .test t b true => br b (fun _ => wStep P tab o ⟨setS st.sl t (.d (.sc (.bool true))), st.rt⟩ fun out T => wOps P tab ds l (St.put ⟨setS st.sl t (.d (.sc (.bool true))), st.rt⟩ o.dst out) (acc ++ [⟨out.g.map (·.1), out.new.length, T⟩]) K)
        (fun _ => wOps P tab ds l (St.put ⟨setS st.sl t (.d (.sc (.bool false))), st.rt⟩ o.dst ⟨.tup [], [], []⟩) (acc ++ [⟨[], 0, []⟩]) K)
    | .test t b false => br b (fun _ => wOps P tab ds l (St.put ⟨setS st.sl t (.d (.sc (.bool true))), st.rt⟩ o.dst ⟨.tup [], [], []⟩) (acc ++ [⟨[], 0, []⟩]) K)
        (fun _ => wStep P tab o ⟨setS st.sl t (.d (.sc (.bool false))), st.rt⟩ fun out T => wOps P tab ds l (St.put ⟨setS st.sl t (.d (.sc (.bool false))), st.rt⟩ o.dst out) (acc ++ [⟨out.g.map (·.1), out.new.length, T⟩]) K)
    | .no => wOps P tab ds l (st.put o.dst ⟨.tup [], [], []⟩) (acc ++ [⟨[], 0, []⟩]) K
    | .bad => False

def wReg (P : Program) (tab : List (Nat × TyRow)) (N : Nat) (ops : Array Oper) (draw : Bool) (st : St) (K : St → Prop) : Prop :=
  match draw with
  | false => wOps P tab (ops.toList.map (·.dst)) ops.toList st [] fun _ st' => ifB true fun _ => K st'
  | true => wOps P tab (ops.toList.map (·.dst)) ops.toList st [] fun effs st' => ifB (drawB ops N st.rt.length effs) fun _ => K st'

def wc (P : Program) (tab : List (Nat × TyRow)) (N : Nat) : Code → (Exit → St → Prop) → St → Prop
  | .skip, Q, st => Q .normal st
  | .ret, Q, st => Q .ret st
  | .exit id, Q, st => Q (.exit id) st
  | .label _, Q, st => Q .normal st
  | .seq a b, Q, st => wc P tab N a (Exit.thenQ (fun st' => wc P tab N b Q st') Q) st
  | .cond x t e, Q, st => (match opd0 st.sl x with
    | .d (.sc (.bool b)) => br b (fun _ => wc P tab N t Q (st.known x true)) (fun _ => wc P tab N e Q (st.known x false))
    | .anyb p => anyB p (fun _ => wc P tab N t Q st) (fun _ => wc P tab N e Q st)
    | _ => False)
  | .block id b, Q, st => wc P tab N b (Exit.blockQ id Q) st
  | .loop b, Q, st => LoopW P N b Q st
  | .region _ ops draw, Q, st => ifB (ops.toList.all (dstOk N)) fun _ => wReg P tab N ops draw st fun st' => ifB true fun _ => Q .normal st'
  | _, _, _ => False

section
variable {P : Program} {N : Nat} {tab : List (Nat × TyRow)} {Q : Exit → St → Prop}

theorem sArgs_argR {sl : Nat → AV} : ∀ {xs : List Operand} {ts : List TypeId}, ArgR sl xs (sArgs tab sl xs ts)
  | [], _ => .nil
  | x :: xs, [] => .cons rfl sArgs_argR
  | x :: xs, t :: ts => by
    simp only [sArgs]
    split
    · rename_i h
      unfold isNilC at h
      split at h
      · exact .nilS sArgs_argR
      · cases h
    · exact .cons rfl sArgs_argR

theorem calleeOf_some {o : Oper} {x : Operand} {c : Call} (h : calleeOf o = some (x, c)) : o.op = .call c ∧ c.callee = .value x := by
  unfold calleeOf at h
  split at h
  · rename_i c' hc
    split at h
    · rename_i x' hx
      simp only [Option.some.injEq, Prod.mk.injEq] at h
      obtain ⟨rfl, rfl⟩ := h
      exact ⟨hc, hx⟩
    · cases h
  · cases h

theorem spOf_strB {o : Oper} {st : St} {s : ByteArray} (hT : TabOk P tab) (h : spOf tab o st = .strB s) : ∃ a d x e, o.op = .convert a d x ∧ opd0 st.sl x = .d (.sc (.string s)) ∧ P.underlying a = some .string ∧ P.underlying d = some (.slice e) ∧ P.underlying e = some (.int .u8) := by
  unfold spOf at h
  split at h
  · rename_i a d x hop
    split at h
    · rename_i str hx
      split at h
      · rename_i S D hS hD
        split at h
        · rename_i h1 h2
          obtain rfl := hT _ _ hS
          obtain rfl := hT _ _ hD
          simp only [Sp.strB.injEq] at h
          subst h
          have h1' : isStrK (skOf P a) = true := h1
          have h2' : isByteSliceT P d = true := h2
          have ha : P.underlying a = some .string := by
            unfold skOf at h1'
            split at h1' <;> first | assumption | (simp [isStrK] at h1')
          unfold isByteSliceT at h2'
          split at h2'
          · rename_i e he
            split at h2'
            · rename_i hu8
              exact ⟨a, d, x, e, hop, hx, ha, he, hu8⟩
            · cases h2'
          · cases h2'
        · cases h
      · cases h
    · cases h
  · rename_i cl hop
    repeat' (split at h)
    all_goals cases h
  · cases h
theorem spOf_appB {o : Oper} {st : St} {t r len e bytes : Nat} {bs : List UInt8} {s : ByteArray} (hT : TabOk P tab) (h : spOf tab o st = .appB t r len e bytes bs s) :
    ∃ cl x y xT, o.op = .call cl ∧ cl.callee = .builtin .append ∧ cl.args = #[x, y] ∧ cl.argTypes = #[t, xT] ∧ opd0 st.sl x = .ref r 0 len ∧ opd0 st.sl y = .d (.sc (.string s)) ∧ P.underlying xT = some .string ∧ (ezT P t).isSome = true ∧ elT P t = some (1, bytes) ∧ st.look r = some (.buf e false bs) := by
  unfold spOf at h
  split at h
  · repeat' (split at h)
    all_goals cases h
  · rename_i cl hop
    split at h
    · rename_i x y t' xT hc ha ht
      split at h
      · rename_i r' len' hx
        split at h
        · rename_i e' bs' hr
          split at h
          · rename_i s' hy
            split at h
            · rename_i R X hR hX
              split at h
              · rename_i b' z h1 h2 h3
                obtain rfl := hT _ _ hR
                obtain rfl := hT _ _ hX
                simp only [Sp.appB.injEq] at h
                obtain ⟨rfl, rfl, rfl, rfl, rfl, rfl, rfl⟩ := h
                have h3' : isStrK (skOf P xT) = true := h3
                have hxT : P.underlying xT = some .string := by
                  unfold skOf at h3'
                  split at h3' <;> first | assumption | (simp [isStrK] at h3')
                have h2' : ezT P t' = some z := h2
                exact ⟨cl, x, y, xT, hop, hc, by rw [← ha], by rw [← ht], hx, hy, hxT, by rw [h2']; rfl, h1, hr⟩
              · cases h
            · cases h
          · cases h
        · cases h
      · cases h
    · cases h
  · cases h
theorem wStep_ok (hT : TabOk P tab) {ops : Array Oper} {i : Nat} {o : Oper} {st : St} {acc : List Eff} {K : List Eff → St → Prop} {k : Out → List Nat → Prop} (h : wStep P tab o st k) (ho : ops[i]? = some o) (hd : dstOk N o = true) (hg : guardV ops o st.sl = some true)
    (hk : ∀ out T, k out T → RW P N ops (i + 1) (st.put o.dst out) (acc ++ [⟨out.g.map (·.1), out.new.length, T⟩]) K) : RW P N ops i st acc K := by
  unfold wStep at h
  split at h
  · rename_i x c hc
    obtain ⟨h1, h2⟩ := calleeOf_some hc
    split at h
    · rename_i f caps hx
      obtain ⟨h⟩ := h
      obtain ⟨out, T, h1, h2, h3⟩ := h (bare o) st rfl ⟨c, x, caps, _, rfl, h1, h2, hx, sArgs_argR, rfl⟩
      exact RW.cons ho (dstOk_spec hd) (h1.at ho hg) h2 (hk out T h3)
    · exact h.elim
  · split at h
    · rename_i s hsp
      obtain ⟨a, d, x, e, hop, hx, ha, hd', he⟩ := spOf_strB hT hsp
      obtain ⟨n, v, rfl, rfl, h⟩ := h
      exact RW.cons ho (dstOk_spec hd) (OpSem.strB ho hg hop hx ha hd' he) (by simp) (hk _ _ h)
    · rename_i t r len e bytes bs s hsp
      obtain ⟨cl, x, y, xT, hop, hc, ha, ht, hx, hy, hxT, hz, hel, hr⟩ := spOf_appB hT hsp
      obtain ⟨n, v, hu, hl, h48, h62, rfl, rfl, h⟩ := h
      refine RW.cons ho (dstOk_spec hd) (OpSem.appB ho hg hop hc ha ht hx hy hxT hz hel hu hr hl h48 h62) ?_ (hk _ _ h)
      intro p hp
      have : p = (r, Root.dead) := by simpa using hp
      subst this
      have hlt : r < st.rt.length := (List.getElem?_eq_some_iff.1 (show st.rt[r]? = some _ from hr)).1
      show r < _
      omega
    · obtain ⟨out, hev, h⟩ := sv_ok hT h
      split at h
      · rename_i hall
        refine RW.cons ho (dstOk_spec hd) (OpSem.ev ho hg hev) ?_ (hk out _ h)
        intro p hp
        simpa [Nat.blt_eq] using List.all_eq_true.1 hall p hp
      · exact h.elim

theorem wOps_ok (hT : TabOk P tab) {ops : Array Oper} {K : List Eff → St → Prop} : ∀ {l : List Oper} {i : Nat} {st : St} {acc : List Eff}, (∀ (k : Nat) o, l[k]? = some o → ops[i + k]? = some o ∧ dstOk N o = true) → i + l.length = ops.size → wOps P tab (ops.toList.map (·.dst)) l st acc K → RW P N ops i st acc K
  | [], i, st, acc, _, hn, h => RW.done (by simpa using hn) h
  | o :: l, i, st, acc, hl, hn, h => by
    obtain ⟨ho, hd⟩ := hl 0 o rfl
    simp only [Nat.add_zero] at ho
    have hl' : ∀ (k : Nat) o, l[k]? = some o → ops[i + 1 + k]? = some o ∧ dstOk N o = true := by
      intro k' o' h'
      have := hl (k' + 1) o' (by simpa using h')
      rwa [show i + (k' + 1) = i + 1 + k' by omega] at this
    have hn' : i + 1 + l.length = ops.size := by simp at hn; omega
    have skip : ∀ {st : St}, guardV ops o st.sl = some false → wOps P tab (ops.toList.map (·.dst)) l (st.put o.dst ⟨.tup [], [], []⟩) (acc ++ [⟨[], 0, []⟩]) K → RW P N ops i st acc K :=
      fun hg hk => RW.cons ho (dstOk_spec hd) (OpSem.skip ho hg) (by simp) (wOps_ok hT hl' hn' hk)
    have step : ∀ {st : St}, guardV ops o st.sl = some true → wStep P tab o st (fun out T => wOps P tab (ops.toList.map (·.dst)) l (st.put o.dst out) (acc ++ [⟨out.g.map (·.1), out.new.length, T⟩]) K) → RW P N ops i st acc K :=
      fun hg hk => wStep_ok hT hk ho hd hg (fun out T hk => wOps_ok hT hl' hn' hk)
    simp only [wOps, guardD_eq] at h
    split at h
    · rename_i hg
      exact step (guardG_yes hg) h
    · rename_i t b hg
      obtain ⟨h1, h2⟩ := guardG_test hg
      cases b with
      | true =>
        simp only [br] at h
        rw [setS_same h1] at h
        exact step h2 h
      | false =>
        simp only [br] at h
        rw [setS_same h1] at h
        exact skip h2 h
    · rename_i t b hg
      obtain ⟨h1, h2⟩ := guardG_test hg
      cases b with
      | true =>
        simp only [br] at h
        rw [setS_same h1] at h
        exact skip h2 h
      | false =>
        simp only [br] at h
        rw [setS_same h1] at h
        exact step h2 h
    · rename_i hg
      exact skip (guardG_no hg) h
    · exact h.elim

theorem wc_ok (hT : TabOk P tab) (hm : P.follows .mixedOrders = true) : ∀ {code : Code} {Q : Exit → St → Prop} {st : St}, wc P tab N code Q st → AW P N code Q st := by
  intro code
  induction code with
  | skip => intro Q st h; exact AW.skip h
  | ret => intro Q st h; exact AW.ret h
  | exit id => intro Q st h; exact AW.exit h
  | label l => intro Q st h; exact AW.label h
  | seq a b iha ihb =>
    intro Q st h
    refine AW.seq ((iha h).mono ?_)
    intro e st' he
    cases e with
    | normal => exact ihb he
    | _ => exact he
  | cond x t e iht ihe =>
    intro Q st h
    simp only [wc] at h
    split at h
    · rename_i b hx
      refine AW.cond hx ?_ ?_
      · rintro rfl
        have h' := iht h
        rwa [known_same hx] at h'
      · rintro rfl
        have h' := ihe h
        rwa [known_same hx] at h'
    · rename_i p hx
      exact AW.condAny hx (fun hb => iht (h.1 hb)) (ihe h.2)
    · exact h.elim
  | block id b ih => intro Q st h; exact AW.block (ih h)
  | loop b ih => intro Q st h; obtain ⟨⟨h⟩⟩ := h; exact h
  | region id ops draw =>
    intro Q st h
    have key : ops.toList.all (dstOk N) = true ∧ wOps P tab (ops.toList.map (·.dst)) ops.toList st [] (fun effs st' => (draw = true → drawB ops N st.rt.length effs = true) ∧ Q .normal st') := by
      cases draw with
      | false =>
        simp only [wc, wReg, ifB] at h
        split at h
        · rename_i hd
          refine ⟨hd, ?_⟩
          simpa using h
        · exact h.elim
      | true =>
        simp only [wc, wReg, ifB] at h
        split at h
        · rename_i hd
          refine ⟨hd, ?_⟩
          have e : (fun effs st' => (match drawB ops N st.rt.length effs with | true => Q .normal st' | false => False)) = (fun effs st' => ((true = true → drawB ops N st.rt.length effs = true) ∧ Q .normal st')) := by
            funext effs st'
            cases drawB ops N st.rt.length effs <;> simp
          rw [← e]
          exact h
        · exact h.elim
    obtain ⟨hd, h⟩ := key
    refine AW.reg' ?_
    have hK := wOps_ok (N := N) hT (l := ops.toList) (i := 0) (fun k o hk => ⟨by simpa using hk, List.all_eq_true.1 hd o (List.mem_of_getElem? hk)⟩) (by simp) h
    obtain ⟨l, st', hw, hb, hk⟩ := hK
    exact ⟨l, st', hw, fun hdr => ⟨hm, hb hdr⟩, hk⟩
  | _ => intro Q st h; exact h.elim

/-! The beginning and the end of a function. -/
theorem Fn.data {f : FuncId} {fn : Func} {body : Code} {as : List AV} {av : AV} (he : Entered P f) (hT : TabOk P tab) (hm : P.follows .mixedOrders = true) (hf : P.funcs[f]? = some fn) (hb : fn.body = some body) (hN : as.length ≤ fn.ntmps)
    (hwa : AV.rens (keepRen 0) as = some as) (h : ∀ P', P' = P → ∀ Q : Exit → St → Prop, (∀ e st, EndD P fn.results av e st → Q e st) → wc P' tab fn.ntmps body Q ⟨argSlots as, []⟩) : Fn P f as [] ⟨av, [], []⟩ :=
  ⟨he, CallOk.of_bodyD hf hb hN hwa (wc_ok hT hm (h P rfl _ fun _ _ h => h))⟩
theorem Fn.gen {f : FuncId} {fn : Func} {body : Code} {as : List AV} {r0 : List Root} {o : Out} (he : Entered P f) (hT : TabOk P tab) (hm : P.follows .mixedOrders = true) (hf : P.funcs[f]? = some fn) (hb : fn.body = some body) (hN : as.length ≤ fn.ntmps)
    (hwa : AV.rens (keepRen r0.length) as = some as) (hwr : rootsRen (keepRen r0.length) r0 = some r0) (h : ∀ P', P' = P → ∀ Q : Exit → St → Prop, (∀ e st, EndQ P fn.results r0 o e st → Q e st) → wc P' tab fn.ntmps body Q ⟨argSlots as, r0⟩) : Fn P f as r0 o :=
  ⟨he, CallOk.of_body hf hb hN hwa hwr (wc_ok hT hm (h P rfl _ fun _ _ h => h))⟩
end

/-! Calls. -/
section
variable {P P' : Program} {f : FuncId} {ys as : List AV} {rt : List Root} {K : Out → List Nat → Prop}
/-- Data alone. -/
theorem CallW.dd {av : AV} (hP : P' = P) (h : Fn P f ys [] ⟨av, [], []⟩) (k : K ⟨av, [], []⟩ []) (hd : AV.isDs ys = true := by rfl) (hav : av.isDT = true := by rfl) : CallW P' f ys rt K := by
  subst hP
  refine ⟨fun o st hst hc => ?_⟩
  obtain ⟨cl, x, caps, ys0, hgd, hop, hcl, hx, ha, rfl⟩ := hc
  exact ClW.dd hgd hop hcl hx ha hd h.ent h.ok hav k
/-- Data in, rows of one's own out. -/
theorem CallW.ddA {o0 out : Out} (hP : P' = P) (h : Fn P f ys [] o0) (hog : out.g = []) (hren : o0.ren (callRen [] rt.length o0.new.length) = some out) (hfa : out.av.flat = true) (hfn : out.new.all Root.flat = true) (k : K out []) (hd : AV.isDs ys = true := by rfl) : CallW P' f ys rt K := by
  subst hP
  refine ⟨fun o st hst hc => ?_⟩
  subst hst
  obtain ⟨cl, x, caps, ys0, hgd, hop, hcl, hx, ha, rfl⟩ := hc
  exact ClW.ddA hgd hop hcl hx ha hd h.ent h.ok hren hog hfa hfn k
/-- Rows of one's own are lent; what comes back is a value without rows. -/
theorem CallW.lnt {av : AV} (hP : P' = P) (h : Fn P f as [] ⟨av, [], []⟩) (hl : LendL (fun r => rt[r]?) ys as) (k : K ⟨av, [], []⟩ (AV.idss ys)) (hav : av.isDT = true := by rfl) (hfl : av.flat = true := by rfl) : CallW P' f ys rt K := by
  subst hP
  refine ⟨fun o st hst hc => ?_⟩
  subst hst
  obtain ⟨cl, x, caps, ys0, hgd, hop, hcl, hx, ha, rfl⟩ := hc
  exact ClW.lnt hgd hop hcl hx ha hl h.ent h.ok hav hfl k
/-- The same, and what comes back is a new row. -/
theorem CallW.lntR {n sz : Nat} {xs : List (List D)} (hP : P' = P) (h : Fn P f as [] ⟨.ref 0 0 n, [.row sz false xs], []⟩) (hl : LendL (fun r => rt[r]?) ys as) (hfl : ([Root.row sz false xs]).all Root.flat = true) (k : K ⟨.ref rt.length 0 n, [.row sz false xs], []⟩ (AV.idss ys)) : CallW P' f ys rt K := by
  subst hP
  refine ⟨fun o st hst hc => ?_⟩
  subst hst
  obtain ⟨cl, x, caps, ys0, hgd, hop, hcl, hx, ha, rfl⟩ := hc
  exact ClW.lntR hgd hop hcl hx ha hl h.ent h.ok hfl k
end
end Go.Proofs.Ytamdgfklbjoaiaa.Ab

namespace Go.Proofs.Ytamdgfklbjoaiaa.Ab
open Go

/-! A row under another name, in boxes too. -/
def rnR (r n : Nat) (R : Root) : Root := (R.ren (mvF r n)).getD R
theorem rnR_kind {r n : Nat} {R : Root} : (rnR r n R).kind = R.kind := by
  unfold rnR
  cases h : R.ren (mvF r n) with
  | none => rfl
  | some R' => exact ren_kind h
theorem rnR_dead {r n : Nat} {R : Root} : rnR r n R = .dead ↔ R = .dead := by rw [← kind_dead, rnR_kind, kind_dead]

section
variable {N : Nat} {st : St}
theorem Holds.move2 {c : Ctx} {Ei : Env} {a : Act} {w : World} (h : Holds c Ei N st a w) {r : Nat} {R00 : Root} (hcl : ∀ f, R00.ren f = some R00) (hr : st.rt[r]? = some R00) :
    Holds c Ei N ⟨mvS r st.rt.length st.sl, ((st.rt.map (rnR r st.rt.length)).set r .dead) ++ [R00]⟩ a w := by
  obtain ⟨E, rfl, hM, hSt, hrt, hpr, hsl, hdef, hsz, hm⟩ := h
  have hlt : r < st.rt.length := (List.getElem?_eq_some_iff.1 hr).1
  generalize hn : st.rt.length = n at *
  have hER : E.rt r = some R00 := by rw [hrt]; exact hr
  have hEn : ∀ x, E.rt x ≠ none → x < n := by
    intro x hx
    rw [hrt] at hx
    rcases Nat.lt_or_ge x n with h | h
    · exact h
    · exact absurd (List.getElem?_eq_none (by omega)) hx
  let rt' := ((st.rt.map (rnR r n)).set r .dead) ++ [R00]
  have hl' : rt'.length = n + 1 := by simp [rt', hn]
  have get' : ∀ x, rt'[x]? = if x = r then some .dead else if x = n then some R00 else (E.rt x).map (rnR r n) := by
    intro x
    show (((st.rt.map (rnR r n)).set r .dead) ++ [R00])[x]? = _
    by_cases h1 : x = r
    · subst h1
      rw [if_pos rfl, List.getElem?_append_left (by simp; omega), List.getElem?_set_self (by simp; omega)]
    · rw [if_neg h1]
      by_cases h2 : x = n
      · subst h2
        rw [if_pos rfl, List.getElem?_append_right (by simp; omega)]
        simp [hn]
      · rw [if_neg h2]
        by_cases h3 : x < n
        · rw [List.getElem?_append_left (by simp; omega), List.getElem?_set_ne (fun e => h1 e.symm), List.getElem?_map, hrt]; rfl
        · rw [List.getElem?_eq_none (by simp; omega)]
          cases hx : E.rt x with
          | none => rfl
          | some R => exact absurd (hEn x (by rw [hx]; simp)) h3
  let E' : Env := ⟨fun x => rt'[x]?, fun x => x < rt'.length, fun x => if x = n then E.β r else E.β x, E.S, E.w⟩
  have e_rt : ∀ x, E'.rt x = if x = r then some .dead else if x = n then some R00 else (E.rt x).map (rnR r n) := get'
  have e_pr : ∀ x, E'.pres x ↔ x < n + 1 := by intro x; show x < rt'.length ↔ _; rw [hl']
  have e_β : ∀ x, E'.β x = if x = n then E.β r else E.β x := fun _ => rfl
  have hrn : r ≠ n := by omega
  have st1 : Step E E' := by
    refine ⟨?_, ?_, ?_, fun _ h => h, fun _ _ => rfl, fun _ _ h => h⟩
    · intro x R hx
      rw [e_rt]
      by_cases h1 : x = r
      · subst h1; exact ⟨.dead, if_pos rfl, .inl rfl⟩
      · have := hEn x (by rw [hx]; simp)
        exact ⟨rnR r n R, by rw [if_neg h1, if_neg (by omega), hx]; rfl, .inr rnR_kind⟩
    · intro x hx
      rw [e_pr]
      have := (hpr x).1 hx
      omega
    · intro x hx
      have := (hpr x).1 hx
      rw [e_β, if_neg (by omega)]
  have hC : Conn (mvF r n) E E' := by
    have cases : ∀ {x x'}, mvF r n x = some x' → (x = r ∧ x' = n) ∨ (x ≠ r ∧ x < n ∧ x' = x) := by
      intro x x' h
      unfold mvF at h
      split at h
      · rename_i e; exact .inl ⟨e, (Option.some.inj h).symm⟩
      · rename_i e
        split at h
        · rename_i e2; exact .inr ⟨e, e2, (Option.some.inj h).symm⟩
        · cases h
    refine ⟨rfl, fun _ h => h, ?_, ?_, ?_⟩
    · intro x x' h
      rcases cases h with ⟨rfl, rfl⟩ | ⟨h1, h2, rfl⟩
      · rw [e_rt, if_neg (fun e => hrn e.symm), if_pos rfl, hER]
      · rw [e_rt, if_neg h1, if_neg (by omega), Option.map_map]
        congr 1
        funext R
        exact rnR_kind
    · intro x x' h
      rcases cases h with ⟨rfl, rfl⟩ | ⟨h1, h2, rfl⟩
      · rw [e_pr, hpr]; omega
      · rw [e_pr, hpr]; omega
    · intro x x' h _
      rcases cases h with ⟨rfl, rfl⟩ | ⟨h1, h2, rfl⟩
      · rw [e_β, if_pos rfl]
      · rw [e_β, if_neg (by omega)]
  have src : ∀ {x R}, E'.rt x = some R → R ≠ .dead → ∃ y R0, E.rt y = some R0 ∧ R0 ≠ .dead ∧ E.pres y ∧ E'.β x = E.β y ∧ ((x = n ∧ y = r ∧ R = R0) ∨ (x ≠ r ∧ x < n ∧ y = x ∧ R = rnR r n R0)) := by
    intro x R hx hd
    rw [e_rt] at hx
    by_cases h1 : x = r
    · rw [if_pos h1] at hx; exact absurd (Option.some.inj hx).symm hd
    · rw [if_neg h1] at hx
      by_cases h2 : x = n
      · rw [if_pos h2] at hx
        exact ⟨r, R, hER.trans hx, hd, (hpr r).2 hlt, by rw [e_β, if_pos h2], .inl ⟨h2, rfl, rfl⟩⟩
      · rw [if_neg h2] at hx
        obtain ⟨R0, hR0, rfl⟩ := Option.map_eq_some_iff.1 hx
        have h3 := hEn x (by rw [hR0]; simp)
        exact ⟨x, R0, hR0, fun e => hd (rnR_dead.2 e), (hpr x).2 h3, by rw [e_β, if_neg h2], .inr ⟨h1, h3, rfl, rfl⟩⟩
  have hM' : Mem c E' := {
    os := hM.os
    output := hM.output
    tape := hM.tape
    size := hM.size
    keep := hM.keep
    shape := hM.shape
    s0 := hM.s0
    slt := hM.slt
    snew := hM.snew
    blt := by
      intro x b hp hb
      rw [e_pr] at hp
      rw [e_β] at hb
      by_cases h2 : x = n
      · rw [if_pos h2] at hb; exact hM.blt r b ((hpr r).2 hlt) hb
      · rw [if_neg h2] at hb; exact hM.blt x b ((hpr x).2 (by omega)) hb
    bown := by
      intro x R b hp hR hd hb
      obtain ⟨y, R0, h1, hd0, h2, h3, _⟩ := src hR hd
      rw [h3] at hb
      exact hM.bown y R0 b h2 h1 hd0 hb
    bkeep := by
      intro x R hx hp hR hd
      obtain ⟨y, R0, h1, hd0, h2, h3, h4⟩ := src hR hd
      rcases h4 with ⟨h4, _⟩ | ⟨_, _, rfl, _⟩
      · omega
      · rw [h3]; exact hM.bkeep y R0 hx h2 h1 hd0
    inj := by
      intro x x' R R' b hp hp' hR hd hR' hd' hb hb'
      obtain ⟨y, R0, h1, hd0, h2, h3, h4⟩ := src hR hd
      obtain ⟨y', R0', h1', hd0', h2', h3', h4'⟩ := src hR' hd'
      rw [h3] at hb
      rw [h3'] at hb'
      have := hM.inj y y' R0 R0' b h2 h2' h1 hd0 h1' hd0' hb hb'
      rcases h4 with ⟨e1, e2, _⟩ | ⟨e1, e2, e3, _⟩ <;> rcases h4' with ⟨e1', e2', _⟩ | ⟨e1', e2', e3', _⟩
      · omega
      · omega
      · omega
      · omega
    roots := by
      intro x R hp hR
      by_cases hd : R = .dead
      · subst hd; trivial
      obtain ⟨y, R0, h1, hd0, h2, h3, h4⟩ := src hR hd
      rcases h4 with ⟨e1, e2, e3⟩ | ⟨e1, e2, e3, e4⟩
      · subst e2 e3
        rw [hER] at h1
        obtain rfl := Option.some.inj h1
        exact RootRel.conn hC (fun _ h => h) (show mvF y n y = some x by rw [e1]; exact if_pos rfl) h2 (hcl _) (hM.roots y _ h2 hER)
      · subst e3 e4
        have hx := hM.roots y R0 h2 h1
        unfold rnR
        cases hren : R0.ren (mvF r n) with
        | none => exact RootRel.step st1 h2 (fun _ _ => rfl) (fun _ _ h => h) hx
        | some R1 => exact RootRel.conn hC (fun _ h => h) (show mvF r n y = some y by unfold mvF; rw [if_neg e1, if_pos e2]) h2 hren hx }
  refine ⟨E', rfl, hM', hSt.trans st1, rfl, fun _ => Iff.rfl, ?_, hdef, hsz, ?_⟩
  · intro t
    show RelAV E' (((st.sl t).ren (mvF r n)).getD .junk) _
    cases hx : (st.sl t).ren (mvF r n) with
    | none => exact .junk _
    | some y => exact RelAV.conn hC (hsl t) hx
  · show c.m ≤ rt'.length
    omega
end
end Go.Proofs.Ytamdgfklbjoaiaa.Ab

namespace Go.Proofs.Ytamdgfklbjoaiaa.Ab
open Go

/-! Loops: rows that grow are put behind all others; what changes is said, what stays is kept. -/
def mvB : Root → Bool
  | .row _ _ _ => true
  | .buf _ _ _ => true
  | .box _ _ => false
  | .dead => false
def mv1 (r : Nat) (st : St) : St := match st.rt[r]? with
  | some R => (match mvB R with
    | true => ⟨mvS r st.rt.length st.sl, ((st.rt.map (rnR r st.rt.length)).set r .dead) ++ [R]⟩
    | false => st)
  | none => st
def mvAll : List Nat → St → St
  | [], st => st
  | r :: l, st => mvAll l (mv1 r st)

def keepL (sl : Nat → AV) : List Nat → List (Nat × AV)
  | [] => []
  | t :: l => (t, sl t) :: keepL sl l

inductive NextW {κ : Type} (n0 : Nat) (keepl : List (Nat × AV)) (base : List Root) (mods : κ → List (Nat × AV)) (rts : κ → List (Nat × Root)) (J : κ → Prop) (st' : St) : Prop
  | mk (k' : κ) (hi : J k') (hr : RoundEnd n0 (mods k' ++ keepl) (updL (rts k') base) st') : NextW n0 keepl base mods rts J st'

section
variable {P : Program} {N : Nat} {tab : List (Nat × TyRow)} {Q : Exit → St → Prop} {st : St}

theorem holds_mv1 {c : Ctx} {Ei : Env} {a : Act} {w : World} (r : Nat) (h : Holds c Ei N st a w) : Holds c Ei N (mv1 r st) a w := by
  unfold mv1
  split
  · rename_i R hr
    split
    · rename_i hb
      refine h.move2 (fun _ => ?_) hr
      cases R with
      | row => rfl
      | buf => rfl
      | box => cases hb
      | dead => cases hb
    · exact h
  · exact h
theorem holds_mvAll {c : Ctx} {Ei : Env} {a : Act} {w : World} : ∀ (l : List Nat) {st : St}, Holds c Ei N st a w → Holds c Ei N (mvAll l st) a w
  | [], _, h => h
  | r :: l, _, h => holds_mvAll l (holds_mv1 r h)

def WeakC (sl : Nat → AV) : List (Nat × AV) → Prop
  | [] => True
  | (t, x) :: l => sl t = x ∧ WeakC sl l
theorem WeakC.weakL {sl : Nat → AV} : ∀ {l : List (Nat × AV)}, WeakC sl l → WeakL l sl
  | [], _ => WeakL.nil _
  | (t, x) :: l, h => .cons h.1 (WeakC.weakL h.2)
theorem keepL_weak (sl : Nat → AV) : ∀ (l : List Nat), WeakL (keepL sl l) sl
  | [] => WeakL.nil _
  | t :: l => .cons rfl (keepL_weak sl l)
theorem WeakL.app {sl : Nat → AV} {a b : List (Nat × AV)} (h : WeakL a sl) (k : WeakL b sl) : WeakL (a ++ b) sl := by
  intro p hp
  rcases List.mem_append.1 hp with hp | hp
  · exact h p hp
  · exact k p hp

theorem LoopW.lp {κ : Type} {body : Code} (su : TabOk P tab ∧ P.follows .mixedOrders = true) {P' : Program} (hP : P' = P) (mvs keep : List Nat) (mods : κ → List (Nat × AV)) (rts : κ → List (Nat × Root)) (inv : κ → Prop) (μ : κ → Nat) (k0 : κ) (h0 : inv k0)
    (hw : WeakC (mvAll mvs st).sl (mods k0)) (hrt : (mvAll mvs st).rt = updL (rts k0) (mvAll mvs st).rt)
    (round : ∀ k (J : κ → Prop), inv k → (∀ k', inv k' → μ k' < μ k → J k') → wc P' tab N body (Exit.thenQ (fun st' => NextW st.rt.length (keepL (mvAll mvs st).sl keep) (mvAll mvs st).rt mods rts J st') Q) ⟨look (mods k ++ keepL (mvAll mvs st).sl keep), updL (rts k) (mvAll mvs st).rt⟩) : LoopW P' N body Q st := by
  subst hP
  refine ⟨LpW.ofR (st := mvAll mvs st) inv μ (fun k => mods k ++ keepL (mvAll mvs st).sl keep) (fun k => updL (rts k) (mvAll mvs st).rt) k0 st.rt.length h0 (hw.weakL.app (keepL_weak _ _)) hrt (Nat.le_refl _) rfl (fun c Ei a w h => holds_mvAll mvs h) ?_⟩
  intro k hk
  refine (wc_ok su.1 su.2 (round k (fun k' => inv k' ∧ μ k' < μ k) hk (fun k' h1 h2 => ⟨h1, h2⟩))).mono ?_
  intro e st' he
  cases e with
  | normal =>
    obtain ⟨k', ⟨h1, h2⟩, h3⟩ := he
    exact ⟨k', h1, h2, h3⟩
  | _ => exact he

def nodupB : List Nat → Bool
  | [] => true
  | x :: l => !(l.contains x) && nodupB l
theorem nodupB_ok : ∀ {l : List Nat}, nodupB l = true → l.Nodup
  | [], _ => .nil
  | x :: l, h => by
    simp only [nodupB, Bool.and_eq_true, Bool.not_eq_true', List.contains_iff_mem] at h
    refine List.nodup_cons.2 ⟨?_, nodupB_ok h.2⟩
    intro hm
    have := List.contains_iff_mem.2 hm
    rw [h.1] at this
    cases this

theorem NextW.go {κ : Type} {n0 : Nat} {keepl : List (Nat × AV)} {base : List Root} {mods : κ → List (Nat × AV)} {rts : κ → List (Nat × Root)} {J : κ → Prop} {st' : St} (ids : List Nat) (k' : κ) (hi : J k')
    (c6 : (mods k' ++ keepl).map (fun p => (st'.sl p.1).ren (finRen n0 ids)) = (mods k' ++ keepl).map (fun p => some p.2) := by rfl)
    (c4 : rootsRen (finRen n0 ids) (st'.rt.take n0) = some ((updL (rts k') base).take n0) := by rfl) (c5 : ids.map (fun i => (st'.rt[i]?).bind (Root.ren (finRen n0 ids))) = ((updL (rts k') base).drop n0).map some := by rfl)
    (c1 : ids.all (fun i => Nat.ble n0 i) = true := by rfl) (c2 : nodupB ids = true := by rfl) (c3 : Nat.beq (updL (rts k') base).length (n0 + ids.length) = true := by rfl) (c7 : Nat.ble n0 st'.rt.length = true := by rfl) :
    NextW n0 keepl base mods rts J st' := by
  have hlen := Nat.eq_of_beq_eq_true c3
  refine ⟨k', hi, ?_⟩
  refine ⟨ids, fun i h => Nat.le_of_ble_eq_true (List.all_eq_true.1 c1 i h), nodupB_ok c2, hlen, ?_, ?_, ?_⟩
  · intro r R' hr hR
    obtain ⟨hl, hget⟩ := rootsRen_get c4
    have hr' : r < (st'.rt.take n0).length := by
      have := Nat.le_of_ble_eq_true c7
      rw [List.length_take]
      omega
    obtain ⟨R'', k1, k2⟩ := hget r _ (List.getElem?_eq_getElem hr')
    rw [List.getElem?_take, if_pos hr, hR] at k1
    obtain rfl := Option.some.inj k1
    refine ⟨_, ?_, k2⟩
    rw [List.getElem_take]
    exact List.getElem?_eq_getElem _
  · intro j i R' hj hR
    have := congrArg (·[j]?) c5
    simp only [List.getElem?_map, hj, List.getElem?_drop, hR, Option.map_some, Option.some.injEq] at this
    obtain ⟨R, k1, k2⟩ := Option.bind_eq_some_iff.1 this
    exact ⟨R, k1, k2⟩
  · intro p hp
    obtain ⟨i, hi⟩ := List.getElem?_of_mem hp
    have := congrArg (·[i]?) c6
    simpa only [List.getElem?_map, hi, Option.map_some, Option.some.injEq] using this
end

/-! What is handed out. -/
inductive RdL (rt : Nat → Option Root) : List AV → List AV → Prop
  | nil : RdL rt [] []
  | d {x y : AV} {ys zs : List AV} (h : x.isD = true) (e : x = y) (t : RdL rt ys zs) : RdL rt (x :: ys) (y :: zs)
  | ref {r n sz : Nat} {fz : Bool} {xs us : List (List D)} {ys zs : List AV} (h : rt r = some (.row sz fz xs)) (hn : n = xs.length) (e : xs = us) (t : RdL rt ys zs) : RdL rt (.ref r 0 n :: ys) (.d (.row sz us) :: zs)
  | agg {l l' ys zs : List AV} (h : RdL rt l l') (t : RdL rt ys zs) : RdL rt (.agg l :: ys) (.agg l' :: zs)
theorem RdL.get {rt : Nat → Option Root} {ys zs : List AV} (h : RdL rt ys zs) : ∃ L, AV.lendAs rt ys = some (zs, L) := by
  induction h with
  | nil => exact ⟨[], rfl⟩
  | d h e _ ih =>
    subst e
    obtain ⟨L, hL⟩ := ih
    exact ⟨L, by simp [AV.lendAs, (isD_lend rt h).1, hL]⟩
  | @ref r n sz fz xs us ys zs h hn e _ ih =>
    obtain ⟨L, hL⟩ := ih
    subst hn e
    exact ⟨(if fz then [] else [r]) ++ L, by simp [AV.lendAs, AV.lendA, h, hL]⟩
  | agg _ _ ih1 ih2 =>
    obtain ⟨L1, h1⟩ := ih1
    obtain ⟨L2, h2⟩ := ih2
    exact ⟨L1 ++ L2, by simp [AV.lendAs, AV.lendA, h1, h2]⟩

/-- One result. -/
theorem EndD.one {P : Program} {st : St} {e : Exit} {r : ResultVar} {x y : AV} (he : e = .ret ∨ e = .normal) (h : resOne P st r = some x) (hy : RdL st.look [x] [y]) (hx : ∀ l, x ≠ .tup l := by intro l h; cases h) : EndD P #[r] y e st := by
  obtain ⟨L, hL⟩ := hy.get
  have key : x.rdo st.look = some (y, L) := by
    have hl : ∃ L', x.lendA st.look = some (y, L') := by
      simp only [AV.lendAs] at hL
      cases hx' : x.lendA st.look with
      | none => simp [hx'] at hL
      | some q =>
        simp only [hx', Option.bind_some, Option.map_some, Option.some.injEq, Prod.mk.injEq, List.cons.injEq, and_true] at hL
        exact ⟨q.2, by rw [← hL.1]⟩
    obtain ⟨L', hl⟩ := hl
    have e2 : x.rdo st.look = x.lendA st.look := by
      cases x with
      | tup l => exact absurd rfl (hx l)
      | _ => rfl
    rw [e2, hl]
    simp only [AV.lendAs, hl, Option.bind_some, Option.map_some, Option.some.injEq, Prod.mk.injEq, List.append_nil, true_and] at hL
    rw [hL]
  rcases he with rfl | rfl <;> exact ⟨[x], L, by simp [resAll, h], key⟩
/-- Several results. -/
theorem EndD.many {P : Program} {st : St} {e : Exit} {rs : Array ResultVar} {l ys : List AV} (he : e = .ret ∨ e = .normal) (h : resAll P st rs.toList = some l) (hl : resAV l = .tup l) (hy : RdL st.look l ys) : EndD P rs (.tup ys) e st := by
  obtain ⟨L, hL⟩ := hy.get
  have key : (AV.tup l).rdo st.look = some (.tup ys, L) := by simp [AV.rdo, hL]
  rcases he with rfl | rfl <;> exact ⟨l, L, h, by rw [hl]; exact key⟩
end Go.Proofs.Ytamdgfklbjoaiaa.Ab

namespace Go.Proofs.Ytamdgfklbjoaiaa.Ab
open Go
set_option linter.unusedVariables false

/-! What is known of a value that an operation waits for. -/
abbrev Setup (P : Program) (tab : List (Nat × TyRow)) : Prop := TabOk P tab ∧ P.follows .mixedOrders = true

section
variable {P : Program} {tab : List (Nat × TyRow)}
theorem entered_of {f : FuncId} {fn : Func} (hf : P.funcs[f]? = some fn) (h1 : (fn.name == "runtime.NumGoroutine") = false) (h2 : fn.body.isNone = false) : Entered P f := ⟨fn, hf, h1, h2⟩
theorem body_of {fn : Func} (h : fn.body.isNone = false) : fn.body = some (fn.body.getD .skip) := by
  cases hb : fn.body with
  | none => rw [hb] at h; cases h
  | some b => rfl
theorem Fn.go {f : FuncId} {fn : Func} {as : List AV} {av : AV} (su : Setup P tab) (hf : P.funcs[f]? = some fn) (h : ∀ P', P' = P → ∀ Q : Exit → St → Prop, (∀ e st, EndD P fn.results av e st → Q e st) → wc P' tab fn.ntmps (fn.body.getD .skip) Q ⟨argSlots as, []⟩)
    (h1 : (fn.name == "runtime.NumGoroutine") = false := by rfl) (h2 : fn.body.isNone = false := by rfl) (hN : Nat.ble as.length fn.ntmps = true := by rfl) (hwa : AV.rens (keepRen 0) as = some as := by rfl) : Fn P f as [] ⟨av, [], []⟩ :=
  Fn.data (entered_of hf h1 h2) su.1 su.2 hf (body_of h2) (Nat.le_of_ble_eq_true hN) hwa h
theorem Fn.goR {f : FuncId} {fn : Func} {as : List AV} {r0 : List Root} {o : Out} (su : Setup P tab) (hf : P.funcs[f]? = some fn) (h : ∀ P', P' = P → ∀ Q : Exit → St → Prop, (∀ e st, EndQ P fn.results r0 o e st → Q e st) → wc P' tab fn.ntmps (fn.body.getD .skip) Q ⟨argSlots as, r0⟩)
    (h1 : (fn.name == "runtime.NumGoroutine") = false := by rfl) (h2 : fn.body.isNone = false := by rfl) (hN : Nat.ble as.length fn.ntmps = true := by rfl) (hwa : AV.rens (keepRen r0.length) as = some as := by rfl) (hwr : rootsRen (keepRen r0.length) r0 = some r0 := by rfl) : Fn P f as r0 o :=
  Fn.gen (entered_of hf h1 h2) su.1 su.2 hf (body_of h2) (Nat.le_of_ble_eq_true hN) hwa hwr h
end

abbrev I (n : Int) : AV := .d (.sc (.int .i64 n))
abbrev S (s : ByteArray) : AV := .d (.sc (.string s))
abbrev B (b : Bool) : AV := .d (.sc (.bool b))

/-! Ends. -/
section
variable {P : Program} {st : St} {t : Nat}
theorem EndD.i {k : IntKind} {v r : Int} (h : st.sl t = .d (.sc (.int k v))) (e : v = r) : EndD P #[.tmp t] (.d (.sc (.int k r))) .ret st := by subst e; exact endD_val h rfl
theorem EndD.s {v r : ByteArray} (h : st.sl t = .d (.sc (.string v))) (e : v = r) : EndD P #[.tmp t] (.d (.sc (.string r))) .ret st := by subst e; exact endD_val h rfl
theorem EndD.b {v r : Bool} (h : st.sl t = .d (.sc (.bool v))) (e : v = r) : EndD P #[.tmp t] (.d (.sc (.bool r))) .ret st := by subst e; exact endD_val h rfl
theorem EndD.d {x y : D} (h : st.sl t = .d x) (e : x = y) : EndD P #[.tmp t] (.d y) .ret st := endD_val h e
theorem EndD.r {r n sz : Nat} {fz : Bool} {xs ys : List (List D)} (h : st.sl t = .ref r 0 n) (hr : st.look r = some (.row sz fz xs)) (hn : n = xs.length) (e : xs = ys) : EndD P #[.tmp t] (.d (.row sz ys)) .ret st := by subst e; exact endD_ref h hr hn
end

theorem rowEq {α : Type} {c : α → List D} {l : List α} {sz : Nat} {x y : List (List D)} (h1 : l.map c = x) (h2 : l.map c = y) : AV.d (.row sz x) = AV.d (.row sz y) := by rw [← h1, h2]

/-! Whole numbers. -/
section
variable {K : Int → Prop} {k k' : IntKind} {a b : Int}
theorem ArW.add (h : ∀ v, v = a + b → K v) (hr : -9223372036854775808 ≤ a + b ∧ a + b < 9223372036854775808 := by omega) : ArW .add .i64 .i64 a b K := ⟨a + b, by show some (Value.int .i64 (IntKind.i64.wrap (a + b))) = _; rw [wrap_in hr], h _ rfl⟩
theorem ArW.sub (h : ∀ v, v = a - b → K v) (hr : -9223372036854775808 ≤ a - b ∧ a - b < 9223372036854775808 := by omega) : ArW .sub .i64 .i64 a b K := ⟨a - b, by show some (Value.int .i64 (IntKind.i64.wrap (a - b))) = _; rw [wrap_in hr], h _ rfl⟩
theorem ArW.mul (h : ∀ v, v = a * b → K v) (hr : -9223372036854775808 ≤ a * b ∧ a * b < 9223372036854775808 := by omega) : ArW .mul .i64 .i64 a b K := ⟨a * b, by show some (Value.int .i64 (IntKind.i64.wrap (a * b))) = _; rw [wrap_in hr], h _ rfl⟩
theorem ArW.addW (h : ∀ v, v = k.wrap (a + b) → K v) : ArW .add k k a b K := ⟨_, by show (if k = k then _ else none) = _; rw [if_pos rfl]; rfl, h _ rfl⟩
theorem ArW.subW (h : ∀ v, v = k.wrap (a - b) → K v) : ArW .sub k k a b K := ⟨_, by show (if k = k then _ else none) = _; rw [if_pos rfl]; rfl, h _ rfl⟩
theorem ArW.mulW (h : ∀ v, v = k.wrap (a * b) → K v) : ArW .mul k k a b K := ⟨_, by show (if k = k then _ else none) = _; rw [if_pos rfl]; rfl, h _ rfl⟩
theorem ArW.quo (h : ∀ v, v = a / b → K v) (h0 : 0 ≤ a := by omega) (h1 : 0 < b := by omega) (h2 : a < 9223372036854775808 := by omega) : ArW .quo .i64 .i64 a b K := by
  refine ⟨a / b, ?_, h _ rfl⟩
  show (if b = 0 then none else some (Value.int .i64 (IntKind.i64.wrap (a.tdiv b)))) = _
  rw [if_neg (by omega), Int.tdiv_eq_ediv_of_nonneg h0, wrap_in]
  have h3 : 0 ≤ a / b := Int.ediv_nonneg h0 (by omega)
  have h4 : a / b ≤ a := Int.ediv_le_self b h0
  omega
theorem ArW.rem (h : ∀ v, v = a % b → K v) (h0 : 0 ≤ a := by omega) (h1 : 0 < b := by omega) : ArW .rem k k a b K := by
  refine ⟨a % b, ?_, h _ rfl⟩
  show (if k = k then (if b = 0 then none else some (Value.int k (a.tmod b))) else none) = _
  rw [if_pos rfl, if_neg (by omega), Int.tmod_eq_emod_of_nonneg h0]
/-- Numbers bit by bit. -/
def bitI (op : BinOp) (k : IntKind) (a b : Int) : Int := std.bin op k a b
theorem ArW.and (h : ∀ v, v = bitI .and k a b → K v) : ArW .and k k a b K := ⟨_, by show (if k = k then _ else none) = _; rw [if_pos rfl]; rfl, h _ rfl⟩
theorem ArW.or (h : ∀ v, v = bitI .or k a b → K v) : ArW .or k k a b K := ⟨_, by show (if k = k then _ else none) = _; rw [if_pos rfl]; rfl, h _ rfl⟩
theorem ArW.xor (h : ∀ v, v = bitI .xor k a b → K v) : ArW .xor k k a b K := ⟨_, by show (if k = k then _ else none) = _; rw [if_pos rfl]; rfl, h _ rfl⟩
theorem ArW.shr (h : ∀ v, v = a / 2 ^ b.toNat → K v) (h0 : 0 ≤ b := by omega) (h1 : b ≤ 64 := by omega) : ArW .shr .i64 k' a b K := by
  refine ⟨a / 2 ^ b.toNat, ?_, h _ rfl⟩
  show (if b < 0 then none else some (Value.int .i64 (a.fdiv (2 ^ (min b.toNat 64))))) = _
  rw [if_neg (by omega), Nat.min_eq_left (by omega), Int.fdiv_eq_ediv_of_nonneg a (Int.le_of_lt (Int.pow_pos (by omega)))]
theorem ArW.shrW (h : ∀ v, v = a.fdiv (2 ^ min b.toNat k.bits) → K v) (h0 : 0 ≤ b := by omega) : ArW .shr k k' a b K := by
  refine ⟨_, ?_, h _ rfl⟩
  show (if b < 0 then none else some (Value.int k (a.fdiv (2 ^ (min b.toNat k.bits))))) = _
  rw [if_neg (by omega)]
theorem ArW.shlW (h : ∀ v, v = k.wrap (a * 2 ^ min b.toNat k.bits) → K v) (h0 : 0 ≤ b := by omega) : ArW .shl k k' a b K := by
  refine ⟨_, ?_, h _ rfl⟩
  show (if b < 0 then none else some (Value.int k (k.wrap (a * 2 ^ (min b.toNat k.bits))))) = _
  rw [if_neg (by omega)]
theorem NegW.go (h : ∀ v, v = -a → K v) (hr : -9223372036854775808 < a ∧ a ≤ 9223372036854775808 := by omega) : NegW .i64 a K := ⟨-a, by rw [wrap_in (by omega)]; omega, h _ rfl⟩
theorem WrapW.go (h : ∀ v, v = k.wrap a → K v) : WrapW k a K := ⟨_, rfl, h _ rfl⟩
theorem WrapW.id (h : ∀ v, v = a → K v) (hr : -9223372036854775808 ≤ a ∧ a < 9223372036854775808 := by omega) : WrapW .i64 a K := ⟨a, (wrap_in hr).symm, h _ rfl⟩
theorem MaxW.go (h : ∀ v, v = max a b → K v) : MaxW a b K := ⟨_, rfl, h _ (by omega)⟩
theorem MinW.go (h : ∀ v, v = min a b → K v) : MinW a b K := ⟨_, rfl, h _ (by omega)⟩
end

/-! Comparisons. -/
section
variable {K : Bool → Prop} {k : IntKind} {a b : Int}
theorem CmpW.of {op : BinOp} (v : Bool) (h : binInt op k a b = some (.bool v)) (hs : op ≠ .shl ∧ op ≠ .shr) (hk : K v) : CmpW op k k a b K := by
  refine ⟨v, ?_, hk⟩
  have : binSc op false (.int k a) (.int k b) = (if k = k then binInt op k a b else none) := by
    cases op <;> first | rfl | simp at hs
  rw [this, if_pos rfl, h]
theorem CmpW.lss (t : a < b → K true) (f : b ≤ a → K false) : CmpW .lss k k a b K := by
  refine .of (decide (a < b)) rfl (by simp) ?_
  by_cases h : a < b
  · rw [decide_eq_true h]; exact t h
  · rw [decide_eq_false h]; exact f (by omega)
theorem CmpW.leq (t : a ≤ b → K true) (f : b < a → K false) : CmpW .leq k k a b K := by
  refine .of (decide (a ≤ b)) rfl (by simp) ?_
  by_cases h : a ≤ b
  · rw [decide_eq_true h]; exact t h
  · rw [decide_eq_false h]; exact f (by omega)
theorem CmpW.gtr (t : b < a → K true) (f : a ≤ b → K false) : CmpW .gtr k k a b K := by
  refine .of (decide (b < a)) rfl (by simp) ?_
  by_cases h : b < a
  · rw [decide_eq_true h]; exact t h
  · rw [decide_eq_false h]; exact f (by omega)
theorem CmpW.geq (t : b ≤ a → K true) (f : a < b → K false) : CmpW .geq k k a b K := by
  refine .of (decide (b ≤ a)) rfl (by simp) ?_
  by_cases h : b ≤ a
  · rw [decide_eq_true h]; exact t h
  · rw [decide_eq_false h]; exact f (by omega)
theorem CmpW.eql (t : a = b → K true) (f : a ≠ b → K false) : CmpW .eql k k a b K := by
  refine .of (a == b) rfl (by simp) ?_
  by_cases h : a = b
  · rw [show (a == b) = true by simpa using h]; exact t h
  · rw [show (a == b) = false by simpa using h]; exact f h
theorem CmpW.neq (t : a ≠ b → K true) (f : a = b → K false) : CmpW .neq k k a b K := by
  refine .of (a != b) rfl (by simp) ?_
  by_cases h : a = b
  · rw [show (a != b) = false by simpa using h]; exact f h
  · rw [show (a != b) = true by simpa using h]; exact t h
end
section
variable {K : Bool → Prop} {a b : ByteArray}
theorem SCmpW.eql (t : a = b → K true) (f : a ≠ b → K false) : SCmpW .eql a b K := by
  refine ⟨a.toList == b.toList, rfl, ?_⟩
  by_cases h : a = b
  · rw [show (a.toList == b.toList) = true by simpa using congrArg _ h]; exact t h
  · rw [show (a.toList == b.toList) = false by simpa using fun e => h (bytes_inj e)]; exact f h
theorem SCmpW.neq (t : a ≠ b → K true) (f : a = b → K false) : SCmpW .neq a b K := by
  refine ⟨!(a.toList == b.toList), rfl, ?_⟩
  by_cases h : a = b
  · rw [show (a.toList == b.toList) = true by simpa using congrArg _ h]; exact f h
  · rw [show (a.toList == b.toList) = false by simpa using fun e => h (bytes_inj e)]; exact t h
/-- Texts, byte by byte. -/
def ltB (a b : ByteArray) : Bool := Op.bytesLess a.toList b.toList
theorem SCmpW.lss (h : ∀ v, v = ltB a b → K v) : SCmpW .lss a b K := ⟨_, rfl, h _ rfl⟩
theorem SCmpW.leq (h : ∀ v, v = (ltB a b || decide (a = b)) → K v) : SCmpW .leq a b K := ⟨_, rfl, h _ (by rw [show (a.toList == b.toList) = decide (a = b) from std_seql]; rfl)⟩
theorem SCmpW.gtr (h : ∀ v, v = !(ltB a b || decide (a = b)) → K v) : SCmpW .gtr a b K := ⟨_, rfl, h _ (by rw [show (a.toList == b.toList) = decide (a = b) from std_seql]; rfl)⟩
theorem SCmpW.geq (h : ∀ v, v = !(ltB a b) → K v) : SCmpW .geq a b K := ⟨_, rfl, h _ rfl⟩
theorem BCmpW.eql {a b : Bool} (t : a = b → K true) (f : a ≠ b → K false) : BCmpW .eql a b K := by
  refine ⟨a == b, rfl, ?_⟩
  by_cases h : a = b
  · rw [show (a == b) = true by simpa using h]; exact t h
  · rw [show (a == b) = false by simpa using h]; exact f h
theorem BCmpW.neq {a b : Bool} (t : a ≠ b → K true) (f : a = b → K false) : BCmpW .neq a b K := by
  refine ⟨!(a == b), rfl, ?_⟩
  by_cases h : a = b
  · rw [show (a == b) = true by simpa using h]; exact f h
  · rw [show (a == b) = false by simpa using h]; exact t h
theorem EmpW.go {xs : List (List D)} (h : ∀ v, v = xs.isEmpty → K v) : EmpW xs K := ⟨_, rfl, h _ rfl⟩
theorem Emp0W.go {n : Nat} (h : ∀ v, v = (n == 0) → K v) : Emp0W n K := ⟨_, rfl, h _ rfl⟩
end

/-! Texts. -/
section
variable {s a b : ByteArray}
theorem CatW.go {K : ByteArray → Prop} (h : ∀ v, v = a ++ b → v.size = a.size + b.size → K v) (hs : a.size + b.size < 9223372036854775808 := by omega) : CatW a b K := by
  refine ⟨a ++ b, ?_, h _ rfl ByteArray.size_append⟩
  show (if _ then none else _) = _
  rw [if_neg (by show ¬ (((a.size + b.size : Nat) : Int) > 9223372036854775807); omega)]
theorem CatW.litL {K : ByteArray → Prop} (n : Nat) (h : ∀ v, v = a ++ b → v.size = n + b.size → K v) (hn : a.size = n := by rfl) (hs : n + b.size < 9223372036854775808 := by omega) : CatW a b K := by
  subst hn
  exact CatW.go h hs
theorem CatW.litR {K : ByteArray → Prop} (n : Nat) (h : ∀ v, v = a ++ b → v.size = a.size + n → K v) (hn : b.size = n := by rfl) (hs : a.size + n < 9223372036854775808 := by omega) : CatW a b K := by
  subst hn
  exact CatW.go h hs
theorem SLenW.go {K : Int → Prop} (h : ∀ v, v = (s.size : Int) → K v) : SLenW s K := ⟨_, rfl, h _ rfl⟩
theorem SIdxW.go {K : Int → Prop} {i : Int} (j : Nat) (h : ∀ (hj : j < s.size) v, v = ((s[j]).toNat : Int) → 0 ≤ v ∧ v < 256 → K v) (hi : i = (j : Int) := by omega) (hj : j < s.size := by omega) : SIdxW s i K := by
  subst hi
  exact ⟨((s[j].toNat : Nat) : Int), by omega, hj, rfl, h hj _ rfl ⟨Int.natCast_nonneg _, Int.ofNat_lt.2 (s[j]).toNat_lt⟩⟩
theorem SSubW.lohi {K : ByteArray → Prop} {lo hi : Int} (h : ∀ v, v = s.extract lo.toNat hi.toNat → K v) (h0 : 0 ≤ lo := by omega) (h1 : lo ≤ hi := by omega) (h2 : hi ≤ (s.size : Int) := by omega) : SSubW s (some lo) (some hi) K := ⟨_, h0, h1, h2, rfl, h _ rfl⟩
theorem SSubW.lo {K : ByteArray → Prop} {lo : Int} (h : ∀ v, v = s.extract lo.toNat s.size → K v) (h0 : 0 ≤ lo := by omega) (h1 : lo ≤ (s.size : Int) := by omega) : SSubW s (some lo) none K := ⟨_, h0, h1, Int.le_refl _, rfl, h _ (by simp)⟩
theorem SSubW.hi {K : ByteArray → Prop} {hi : Int} (h : ∀ v, v = s.extract 0 hi.toNat → K v) (h1 : 0 ≤ hi := by omega) (h2 : hi ≤ (s.size : Int) := by omega) : SSubW s none (some hi) K := ⟨_, Int.le_refl _, h1, h2, rfl, h _ rfl⟩
end

/-! Rows. -/
section
variable {α : Type} {c : α → List D} {l : List α} {xs : List (List D)}
theorem LenW.go {K : Int → Prop} (hx : l.map c = xs) (h : ∀ v, v = (l.length : Int) → K v) : LenW xs K := ⟨_, rfl, h _ (by rw [← hx, List.length_map])⟩
theorem NLenW.go {K : Int → Prop} {n : Nat} (h : ∀ v, v = (n : Int) → K v) : NLenW n K := ⟨_, rfl, h _ rfl⟩
theorem IdxW.go {K : List D → Prop} {i : Int} (j : Nat) (hx : l.map c = xs) (h : ∀ (hj : j < l.length) x, x = l[j] → K (c x)) (hi : i = (j : Int) := by omega) (hj : j < l.length := by omega) : IdxW xs i K := by
  subst hi hx
  exact ⟨_, by omega, by simp [hj], h hj _ rfl⟩
theorem RowW.go {K : List D → Prop} {i : Nat} (hx : l.map c = xs) (h : ∀ (hj : i < l.length) x, x = l[i] → K (c x)) (hj : i < l.length := by first | omega | (simp only [List.length_append, List.length_cons, List.length_nil, List.length_set, List.length_replicate]; omega)) : RowW xs i K := by
  subst hx
  exact ⟨_, by simp [hj], h hj _ rfl⟩
theorem RIdxW.go {K : Nat → Prop} {len : Nat} {i : Int} (j : Nat) (h : ∀ p, p = j → p < len → K p) (hi : i = (j : Int) := by omega) (hj : j < len := by omega) : RIdxW 0 len i K := by
  subst hi
  exact ⟨j, by omega, by omega, by omega, h j rfl hj⟩
theorem RIdxW.off {K : Nat → Prop} {o len : Nat} {i : Int} (j : Nat) (h : ∀ p, p = o + j → K p) (hi : i = (j : Int) := by omega) (hj : j < len := by omega) : RIdxW o len i K := by
  subst hi
  exact ⟨o + j, by omega, by omega, by omega, h _ rfl⟩
theorem RSubW.lohi {K : List (List D) → Prop} {lo hi : Int} (hx : l.map c = xs) (h : ∀ v, ((l.take hi.toNat).drop lo.toNat).map c = v → K v) (h0 : 0 ≤ lo := by omega) (h1 : lo ≤ hi := by omega) (h2 : hi ≤ (l.length : Int) := by omega) : RSubW xs (some lo) (some hi) K := by
  subst hx
  refine ⟨_, h0, h1, by simpa using h2, rfl, h _ ?_⟩
  rw [List.drop_take, List.map_take, List.map_drop]
  rfl
theorem RSubW.lo {K : List (List D) → Prop} {lo : Int} (hx : l.map c = xs) (h : ∀ v, (l.drop lo.toNat).map c = v → K v) (h0 : 0 ≤ lo := by omega) (h1 : lo ≤ (l.length : Int) := by omega) : RSubW xs (some lo) none K := by
  subst hx
  refine ⟨_, h0, by simpa using h1, Int.le_refl _, rfl, h _ ?_⟩
  show _ = ((l.map c).drop lo.toNat).take ((((l.map c).length : Nat) : Int).toNat - lo.toNat)
  rw [List.map_drop, List.take_of_length_le]
  simp
theorem RSubW.hi {K : List (List D) → Prop} {hi : Int} (hx : l.map c = xs) (h : ∀ v, (l.take hi.toNat).map c = v → K v) (h1 : 0 ≤ hi := by omega) (h2 : hi ≤ (l.length : Int) := by omega) : RSubW xs none (some hi) K := by
  subst hx
  refine ⟨_, Int.le_refl _, h1, by simpa using h2, rfl, h _ ?_⟩
  rw [List.map_take]
  rfl
theorem RSetW.go {K : List (List D) → Prop} {i j : Nat} {ds : List D} (x' : α) (hx : l.map c = xs) (hj : i < l.length) (hp : putAt (c l[i]) j ds = c x') (hd : j + ds.length ≤ (c l[i]).length) (h : ∀ v, (l.set i x').map c = v → K v) : RSetW xs i j ds K := by
  subst hx
  refine ⟨_, c l[i], by simp [hj], hd, rfl, h _ ?_⟩
  rw [hp, List.map_set]
theorem RSetW.all {K : List (List D) → Prop} {i : Nat} {ds : List D} (x' : α) (hx : l.map c = xs) (hd : ds = c x') (h : ∀ v, (l.set i x').map c = v → K v) (hj : i < l.length := by omega) (hl : (c l[i]).length = (c x').length := by rfl) : RSetW xs i 0 ds K := by
  subst hd
  exact RSetW.go x' hx hj (putAt_all hl) (by rw [hl]; omega) h
theorem MakeW.go {K : Nat → List (List D) → Prop} {n : Int} {bytes : Nat} (x : α) (h : ∀ v l, l = n.toNat → (List.replicate n.toNat x).map c = v → K l v) (h0 : 0 ≤ n := by omega) (h2 : bytes * n ≤ 2 ^ 48 := by omega) (h3 : n < 2 ^ 63 := by omega) : MakeW n n bytes (c x) K :=
  ⟨_, _, h0, Int.le_refl _, h2, h3, rfl, rfl, h _ _ rfl (by rw [List.map_replicate])⟩
theorem AppW.one {K : Nat → List (List D) → Prop} {len bytes : Nat} {ds : List D} (x : α) (hx : l.map c = xs) (hd : ds = c x) (h : ∀ n v, n = l.length + 1 → (l ++ [x]).map c = v → K n v) (hl : len = l.length := by first | omega | (simp only [List.length_append, List.length_cons, List.length_nil, List.length_set, List.length_replicate]; omega)) (hb : (2 * (l.length + 1) + 1024) * bytes ≤ 2 ^ 48 := by first | omega | (simp only [List.length_append, List.length_cons, List.length_nil, List.length_set, List.length_replicate]; omega)) (hb2 : l.length + 1 < 2 ^ 62 := by first | omega | (simp only [List.length_append, List.length_cons, List.length_nil, List.length_set, List.length_replicate]; omega)) :
    AppW 0 len xs (.sub [ds] 0 1) bytes K := by
  subst hx hd hl
  exact ⟨_, _, [c x], rfl, rfl, by simp, by simpa using hb, by simpa using hb2, rfl, rfl, h _ _ (by simp) (by simp)⟩
theorem AppW.row {K : Nat → List (List D) → Prop} {len bytes : Nat} {ys : List (List D)} {m : List α} (hx : l.map c = xs) (hy : m.map c = ys) (h : ∀ n v, n = l.length + m.length → (l ++ m).map c = v → K n v) (hl : len = l.length := by first | omega | (simp only [List.length_append, List.length_cons, List.length_nil, List.length_set, List.length_replicate]; omega)) (hb : (2 * (l.length + m.length) + 1024) * bytes ≤ 2 ^ 48 := by first | omega | (simp only [List.length_append, List.length_cons, List.length_nil, List.length_set, List.length_replicate]; omega)) (hb2 : l.length + m.length < 2 ^ 62 := by first | omega | (simp only [List.length_append, List.length_cons, List.length_nil, List.length_set, List.length_replicate]; omega)) :
    AppW 0 len xs (.row ys) bytes K := by
  subst hx hy hl
  exact ⟨_, _, _, rfl, rfl, by simp, by simpa using hb, by simpa using hb2, rfl, rfl, h _ _ (by simp) (by simp)⟩
theorem AppW.sub {K : Nat → List (List D) → Prop} {len n bytes : Nat} {ys : List (List D)} {m : List α} (hx : l.map c = xs) (hy : m.map c = ys) (h : ∀ n v, n = l.length + m.length → (l ++ m).map c = v → K n v) (hl : len = l.length := by first | omega | (simp only [List.length_append, List.length_cons, List.length_nil, List.length_set, List.length_replicate]; omega)) (hn : n = m.length := by first | omega | (simp only [List.length_append, List.length_cons, List.length_nil, List.length_set, List.length_replicate]; omega)) (hb : (2 * (l.length + m.length) + 1024) * bytes ≤ 2 ^ 48 := by first | omega | (simp only [List.length_append, List.length_cons, List.length_nil, List.length_set, List.length_replicate]; omega)) (hb2 : l.length + m.length < 2 ^ 62 := by first | omega | (simp only [List.length_append, List.length_cons, List.length_nil, List.length_set, List.length_replicate]; omega)) :
    AppW 0 len xs (.sub ys 0 n) bytes K := by
  subst hx hy hl hn
  exact ⟨_, _, m.map c, by simp [Src.val, ← List.map_take], rfl, by simp, by simpa using hb, by simpa using hb2, rfl, rfl, h _ _ (by simp) (by simp)⟩
end
theorem BytesW.go {K : ByteArray → Prop} {xs : List (List D)} {l : List UInt8} (hx : l.map cB = xs) (h : ∀ v, v = tx l → K v) : BytesW xs K := by
  subst hx
  exact ⟨_, _, byteRow_cB l, rfl, h _ (by rw [← std_bytes]; show _ = (match byteRow (l.map cB) with | some ns => strOfInts ns | none => default); rw [byteRow_cB])⟩
theorem RBytesW.go {K : ByteArray → Prop} {xs : List (List D)} {n : Nat} {l : List UInt8} (hx : l.map cB = xs) (h : ∀ v, v = tx l → K v) (hn : n = l.length := by first | omega | (simp only [List.length_append, List.length_cons, List.length_nil, List.length_set, List.length_replicate]; omega)) : RBytesW xs 0 n K := by
  subst hx hn
  refine ⟨_, l.map fun b => (b.toNat : Int), by simp, ?_, rfl, h _ ?_⟩
  · rw [List.drop_zero, show l.length = (l.map cB).length by simp, List.take_length]
    exact byteRow_cB l
  · rw [← std_bytes]; show _ = (match byteRow (l.map cB) with | some ns => strOfInts ns | none => default); rw [byteRow_cB]
end Go.Proofs.Ytamdgfklbjoaiaa.Ab

namespace Go.Proofs.Ytamdgfklbjoaiaa.Ab
open Go
set_option linter.unusedVariables false

/-! Calls that are handed boxes, and what lies behind them. -/
section
variable {P : Program} {ops : Array Oper} {i nb : Nat} {o : Oper} {sl : Nat → AV} {rt : Nat → Option Root} {o0 out : Out} {cl : Call}
theorem OpSem.callB {x : Operand} {f : FuncId} {caps ys as : List AV} {π X : List Nat} {r0 : List Root} (ho : ops[i]? = some o) (hg : guardV ops o sl = some true) (hop : o.op = .call cl) (hc : cl.callee = .value x) (hx : opd0 sl x = .clo f caps)
    (ha : ArgR sl cl.args.toList ys) (he : Entered P f) (has : AV.rens (callRen π nb o0.new.length) as = some (ys ++ caps)) (hcall : CallOk P f as r0 o0)
    (hren : o0.ren (callRen π nb o0.new.length) = some out) (hlen : π.length = r0.length) (hnd : π.Nodup) (hlt : ∀ r ∈ π, r < nb) (hin : ∀ r ∈ π, r ∈ AV.idss (ys ++ caps) ++ X)
    (hX : ∀ r ∈ X, ∃ q ∈ AV.idss (ys ++ caps), ∃ t l, rt q = some (.box t l) ∧ r ∈ AV.idss l)
    (hrt : ∀ (j : Nat) r R, π[j]? = some r → r0[j]? = some R → ∃ R', rt r = some R' ∧ R ≠ .dead ∧ R.ren (callRen π nb o0.new.length) = some R') :
    OpSem P ops i (AV.idss (ys ++ caps) ++ X) sl rt nb ⟨out.av, out.new, out.g⟩ := by
  refine ⟨o, ho, ?_⟩
  intro c E a hM hlk hT hnb hF K Q k
  unfold wpOp
  rw [ho]
  simp only [guardV_wanted hlk hg, if_true]
  left
  have hz' := (LendsR.refl (rt := rt) (ys ++ caps)).agr (hT.sub fun r hr => by simp [hr])
  obtain ⟨us, hus, hargs, hex⟩ := call_args hM hlk hop hc hx ha hz'
  have hEq : ∀ r ∈ AV.idss (ys ++ caps) ++ X, (∃ R, rt r = some R) → E.rt r = rt r := by
    rintro r hr ⟨R, hR⟩
    rcases hT r hr with h | h
    · rw [h] at hR; cases hR
    · exact h
  have hpr1 : ∀ r ∈ AV.idss (ys ++ caps), ∀ R, E.rt r = some R → R ≠ .dead → E.pres r := by
    intro r hr R hR hd
    obtain ⟨j, y, hy, hmem⟩ := idss_get hr
    obtain ⟨v, hv⟩ := hex j y hy
    exact pres_of_ids hv hmem hR hd
  have hpr : ∀ r ∈ AV.idss (ys ++ caps) ++ X, ∀ R, E.rt r = some R → R ≠ .dead → E.pres r := by
    intro r hr R hR hd
    rcases List.mem_append.1 hr with hr | hr
    · exact hpr1 r hr R hR hd
    · obtain ⟨q, hq, t, l, hql, hrl⟩ := hX r hr
      have h1 : E.rt q = some (.box t l) := (hEq q (by simp [hq]) ⟨_, hql⟩).trans hql
      obtain ⟨b, cs, fr, _, _, _, h4, _⟩ := hM.roots q _ (hpr1 q hq _ h1 (by simp)) h1
      obtain ⟨j, y, hy, hmem⟩ := idss_get hrl
      obtain ⟨u, _, _, hu⟩ := h4 j y hy
      exact pres_of_ids hu hmem hR hd
  have hrows : ∀ r ∈ ([] : List Nat), IsRowRoot E r := by simp
  have hM' := lent_mem hM hrows
  have hF' : Fresh c (E.lent []) nb out.new := by
    refine ⟨hF.m, ?_, hF.np⟩
    intro k R hk
    show (if nb + k ∈ [] then (E.rt (nb + k)).map froz else E.rt (nb + k)) = some R
    rw [if_neg (by simp)]
    exact hF.rt k R hk
  have hnew : rootsRen (callRen π nb o0.new.length) o0.new = some out.new := by
    unfold Out.ren at hren
    obtain ⟨av, _, hren⟩ := Option.bind_eq_some_iff.1 hren
    obtain ⟨new, hnew, hren⟩ := Option.bind_eq_some_iff.1 hren
    obtain ⟨g, _, rfl⟩ := Option.map_eq_some_iff.1 hren
    exact hnew
  have H : Handed (E.lent []) π nb r0 o0.new out.new := by
    refine ⟨hlen, hnd, hlt, ?_, ?_, hnew⟩
    · intro r hr
      obtain ⟨j, hj, hgj⟩ := List.getElem_of_mem hr
      have hlt0 : j < r0.length := by rw [← hlen]; exact hj
      obtain ⟨R', h1, hd, h2⟩ := hrt j r r0[j] (List.getElem?_eq_some_iff.2 ⟨hj, hgj⟩) (List.getElem?_eq_getElem hlt0)
      have h3 : E.rt r = some R' := (hEq r (hin r hr) ⟨_, h1⟩).trans h1
      exact hpr r (hin r hr) R' h3 (fun e => hd ((ren_dead h2).1 e))
    · intro j r R hj hR
      obtain ⟨R', h1, _, h2⟩ := hrt j r R hj hR
      have hr := List.mem_of_getElem? hj
      refine ⟨R', ?_, h2⟩
      show (if r ∈ [] then (E.rt r).map froz else E.rt r) = some R'
      rw [if_neg (by simp)]
      exact (hEq r (hin r hr) ⟨_, h1⟩).trans h1
  have key := CallOk.at hM' hcall hF' H hren has hargs
  unfold Oper.wp
  rw [run_call hop hc hus he]
  show Calls P f _ E.w _
  refine Calls.mono key ?_
  rintro e w' ⟨v, E1, rfl, rfl, hO, _⟩
  refine k v E1 ⟨hO.mem, lent_step.trans hO.step, ?_, hO.pres, hO.size, hO.rel⟩
  rw [hO.rt]
  have := frzG_lent (E := E) (rt := rt) [] (fun r hr => by simp at hr)
  rw [← this]
  rfl
end

def bxX (rt : List Root) (ids : List Nat) (r : Nat) : Bool := ids.any fun q => match rt[q]? with | some (.box _ l) => (AV.idss l).contains r | _ => false
def ndB : Root → Bool
  | .dead => false
  | _ => true
/-- A call that is handed boxes and rows: the roots π, of which X lie behind boxes. -/
theorem CallW.bx {P P' : Program} {f : FuncId} {ys as : List AV} {rt r0 rs : List Root} {K : Out → List Nat → Prop} {o0 out : Out} (π X : List Nat) (hP : P' = P) (h : Fn P f as r0 o0)
    (has : AV.rens (callRen π rt.length o0.new.length) as = some ys) (hren : o0.ren (callRen π rt.length o0.new.length) = some out) (hrs : rootsRen (callRen π rt.length o0.new.length) r0 = some rs)
    (hrt : π.map (fun r => rt[r]?) = rs.map some) (k : K ⟨out.av, out.new, out.g⟩ (AV.idss ys ++ X)) (hnd0 : r0.all ndB = true := by rfl) (hlen : π.length = r0.length := by rfl) (hnd : π.Nodup := by decide)
    (hlt : (π.all fun r => Nat.blt r rt.length) = true := by rfl) (hin : (π.all fun r => (AV.idss ys ++ X).contains r) = true := by rfl) (hX : X.all (bxX rt (AV.idss ys)) = true := by rfl)
    (hg : (out.g.all fun p => Nat.blt p.1 (rt.length + out.new.length)) = true := by rfl) : CallW P' f ys rt K := by
  subst hP
  refine ⟨fun o st hst hc => ?_⟩
  subst hst
  obtain ⟨cl, x, caps, ys0, hgd, hop, hcl, hx, ha, rfl⟩ := hc
  refine .mk ⟨out.av, out.new, out.g⟩ _ (OpSem.callB (X := X) (π := π) rfl (guardV_none hgd) hop hcl hx ha h.ent has h.ok hren hlen hnd ?_ ?_ ?_ ?_) ?_ k
  · intro r hr
    simpa [Nat.blt_eq] using List.all_eq_true.1 hlt r hr
  · intro r hr
    simpa using List.all_eq_true.1 hin r hr
  · intro r hr
    have := List.all_eq_true.1 hX r hr
    unfold bxX at this
    obtain ⟨q, hq, h'⟩ := List.any_eq_true.1 this
    split at h'
    · rename_i t l e
      exact ⟨q, hq, t, l, e, by simpa using h'⟩
    · cases h'
  · intro j r R hj hR
    obtain ⟨hl, hg'⟩ := rootsRen_get hrs
    obtain ⟨R', h1, h2⟩ := hg' j R hR
    refine ⟨R', ?_, ?_, h2⟩
    · have := congrArg (·[j]?) hrt
      simp only [List.getElem?_map, hj, h1, Option.map_some, Option.some.injEq] at this
      exact this
    · rintro rfl
      have := List.all_eq_true.1 hnd0 _ (List.mem_of_getElem? hR)
      cases this
  · intro p hp
    simpa [Nat.blt_eq] using List.all_eq_true.1 hg p hp
theorem StrBW.go {s : ByteArray} {K : Nat → List (List D) → Prop} (h : ∀ n v, n = s.data.toList.length → s.data.toList.map cB = v → K n v) : StrBW s K := ⟨_, _, rfl, rfl, h _ _ (by rw [Array.length_toList]; rfl) rfl⟩
theorem AppBW.go {P P' : Program} {t e len : Nat} {bs : List UInt8} {s : ByteArray} {K : Nat → List UInt8 → Prop} (hP : P' = P) (hu : P.underlying t = some (.slice e)) (h : ∀ n v, n = bs.length + s.size → v = bs ++ s.data.toList → K n v) (hl : len = bs.length := by omega) (hb : bs.length + s.size < 2 ^ 46 := by omega) : AppBW P' t e 1 len bs s K := by
  subst hP
  exact ⟨_, _, hu, hl, by omega, by omega, rfl, rfl, h _ _ rfl rfl⟩

/-! strings.Builder: what its methods come to, out of what they do to the bare memory. -/
theorem args_ptr {c : Ctx} {E : Env} {vs : Array Value} {T : TypeId} {l : List AV} (hM : Mem c E) (hA : Args E [.ptr 0 0 0] vs) (hr : E.rt 0 = some (.box T l)) :
    ∃ b cs fr, vs = #[.pointer (some ⟨b, 0, none⟩)] ∧ E.pres 0 ∧ E.β 0 = some b ∧ E.w.heap[b]? = some (.cells cs T fr) ∧ cs.size = l.length ∧ (∀ (j : Nat) y, l[j]? = some y → ∃ u, cs[j]? = some u ∧ u.oneCell' = true ∧ RelAV E y u) ∧ ¬ E.S b ∧ unfrozen cs.size fr := by
  obtain ⟨hs, h⟩ := hA
  have h0 := h 0 _ rfl
  have hvs : vs = #[vs.getD 0 undef] := by
    match vs, hs with
    | ⟨[v]⟩, _ => rfl
  rw [hvs]
  generalize vs.getD 0 undef = v at h0
  cases h0 with
  | dptr _ _ _ _ h1 _ => rw [hr] at h1; cases h1
  | ptr _ _ _ R b h1 h2 h3 =>
    rw [hr] at h1
    obtain rfl := Option.some.inj h1
    obtain ⟨b', cs, fr, g1, g2, g3, g4, g5, g6⟩ := hM.roots 0 _ h2 hr
    rw [h3] at g1
    obtain rfl := Option.some.inj g1
    exact ⟨b, cs, fr, by simp, h2, h3, g2, g3, g4, g5, g6⟩

theorem pres_none {p : Prop} {n x : Nat} : p ↔ p ∨ (n ≤ x ∧ x < n + 0) := ⟨.inl, fun h => h.elim id (fun h => by omega)⟩
theorem bx_set {P : Program} {f : FuncId} {T : TypeId} {y : AV} {R1 : Root}
    (hraw : ∀ (b : Nat) (w : World), w.cell? ⟨b, 0, none⟩ = some (.pointer none) → w.shape? b = some (T, 2) → w.frozen? ⟨b, 0, none⟩ = false → Calls P f #[.pointer (some ⟨b, 0, none⟩)] w fun e w' => e = .returned (.tuple #[]) ∧ w' = w.setCell ⟨b, 0, none⟩ (.pointer (some ⟨b, 0, none⟩))) :
    CallOk P f [.ptr 0 0 0] [.box T [.d (.sc (.pointer none)), y], R1] ⟨.tup [], [], [(0, .box T [.ptr 0 0 0, y])]⟩ := by
  intro w S β vs hM hA
  have hr : (callEnv w S β [.box T [.d (.sc (.pointer none)), y], R1] []).rt 0 = some (.box T [.d (.sc (.pointer none)), y]) := rfl
  obtain ⟨b, cs, fr, rfl, hp, hb, hh, hsz, hcs, hnS, hfr⟩ := args_ptr hM hA hr
  generalize hE : callEnv w S β [.box T [.d (.sc (.pointer none)), y], R1] [] = E at *
  have hw : E.w = w := by rw [← hE]; rfl
  subst hw
  have hsz : cs.size = 2 := hsz
  obtain ⟨u0, hu0, _, hrel0⟩ := hcs 0 _ rfl
  obtain ⟨u1, hu1, ho1, hrel1⟩ := hcs 1 _ rfl
  have e0 : u0 = .pointer none := relSc hrel0
  subst e0
  refine (hraw b E.w (by simp [World.cell?, hh, hu0]) (by simp [World.shape?, hh, hsz]) (unfrozen_getD hh hfr (by omega))).mono ?_
  rintro e w' ⟨rfl, rfl⟩
  obtain ⟨cs', hW, hget⟩ := setCells_wrote b T fr [.pointer (some ⟨b, 0, none⟩)] 0 E.w cs hh (by simp; omega)
  have hW' : Wrote E.w (E.w.setCell ⟨b, 0, none⟩ (.pointer (some ⟨b, 0, none⟩))) b cs cs' T fr := hW
  have st : Step E (E.upd 0 (.box T [.ptr 0 0 0, y]) (E.w.setCell ⟨b, 0, none⟩ (.pointer (some ⟨b, 0, none⟩)))) := Step.upd hr (.inr rfl) (fun x hx => hW'.others x (fun e => hnS (e ▸ hx))) (hW'.shape hh)
  have hrt0 : (E.upd 0 (.box T [.ptr 0 0 0, y]) (E.w.setCell ⟨b, 0, none⟩ (.pointer (some ⟨b, 0, none⟩)))).rt 0 = some (.box T [.ptr 0 0 0, y]) := by simp [Env.upd]
  obtain ⟨hM', st'⟩ := hM.upd (R := .box T [.d (.sc (.pointer none)), y]) (R' := .box T [.ptr 0 0 0, y]) hp hr (by simp) rfl hb hnS hh hW' (by
    refine ⟨b, cs', fr, hb, hW'.at_, by rw [hW'.size]; exact hsz, ?_, hnS, by rw [hW'.size]; exact hfr⟩
    intro j z hz
    rw [hget]
    match j, hz with
    | 0, hz =>
      simp only [List.getElem?_cons_zero, Option.some.injEq] at hz
      subst hz
      refine ⟨_, by simp; rfl, rfl, ?_⟩
      have := RelAV.ptr 0 0 0 _ b hrt0 hp hb
      simpa using this
    | 1, hz =>
      simp at hz
      subst hz
      exact ⟨u1, by simpa using hu1, ho1, hrel1.step st⟩
    | j + 2, hz => simp at hz)
  refine ⟨_, _, rfl, ?_, hM', st', ?_, ?_, ?_, .tup [] #[] rfl (by simp)⟩
  · rfl
  · funext x; rfl
  · exact fun x => pres_none
  · show _ ≤ (E.w.setCell _ _).heap.size
    rw [hW'.hsize]; exact Nat.le_refl _
theorem bx_keep {P : Program} {f : FuncId} {T : TypeId} {y : AV} {R1 : Root}
    (hraw : ∀ (b : Nat) (w : World), w.cell? ⟨b, 0, none⟩ = some (.pointer (some ⟨b, 0, none⟩)) → Calls P f #[.pointer (some ⟨b, 0, none⟩)] w fun e w' => e = .returned (.tuple #[]) ∧ w' = w) :
    CallOk P f [.ptr 0 0 0] [.box T [.ptr 0 0 0, y], R1] ⟨.tup [], [], []⟩ := by
  intro w S β vs hM hA
  have hr : (callEnv w S β [.box T [.ptr 0 0 0, y], R1] []).rt 0 = some (.box T [.ptr 0 0 0, y]) := rfl
  obtain ⟨b, cs, fr, rfl, hp, hb, hh, hsz, hcs, hnS, hfr⟩ := args_ptr hM hA hr
  generalize hE : callEnv w S β [.box T [.ptr 0 0 0, y], R1] [] = E at *
  have hw : E.w = w := by rw [← hE]; rfl
  subst hw
  obtain ⟨u0, hu0, _, hrel0⟩ := hcs 0 _ rfl
  have e0 : u0 = .pointer (some ⟨b, 0, none⟩) := by
    cases hrel0 with
    | dptr _ _ _ _ h1 _ => rw [hr] at h1; cases h1
    | ptr _ _ _ R b' h1 h2 h3 =>
      rw [hb] at h3
      obtain rfl := Option.some.inj h3
      simp
  subst e0
  refine (hraw b E.w (by simp [World.cell?, hh, hu0])).mono ?_
  rintro e w' ⟨rfl, rfl⟩
  refine ⟨_, E, rfl, rfl, hM, Step.refl E, rfl, ?_, Nat.le_refl _, .tup [] #[] rfl (by simp)⟩
  exact fun x => pres_none
theorem freeze_wrote {w : World} {g n : Nat} {cs : Array Value} {t : TypeId} {fr : Nat × Nat} (hn : n ≠ 0) (h : w.heap[g]? = some (.cells cs t fr)) : ∃ fr', Wrote w (w.freeze ⟨g, 0, none⟩ n) g cs cs t fr' := by
  obtain ⟨lo, hi⟩ := fr
  refine ⟨if lo == hi then (0, 0 + n) else (min lo 0, max hi (0 + n)), ⟨?_, rfl, ?_, ?_, ?_, ?_, ?_⟩⟩
  · simp only [World.freeze, if_neg hn, Array.getElem?_modify, if_true, h, Option.map_some]
  · intro x hx
    simp only [World.freeze, if_neg hn, Array.getElem?_modify]
    rw [if_neg (fun e => hx e.symm)]
  · simp [World.freeze, if_neg hn]
  · simp [World.freeze, if_neg hn]
  · simp [World.freeze, if_neg hn]
  · simp [World.freeze, if_neg hn]
theorem bld_string {P : Program} {f : FuncId} {T e : TypeId} {x : AV} {bs : List UInt8} {n : Nat} (hn : n = bs.length) (h0 : bs ≠ [])
    (hraw : ∀ (b g cap cells : Nat) (w : World), w.cell? ⟨b, 1, none⟩ = some (.slice (some ⟨g, 0, none⟩) bs.length cap) → bs.length ≤ cap → w.shape? g = some (e, cells) → bs.length ≤ cells →
      (∀ (j : Nat) u, bs[j]? = some u → w.cell? ((⟨g, 0, none⟩ : Addr).add j) = some (.int .u8 u.toNat)) → Calls P f #[.pointer (some ⟨b, 0, none⟩)] w fun en w' => en = .returned (.string ⟨bs.toArray⟩) ∧ w' = w.drew.freeze ⟨g, 0, none⟩ bs.length) :
    CallOk P f [.ptr 0 0 0] [.box T [x, .ref 1 0 n], .buf e false bs] ⟨.d (.sc (.string ⟨bs.toArray⟩)), [], [(1, .buf e true bs)]⟩ := by
  subst hn
  have hl0 : bs.length ≠ 0 := by simpa using h0
  intro w S β vs hM hA
  have hr : (callEnv w S β [.box T [x, .ref 1 0 bs.length], .buf e false bs] []).rt 0 = some (.box T [x, .ref 1 0 bs.length]) := rfl
  have hr1 : (callEnv w S β [.box T [x, .ref 1 0 bs.length], .buf e false bs] []).rt 1 = some (.buf e false bs) := rfl
  obtain ⟨b, cs, fr, rfl, hp, hb, hh, hsz, hcs, hnS, hfr⟩ := args_ptr hM hA hr
  have hp1 : (callEnv w S β [.box T [x, .ref 1 0 bs.length], .buf e false bs] []).pres 1 := by show 1 < 2; omega
  generalize hE : callEnv w S β [.box T [x, .ref 1 0 bs.length], .buf e false bs] [] = E at *
  have hw : E.w = w := by rw [← hE]; rfl
  subst hw
  obtain ⟨u1, hu1, ho1, hrel1⟩ := hcs 1 _ rfl
  rcases hM.roots 1 _ hp1 hr1 with ⟨_, h2⟩ | ⟨g, cs1, fr1, g1, g2, g3, g4, g5, g6⟩
  · exact absurd h2 h0
  have key : ∃ cap, u1 = .slice (some ⟨g, 0, none⟩) bs.length cap ∧ bs.length ≤ cap := by
    generalize hl : bs.length = ln at hrel1
    cases hrel1 with
    | dref _ _ _ _ h1 _ => rw [hr1] at h1; cases h1
    | refz _ _ R sz a h1 hk h2 => exact absurd hl hl0
    | ref _ _ _ R sz g' cap t nn h1 hk h2 h3 h4 h5 h6 =>
      rw [g1] at h3
      obtain rfl := Option.some.inj h3
      exact ⟨cap, by simp, h5⟩
  obtain ⟨cap, rfl, hcap⟩ := key
  refine (hraw b g cap cs1.size E.w (by simp [World.cell?, hh, hu1]) hcap (by simp [World.shape?, g2]) g3 (by
    intro j u hj
    have := g4 j u hj
    rw [show ((⟨g, 0, none⟩ : Addr).add j) = ⟨g, j, none⟩ by simp [add_none]]
    simp [World.cell?, g2, this])).mono ?_
  rintro en w' ⟨rfl, rfl⟩
  obtain ⟨fr', hW⟩ := freeze_wrote (w := E.w.drew) (n := bs.length) hl0 g2
  obtain ⟨hM', st'⟩ := hM.drew.upd (E := E.drew) (R := .buf e false bs) (R' := .buf e true bs) hp1 hr1 (by simp) rfl g1 g5 g2 hW (.inr ⟨g, cs1, fr', g1, hW.at_, g3, g4, g5, fun h => by cases h⟩)
  refine ⟨_, _, rfl, ?_, hM', (Step.drew E).trans st', ?_, ?_, ?_, .d _ _ (.sc _ rfl)⟩
  · rfl
  · funext x; rfl
  · exact fun x => pres_none
  · show _ ≤ (E.w.drew.freeze _ _).heap.size
    rw [hW.hsize]; exact Nat.le_refl _
/-- The end of a function that was handed roots. -/
theorem EndQ.of {P : Program} {rs : Array ResultVar} {r0 : List Root} {o : Out} {st : St} {e : Exit} {l : List AV} (ids : List Nat) (he : e = .ret ∨ e = .normal) (h : resAll P st rs.toList = some l) (hav : (resAV l).ren (finRen r0.length ids) = some o.av)
    (hnew : ids.map (fun i => (st.rt[i]?).bind (Root.ren (finRen r0.length ids))) = o.new.map some) (h1 : (List.range r0.length).map (fun r => (st.rt[r]?).bind (Root.ren (finRen r0.length ids))) = (List.range r0.length).map (fun r => updG o.g (fun r => r0[r]?) r))
    (h2 : ((List.range r0.length).all fun r => (updG o.g (fun r => r0[r]?) r).isSome) = true := by rfl) (hids : (ids.all fun i => Nat.ble r0.length i) = true := by rfl) (hnd : ids.Nodup := by decide) (hg : (o.g.all fun p => Nat.blt p.1 r0.length) = true := by rfl) : EndQ P rs r0 o e st := by
  have key : FinOk P rs r0 o st := by
    refine ⟨ids, l, h, hav, ?_, hnd, ?_, ?_, ?_, ?_⟩
    · intro i hi
      exact Nat.le_of_ble_eq_true (List.all_eq_true.1 hids i hi)
    · simpa using congrArg List.length hnew
    · intro k i R hk hR
      have := congrArg (·[k]?) hnew
      simp only [List.getElem?_map, hk, hR, Option.map_some, Option.some.injEq] at this
      obtain ⟨R0, g1, g2⟩ := Option.bind_eq_some_iff.1 this
      exact ⟨R0, g1, g2⟩
    · intro r R hr
      have hlt : r < r0.length := (List.getElem?_eq_some_iff.1 hr).1
      have a1 := congrArg (·[r]?) h1
      have a2 := List.all_eq_true.1 h2 r (List.mem_range.2 hlt)
      simp only [List.getElem?_map, List.getElem?_range hlt, Option.map_some, Option.some.injEq] at a1
      obtain ⟨R1, hx⟩ := Option.isSome_iff_exists.1 a2
      rw [hx] at a1
      obtain ⟨R0, g1, g2⟩ := Option.bind_eq_some_iff.1 a1
      exact ⟨R0, R1, g1, g2, hx⟩
    · intro p hp
      simpa [Nat.blt_eq] using List.all_eq_true.1 hg p hp
  rcases he with rfl | rfl <;> exact key
/-- A text put behind a row of bytes. -/
theorem AppW.str {K : Nat → List (List D) → Prop} {len bytes : Nat} {xs : List (List D)} {l : List UInt8} {s : ByteArray} (hx : l.map cB = xs) (h : ∀ n v, n = l.length + s.size → (l ++ s.data.toList).map cB = v → K n v) (hl : len = l.length := by first | omega | (simp only [List.length_append, List.length_cons, List.length_nil, List.length_set, List.length_replicate]; omega))
    (hb : (2 * (l.length + s.size) + 1024) * bytes ≤ 2 ^ 48 := by first | omega | (simp only [List.length_append, List.length_cons, List.length_nil, List.length_set, List.length_replicate]; omega)) (hb2 : l.length + s.size < 2 ^ 62 := by first | omega | (simp only [List.length_append, List.length_cons, List.length_nil, List.length_set, List.length_replicate]; omega)) :
    AppW 0 len xs (.str s) bytes K := by
  subst hx hl
  have e : strRow s = s.data.toList.map cB := rfl
  have el : (strRow s).length = s.size := by rw [e, List.length_map]; exact Array.length_toList
  exact ⟨_, _, strRow s, rfl, rfl, by simp, by rw [el]; simpa using hb, by rw [el]; simpa using hb2, rfl, rfl, h _ _ (by simp [el]) (by rw [e]; simp)⟩
end Go.Proofs.Ytamdgfklbjoaiaa.Ab
