/- What functions of the program come to, for all arguments in the given bounds. -/
import Derived.Test.YtgdmjbcllgmepaaGreatDoorProg
import Derived.Test.YtgdmjbcllgmepaaGreatDoorEcZ9
import Derived.KernelRfl
import Derived.Lib.LaidTab
set_option linter.unusedVariables false
set_option linter.unusedSimpArgs false
namespace Go.Proofs.YtgdmjbcllgmepaaGreatDoor.Ab
section
open Go Go.Proofs
set_option maxRecDepth 20000
theorem Xlj{w:World}{S:Nat→Prop}(h:Globs.ok w S):Lib.TabIs Tryz.prog w "math/bits.deBruijn64tab" .u8 Tw:=(show _ from h.2.1).2
theorem Xlx{w:World}{S:Nat→Prop}(h:Globs.ok w S):Lib.TabIs Tryz.prog w "internal/strconv.uint64pow10" .u64 X0:=(show _ from h.2.2.1).2
theorem Xla{w:World}{S:Nat→Prop}(h:Globs.ok w S):Hn w 3:=(show _ from h.2.2.2.1).2
theorem Xhm{w:World}{S:Nat→Prop}(h:Globs.ok w S):Hn w 2:=(show _ from h.2.2.2.2).2
def tab:List (Nat×TyRow):=[
 (3,⟨.int .i64,some 1,some false,none,false,[.int .i64],[],some [(.int .i64 0,0)],none,none,none⟩),
 (4,⟨.bool,some 1,some false,none,false,[.bool],[],some [(.bool false,0)],none,none,none⟩),
 (5,⟨.int .u8,some 1,some false,none,false,[.int .u8],[],some [(.int .u8 0,0)],none,none,none⟩),
 (9,⟨.str,some 1,some false,none,false,[.str],[],some [(.string default,0)],none,none,none⟩),
 (23,⟨.other,some 4,some true,none,false,[.int .i64,.int .i64,.int .i64,.int .i64],[some (0,1,false),some (1,1,false),some (2,1,false),some (3,1,false)],some [(.int .i64 0,0),(.int .i64 0,0),(.int .i64 0,0),(.int .i64 0,0)],none,some [(0,1),(1,1),(2,1),(3,1)],some [.int,.int,.int,.int]⟩),
 (24,⟨.sl 3,some 1,some false,some (3,32),false,[.sl 3],[],some [(.slice none 0 0,3)],some ([.sc (.int .i64 0),.sc (.string default),.sc (.int .i64 0)],3,32),none,none⟩),
 (25,⟨.sl 2,some 1,some false,some (2,24),false,[.sl 2],[],some [(.slice none 0 0,2)],some ([.sc (.string default),.sc (.int .i64 0)],2,24),none,none⟩),
 (26,⟨.sl 1,some 1,some false,some (1,16),false,[.sl 1],[],some [(.slice none 0 0,1)],some ([.sc (.string default)],1,16),none,none⟩),
 (28,⟨.other,some 6,some true,none,false,[.sl 3,.sl 2,.sl 2,.sl 1,.int .i64,.int .i64],[some (0,1,false),some (1,1,false),some (2,1,false),some (3,1,false),some (4,1,false),some (5,1,false)],some [(.slice none 0 0,3),(.slice none 0 0,2),(.slice none 0 0,2),(.slice none 0 0,1),(.int .i64 0,0),(.int .i64 0,0)],none,some [(0,1),(1,1),(2,1),(3,1),(4,1),(5,1)],none⟩),
 (29,⟨.sl 1,some 1,some false,some (1,8),false,[.sl 1],[],some [(.slice none 0 0,1)],some ([.sc (.int .i64 0)],1,8),none,none⟩),
 (31,⟨.other,some 9,some true,none,false,[.int .i64,.int .i64,.int .i64,.int .i64,.int .i64,.sl 1,.int .i64,.bool,.int .i64],[some (0,1,false),some (1,1,false),some (2,1,false),some (3,1,false),some (4,1,false),some (5,1,false),some (6,1,false),some (7,1,false),some (8,1,false)],some [(.int .i64 0,0),(.int .i64 0,0),(.int .i64 0,0),(.int .i64 0,0),(.int .i64 0,0),(.slice none 0 0,1),(.int .i64 0,0),(.bool false,0),(.int .i64 0,0)],none,some [(0,1),(1,1),(2,1),(3,1),(4,1),(5,1),(6,1),(7,1),(8,1)],none⟩),
 (33,⟨.other,some 22,some true,none,false,[.int .i64,.int .i64,.int .i64,.int .i64,.sl 3,.sl 2,.sl 2,.sl 1,.int .i64,.int .i64,.int .i64,.int .i64,.int .i64,.int .i64,.int .i64,.sl 1,.int .i64,.bool,.int .i64,.sl 1,.int .i64,.int .i64],[some (0,4,true),some (4,6,true),some (10,9,true),some (19,1,false),some (20,1,false),some (21,1,false)],some [(.int .i64 0,0),(.int .i64 0,0),(.int .i64 0,0),(.int .i64 0,0),(.slice none 0 0,3),(.slice none 0 0,2),(.slice none 0 0,2),(.slice none 0 0,1),(.int .i64 0,0),(.int .i64 0,0),(.int .i64 0,0),(.int .i64 0,0),(.int .i64 0,0),(.int .i64 0,0),(.int .i64 0,0),(.slice none 0 0,1),(.int .i64 0,0),(.bool false,0),(.int .i64 0,0),(.slice none 0 0,1),(.int .i64 0,0),(.int .i64 0,0)],none,some [(0,4),(4,6),(10,9),(19,1),(20,1),(21,1)],none⟩),
 (36,⟨.other,some 4,some true,none,false,[.int .i64,.int .i64,.int .i64,.int .i64],[some (0,1,false),some (1,1,false),some (2,1,false),some (3,1,false)],some [(.int .i64 0,0),(.int .i64 0,0),(.int .i64 0,0),(.int .i64 0,0)],none,some [(0,1),(1,1),(2,1),(3,1)],some [.int,.int,.int,.int]⟩),
 (37,⟨.sl 3,some 1,some false,some (3,32),false,[.sl 3],[],some [(.slice none 0 0,3)],some ([.sc (.int .i64 0),.sc (.string default),.sc (.int .i64 0)],3,32),none,none⟩),
 (38,⟨.sl 2,some 1,some false,some (2,24),false,[.sl 2],[],some [(.slice none 0 0,2)],some ([.sc (.string default),.sc (.int .i64 0)],2,24),none,none⟩),
 (40,⟨.other,some 6,some true,none,false,[.sl 3,.sl 2,.sl 2,.sl 1,.int .i64,.int .i64],[some (0,1,false),some (1,1,false),some (2,1,false),some (3,1,false),some (4,1,false),some (5,1,false)],some [(.slice none 0 0,3),(.slice none 0 0,2),(.slice none 0 0,2),(.slice none 0 0,1),(.int .i64 0,0),(.int .i64 0,0)],none,some [(0,1),(1,1),(2,1),(3,1),(4,1),(5,1)],none⟩),
 (41,⟨.other,some 9,some true,none,false,[.int .i64,.int .i64,.int .i64,.int .i64,.int .i64,.sl 1,.int .i64,.bool,.int .i64],[some (0,1,false),some (1,1,false),some (2,1,false),some (3,1,false),some (4,1,false),some (5,1,false),some (6,1,false),some (7,1,false),some (8,1,false)],some [(.int .i64 0,0),(.int .i64 0,0),(.int .i64 0,0),(.int .i64 0,0),(.int .i64 0,0),(.slice none 0 0,1),(.int .i64 0,0),(.bool false,0),(.int .i64 0,0)],none,some [(0,1),(1,1),(2,1),(3,1),(4,1),(5,1),(6,1),(7,1),(8,1)],none⟩),
 (43,⟨.other,some 22,some true,none,false,[.int .i64,.int .i64,.int .i64,.int .i64,.sl 3,.sl 2,.sl 2,.sl 1,.int .i64,.int .i64,.int .i64,.int .i64,.int .i64,.int .i64,.int .i64,.sl 1,.int .i64,.bool,.int .i64,.sl 1,.int .i64,.int .i64],[some (0,4,true),some (4,6,true),some (10,9,true),some (19,1,false),some (20,1,false),some (21,1,false)],some [(.int .i64 0,0),(.int .i64 0,0),(.int .i64 0,0),(.int .i64 0,0),(.slice none 0 0,3),(.slice none 0 0,2),(.slice none 0 0,2),(.slice none 0 0,1),(.int .i64 0,0),(.int .i64 0,0),(.int .i64 0,0),(.int .i64 0,0),(.int .i64 0,0),(.int .i64 0,0),(.int .i64 0,0),(.slice none 0 0,1),(.int .i64 0,0),(.bool false,0),(.int .i64 0,0),(.slice none 0 0,1),(.int .i64 0,0),(.int .i64 0,0)],none,some [(0,4),(4,6),(10,9),(19,1),(20,1),(21,1)],none⟩),
 (78,⟨.sl 2,some 1,some false,some (2,24),false,[.sl 2],[],some [(.slice none 0 0,2)],some ([.sc (.string default),.sc (.int .i64 0)],2,24),none,none⟩),
 (103,⟨.other,some 4,some true,none,false,[.int .i64,.int .i64,.int .i64,.int .i64],[some (0,1,false),some (1,1,false),some (2,1,false),some (3,1,false)],some [(.int .i64 0,0),(.int .i64 0,0),(.int .i64 0,0),(.int .i64 0,0)],none,some [(0,1),(1,1),(2,1),(3,1)],some [.int,.int,.int,.int]⟩),
 (106,⟨.sl 4,some 1,some false,some (4,56),false,[.sl 4],[],some [(.slice none 0 0,4)],some ([.sc (.int .i64 0),.sc (.string default),.sc (.string default),.sc (.string default)],4,56),none,none⟩),
 (112,⟨.sl 11,some 1,some false,some (11,128),false,[.sl 11],[],some [(.slice none 0 0,11)],some ([.sc (.int .i64 0),.sc (.string default),.sc (.bool false),.sc (.int .i64 0),.sc (.int .i64 0),.sc (.int .i64 0),.sc (.int .i64 0),.row 1 [],.row 1 [],.sc (.int .i64 0),.sc (.bool false)],11,128),none,none⟩),
 (115,⟨.other,some 9,some true,none,false,[.bool,.int .i64,.int .i64,.int .i64,.int .i64,.sl 1,.sl 1,.int .i64,.bool],[some (0,1,false),some (1,4,true),some (5,1,false),some (6,1,false),some (7,1,false),some (8,1,false)],some [(.bool false,0),(.int .i64 0,0),(.int .i64 0,0),(.int .i64 0,0),(.int .i64 0,0),(.slice none 0 0,1),(.slice none 0 0,1),(.int .i64 0,0),(.bool false,0)],none,some [(0,1),(1,4),(5,1),(6,1),(7,1),(8,1)],none⟩),
 (117,⟨.other,some 11,some true,none,false,[.int .i64,.str,.bool,.int .i64,.int .i64,.int .i64,.int .i64,.sl 1,.sl 1,.int .i64,.bool],[some (0,1,false),some (1,1,false),some (2,9,true)],some [(.int .i64 0,0),(.string default,0),(.bool false,0),(.int .i64 0,0),(.int .i64 0,0),(.int .i64 0,0),(.int .i64 0,0),(.slice none 0 0,1),(.slice none 0 0,1),(.int .i64 0,0),(.bool false,0)],none,some [(0,1),(1,1),(2,9)],none⟩),
 (129,⟨.other,some 3,some true,none,false,[.int .i64,.str,.int .i64],[some (0,1,false),some (1,1,false),some (2,1,false)],some [(.int .i64 0,0),(.string default,0),(.int .i64 0,0)],none,some [(0,1),(1,1),(2,1)],some [.int,.str,.int]⟩),
 (133,⟨.other,some 2,some true,none,false,[.str,.int .i64],[some (0,1,false),some (1,1,false)],some [(.string default,0),(.int .i64 0,0)],none,some [(0,1),(1,1)],some [.str,.int]⟩),
 (135,⟨.sl 1,some 1,some false,some (1,1),true,[.sl 1],[],some [(.slice none 0 0,1)],some ([.sc (.int .u8 0)],1,1),none,none⟩),
 (140,⟨.other,some 2,some true,none,false,[.str,.int .i64],[some (0,1,false),some (1,1,false)],some [(.string default,0),(.int .i64 0,0)],none,some [(0,1),(1,1)],some [.str,.int]⟩),
 (168,⟨.other,some 3,some true,none,false,[.int .i64,.str,.int .i64],[some (0,1,false),some (1,1,false),some (2,1,false)],some [(.int .i64 0,0),(.string default,0),(.int .i64 0,0)],none,some [(0,1),(1,1),(2,1)],some [.int,.str,.int]⟩),
 (170,⟨.other,some 2,some true,none,false,[.str,.int .i64],[some (0,1,false),some (1,1,false)],some [(.string default,0),(.int .i64 0,0)],none,some [(0,1),(1,1)],some [.str,.int]⟩),
 (177,⟨.other,some 4,some true,none,false,[.int .i64,.str,.str,.str],[some (0,1,false),some (1,1,false),some (2,1,false),some (3,1,false)],some [(.int .i64 0,0),(.string default,0),(.string default,0),(.string default,0)],none,some [(0,1),(1,1),(2,1),(3,1)],some [.int,.str,.str,.str]⟩),
 (228,⟨.int .u64,some 1,some false,none,false,[.int .u64],[],some [(.int .u64 0,0)],none,none,none⟩),
 (232,⟨.sl 2,some 1,some false,some (2,16),false,[.sl 2],[],some [(.slice none 0 0,2)],some ([.sc (.int .i64 0),.sc (.int .i64 0)],2,16),none,none⟩),
 (253,⟨.other,some 2,some true,none,false,[.int .i64,.int .i64],[some (0,1,false),some (1,1,false)],some [(.int .i64 0,0),(.int .i64 0,0)],none,some [(0,1),(1,1)],some [.int,.int]⟩),
 (260,⟨.int .u32,some 1,some false,none,false,[.int .u32],[],some [(.int .u32 0,0)],none,none,none⟩)
]
theorem D3:Cb Tryz.prog tab:=Cb.of (by kernel_rfl)
theorem mixed:Tryz.prog.follows .mixedOrders=true:=by kernel_rfl
set_option maxRecDepth 20000
structure Be where
 id_:Int
 text_:ByteArray
 sure_:Int
def A8(a:Be):List D:=[.sc (.int .i64 a.id_),.sc (.string a.text_),.sc (.int .i64 a.sure_)]
def Xjk(a:Be):Prop:=wfI a.id_∧wfI a.sure_
def Dx(a:Be):Int:=(a.text_.size:Int)
def XeY(a:Be):Prop:=a.text_.size<2^47
theorem Xv(a:Be):0≤Dx a:=by
 unfold Dx
 omega
def XhP(a:List Be):Prop:=∀x∈a,Xjk x
def D5(a:List Be):Int:=a.length+J7 (fun x=>Dx x) a
def Z1(a:List Be):Prop:=a.length<2^44∧∀x∈a,XeY x
theorem Fk(x:Be):0≤Dx x:=Xv x
theorem I9(a:List Be):0≤D5 a:=by
 have:=Cz (fun x=>Dx x) a (fun x _=>Fk x)
 unfold D5
 omega
theorem Xdk(a:List Be):(a.length:Int)≤D5 a:=by
 have:=Cz (fun x=>Dx x) a (fun x _=>Fk x)
 unfold D5
 omega
structure Ad where
 name_:ByteArray
 id_:Int
def Ac(a:Ad):List D:=[.sc (.string a.name_),.sc (.int .i64 a.id_)]
def Xex(a:Ad):Prop:=wfI a.id_
def C1(a:Ad):Int:=(a.name_.size:Int)
def Zt(a:Ad):Prop:=a.name_.size<2^47
theorem Qm(a:Ad):0≤C1 a:=by
 unfold C1
 omega
def Xat(a:List Ad):Prop:=∀x∈a,Xex x
def Cr(a:List Ad):Int:=a.length+J7 (fun x=>C1 x) a
def O2(a:List Ad):Prop:=a.length<2^44∧∀x∈a,Zt x
theorem Ev(x:Ad):0≤C1 x:=Qm x
theorem D4(a:List Ad):0≤Cr a:=by
 have:=Cz (fun x=>C1 x) a (fun x _=>Ev x)
 unfold Cr
 omega
theorem M8(a:List Ad):(a.length:Int)≤Cr a:=by
 have:=Cz (fun x=>C1 x) a (fun x _=>Ev x)
 unfold Cr
 omega
def C6(a:List ByteArray):Int:=a.length+J7 (fun x=>(x.size:Int)) a
def Q8(a:List ByteArray):Prop:=a.length<2^44∧∀x∈a,x.size<2^47
theorem Fh(x:ByteArray):0≤(x.size:Int):=by omega
theorem Hc(a:List ByteArray):0≤C6 a:=by
 have:=Cz (fun x=>(x.size:Int)) a (fun x _=>Fh x)
 unfold C6
 omega
theorem Pz(a:List ByteArray):(a.length:Int)≤C6 a:=by
 have:=Cz (fun x=>(x.size:Int)) a (fun x _=>Fh x)
 unfold C6
 omega
structure Aa where
 nodes_:List Be
 entries_:List Ad
 old_:List Ad
 steps_:List ByteArray
 room_:Int
 next_:Int
def Xl9(a:Aa):List D:=[.row 3 (a.nodes_.map A8),.row 2 (a.entries_.map Ac),.row 2 (a.old_.map Ac),.row 1 (a.steps_.map cS),.sc (.int .i64 a.room_),.sc (.int .i64 a.next_)]
def XkM(a:Aa):Prop:=XhP a.nodes_∧Xat a.entries_∧Xat a.old_∧wfI a.room_∧wfI a.next_
def H3(a:Aa):Int:=D5 a.nodes_+Cr a.entries_+Cr a.old_+C6 a.steps_
def Xif(a:Aa):Prop:=Z1 a.nodes_∧O2 a.entries_∧O2 a.old_∧Q8 a.steps_
theorem Xg2(a:Aa):0≤H3 a:=by
 have:=I9 a.nodes_
 have:=D4 a.entries_
 have:=D4 a.old_
 have:=Hc a.steps_
 unfold H3
 omega
structure Qt where
 version_:Int
 stride_:Int
 roll_:Int
 base_:Int
 link_:Int
 offsets_:List Int
 end_:Int
 open_:Bool
 code_:Int
end
end Go.Proofs.YtgdmjbcllgmepaaGreatDoor.Ab
