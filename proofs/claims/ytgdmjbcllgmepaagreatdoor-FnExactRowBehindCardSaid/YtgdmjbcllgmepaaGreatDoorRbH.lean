/- What functions of the program come to, for all arguments in the given bounds. -/
import Derived.Test.YtgdmjbcllgmepaaGreatDoorProg
import Derived.Test.YtgdmjbcllgmepaaGreatDoorRbZ9
import Derived.KernelRfl
import Derived.Lib.LaidTab
set_option linter.unusedVariables false
set_option linter.unusedSimpArgs false
namespace Go.Proofs.YtgdmjbcllgmepaaGreatDoor.Ab
section
open Go Go.Proofs
set_option maxRecDepth 20000
theorem Xlx{w:World}{S:Nat→Prop}(h:Globs.ok w S):Lib.TabIs Tryz.prog w "math/bits.deBruijn64tab" .u8 Ti:=(show _ from h.2.1).2
theorem Xll{w:World}{S:Nat→Prop}(h:Globs.ok w S):Lib.TabIs Tryz.prog w "internal/strconv.uint64pow10" .u64 Xw:=(show _ from h.2.2.1).2
theorem Xli{w:World}{S:Nat→Prop}(h:Globs.ok w S):G4 w 3:=(show _ from h.2.2.2.1).2
theorem Xh2{w:World}{S:Nat→Prop}(h:Globs.ok w S):G4 w 2:=(show _ from h.2.2.2.2).2
def tab:List (Nat×TyRow):=[
 (3,⟨.int .i64,some 1,some false,none,false,[.int .i64],[],some [(.int .i64 0,0)],none,none,none⟩),
 (4,⟨.bool,some 1,some false,none,false,[.bool],[],some [(.bool false,0)],none,none,none⟩),
 (5,⟨.int .u8,some 1,some false,none,false,[.int .u8],[],some [(.int .u8 0,0)],none,none,none⟩),
 (9,⟨.str,some 1,some false,none,false,[.str],[],some [(.string default,0)],none,none,none⟩),
 (23,⟨.other,some 4,some true,none,false,[.int .i64,.int .i64,.int .i64,.int .i64],[some (0,1,false),some (1,1,false),some (2,1,false),some (3,1,false)],some [(.int .i64 0,0),(.int .i64 0,0),(.int .i64 0,0),(.int .i64 0,0)],none,some [(0,1),(1,1),(2,1),(3,1)],some [.int,.int,.int,.int]⟩),
 (24,⟨.sl 3,some 1,some false,some (3,32),false,[.sl 3],[],some [(.slice none 0 0,3)],some ([.sc (.int .i64 0),.sc (.string default),.sc (.int .i64 0)],3,32),none,none⟩),
 (25,⟨.sl 2,some 1,some false,some (2,24),false,[.sl 2],[],some [(.slice none 0 0,2)],some ([.sc (.string default),.sc (.int .i64 0)],2,24),none,none⟩),
 (26,⟨.sl 1,some 1,some false,some (1,16),false,[.sl 1],[],some [(.slice none 0 0,1)],some ([.sc (.string default)],1,16),none,none⟩),
 (28,⟨.other,some 6,some true,none,false,[.sl 3,.sl 2,.sl 2,.sl 1,.int .i64,.int .i64],[some (0,1,false),some (1,1,false),some (2,1,false),some (3,1,false),some (4,1,false),some (5,1,false)],some [(.slice none 0 0,3),(.slice none 0 0,2),(.slice none 0 0,2),(.slice none 0 0,1),(.int .i64 0,0),(.int .i64 0,0)],none,some [(0,1),(1,1),(2,1),(3,1),(4,1),(5,1)],none⟩),
 (29,⟨.sl 1,some 1,some false,some (1,8),false,[.sl 1],[],some [(.slice none 0 0,1)],some ([.sc (.int .i64 0)],1,8),none,none⟩),
 (31,⟨.other,some 9,some true,none,false,[.int .i64,.int .i64,.int .i64,.int .i64,.int .i64,.sl 1,.int .i64,.bool,.int .i64],[some (0,1,false),some (1,1,false),some (2,1,false),some (3,1,false),some (4,1,false),some (5,1,false),some (6,1,false),some (7,1,false),some (8,1,false)],some [(.int .i64 0,0),(.int .i64 0,0),(.int .i64 0,0),(.int .i64 0,0),(.int .i64 0,0),(.slice none 0 0,1),(.int .i64 0,0),(.bool false,0),(.int .i64 0,0)],none,some [(0,1),(1,1),(2,1),(3,1),(4,1),(5,1),(6,1),(7,1),(8,1)],none⟩),
 (33,⟨.other,some 22,some true,none,false,[.int .i64,.int .i64,.int .i64,.int .i64,.sl 3,.sl 2,.sl 2,.sl 1,.int .i64,.int .i64,.int .i64,.int .i64,.int .i64,.int .i64,.int .i64,.sl 1,.int .i64,.bool,.int .i64,.sl 1,.int .i64,.int .i64],[some (0,4,true),some (4,6,true),some (10,9,true),some (19,1,false),some (20,1,false),some (21,1,false)],some [(.int .i64 0,0),(.int .i64 0,0),(.int .i64 0,0),(.int .i64 0,0),(.slice none 0 0,3),(.slice none 0 0,2),(.slice none 0 0,2),(.slice none 0 0,1),(.int .i64 0,0),(.int .i64 0,0),(.int .i64 0,0),(.int .i64 0,0),(.int .i64 0,0),(.int .i64 0,0),(.int .i64 0,0),(.slice none 0 0,1),(.int .i64 0,0),(.bool false,0),(.int .i64 0,0),(.slice none 0 0,1),(.int .i64 0,0),(.int .i64 0,0)],none,some [(0,4),(4,6),(10,9),(19,1),(20,1),(21,1)],none⟩),
 (36,⟨.other,some 4,some true,none,false,[.int .i64,.int .i64,.int .i64,.int .i64],[some (0,1,false),some (1,1,false),some (2,1,false),some (3,1,false)],some [(.int .i64 0,0),(.int .i64 0,0),(.int .i64 0,0),(.int .i64 0,0)],none,some [(0,1),(1,1),(2,1),(3,1)],some [.int,.int,.int,.int]⟩),
 (37,⟨.sl 3,some 1,some false,some (3,32),false,[.sl 3],[],some [(.slice none 0 0,3)],some ([.sc (.int .i64 0),.sc (.string default),.sc (.int .i64 0)],3,32),none,none⟩),
 (38,⟨.sl 2,some 1,some false,some (2,24),false,[.sl 2],[],some [(.slice none 0 0,2)],some ([.sc (.string default),.sc (.int .i64 0)],2,24),none,none⟩),
 (40,⟨.other,some 6,some true,none,false,[.sl 3,.sl 2,.sl 2,.sl 1,.int .i64,.int .i64],[some (0,1,false),some (1,1,false),some (2,1,false),some (3,1,false),some (4,1,false),some (5,1,false)],some [(.slice none 0 0,3),(.slice none 0 0,2),(.slice none 0 0,2),(.slice none 0 0,1),(.int .i64 0,0),(.int .i64 0,0)],none,some [(0,1),(1,1),(2,1),(3,1),(4,1),(5,1)],none⟩),
 (41,⟨.other,some 9,some true,none,false,[.int .i64,.int .i64,.int .i64,.int .i64,.int .i64,.sl 1,.int .i64,.bool,.int .i64],[some (0,1,false),some (1,1,false),some (2,1,false),some (3,1,false),some (4,1,false),some (5,1,false),some (6,1,false),some (7,1,false),some (8,1,false)],some [(.int .i64 0,0),(.int .i64 0,0),(.int .i64 0,0),(.int .i64 0,0),(.int .i64 0,0),(.slice none 0 0,1),(.int .i64 0,0),(.bool false,0),(.int .i64 0,0)],none,some [(0,1),(1,1),(2,1),(3,1),(4,1),(5,1),(6,1),(7,1),(8,1)],none⟩),
 (43,⟨.other,some 22,some true,none,false,[.int .i64,.int .i64,.int .i64,.int .i64,.sl 3,.sl 2,.sl 2,.sl 1,.int .i64,.int .i64,.int .i64,.int .i64,.int .i64,.int .i64,.int .i64,.sl 1,.int .i64,.bool,.int .i64,.sl 1,.int .i64,.int .i64],[some (0,4,true),some (4,6,true),some (10,9,true),some (19,1,false),some (20,1,false),some (21,1,false)],some [(.int .i64 0,0),(.int .i64 0,0),(.int .i64 0,0),(.int .i64 0,0),(.slice none 0 0,3),(.slice none 0 0,2),(.slice none 0 0,2),(.slice none 0 0,1),(.int .i64 0,0),(.int .i64 0,0),(.int .i64 0,0),(.int .i64 0,0),(.int .i64 0,0),(.int .i64 0,0),(.int .i64 0,0),(.slice none 0 0,1),(.int .i64 0,0),(.bool false,0),(.int .i64 0,0),(.slice none 0 0,1),(.int .i64 0,0),(.int .i64 0,0)],none,some [(0,4),(4,6),(10,9),(19,1),(20,1),(21,1)],none⟩),
 (78,⟨.sl 2,some 1,some false,some (2,24),false,[.sl 2],[],some [(.slice none 0 0,2)],some ([.sc (.string default),.sc (.int .i64 0)],2,24),none,none⟩),
 (103,⟨.other,some 4,some true,none,false,[.int .i64,.int .i64,.int .i64,.int .i64],[some (0,1,false),some (1,1,false),some (2,1,false),some (3,1,false)],some [(.int .i64 0,0),(.int .i64 0,0),(.int .i64 0,0),(.int .i64 0,0)],none,some [(0,1),(1,1),(2,1),(3,1)],some [.int,.int,.int,.int]⟩),
 (106,⟨.sl 4,some 1,some false,some (4,56),false,[.sl 4],[],some [(.slice none 0 0,4)],some ([.sc (.int .i64 0),.sc (.string default),.sc (.string default),.sc (.string default)],4,56),none,none⟩),
 (112,⟨.sl 11,some 1,some false,some (11,128),false,[.sl 11],[],some [(.slice none 0 0,11)],some ([.sc (.int .i64 0),.sc (.string default),.sc (.bool false),.sc (.int .i64 0),.sc (.int .i64 0),.sc (.int .i64 0),.sc (.int .i64 0),.row 1 [],.row 1 [],.sc (.int .i64 0),.sc (.bool false)],11,128),none,none⟩),
 (115,⟨.other,some 9,some true,none,false,[.bool,.int .i64,.int .i64,.int .i64,.int .i64,.sl 1,.sl 1,.int .i64,.bool],[some (0,1,false),some (1,4,true),some (5,1,false),some (6,1,false),some (7,1,false),some (8,1,false)],some [(.bool false,0),(.int .i64 0,0),(.int .i64 0,0),(.int .i64 0,0),(.int .i64 0,0),(.slice none 0 0,1),(.slice none 0 0,1),(.int .i64 0,0),(.bool false,0)],none,some [(0,1),(1,4),(5,1),(6,1),(7,1),(8,1)],none⟩),
 (117,⟨.other,some 11,some true,none,false,[.int .i64,.str,.bool,.int .i64,.int .i64,.int .i64,.int .i64,.sl 1,.sl 1,.int .i64,.bool],[some (0,1,false),some (1,1,false),some (2,9,true)],some [(.int .i64 0,0),(.string default,0),(.bool false,0),(.int .i64 0,0),(.int .i64 0,0),(.int .i64 0,0),(.int .i64 0,0),(.slice none 0 0,1),(.slice none 0 0,1),(.int .i64 0,0),(.bool false,0)],none,some [(0,1),(1,1),(2,9)],none⟩),
 (129,⟨.other,some 3,some true,none,false,[.int .i64,.str,.int .i64],[some (0,1,false),some (1,1,false),some (2,1,false)],some [(.int .i64 0,0),(.string default,0),(.int .i64 0,0)],none,some [(0,1),(1,1),(2,1)],some [.int,.str,.int]⟩),
 (133,⟨.other,some 2,some true,none,false,[.str,.int .i64],[some (0,1,false),some (1,1,false)],some [(.string default,0),(.int .i64 0,0)],none,some [(0,1),(1,1)],some [.str,.int]⟩),
 (135,⟨.sl 1,some 1,some false,some (1,1),true,[.sl 1],[],some [(.slice none 0 0,1)],some ([.sc (.int .u8 0)],1,1),none,none⟩),
 (140,⟨.other,some 2,some true,none,false,[.str,.int .i64],[some (0,1,false),some (1,1,false)],some [(.string default,0),(.int .i64 0,0)],none,some [(0,1),(1,1)],some [.str,.int]⟩),
 (168,⟨.other,some 3,some true,none,false,[.int .i64,.str,.int .i64],[some (0,1,false),some (1,1,false),some (2,1,false)],some [(.int .i64 0,0),(.string default,0),(.int .i64 0,0)],none,some [(0,1),(1,1),(2,1)],some [.int,.str,.int]⟩),
 (170,⟨.other,some 2,some true,none,false,[.str,.int .i64],[some (0,1,false),some (1,1,false)],some [(.string default,0),(.int .i64 0,0)],none,some [(0,1),(1,1)],some [.str,.int]⟩),
 (177,⟨.other,some 4,some true,none,false,[.int .i64,.str,.str,.str],[some (0,1,false),some (1,1,false),some (2,1,false),some (3,1,false)],some [(.int .i64 0,0),(.string default,0),(.string default,0),(.string default,0)],none,some [(0,1),(1,1),(2,1),(3,1)],some [.int,.str,.str,.str]⟩),
 (228,⟨.int .u64,some 1,some false,none,false,[.int .u64],[],some [(.int .u64 0,0)],none,none,none⟩),
 (232,⟨.sl 2,some 1,some false,some (2,16),false,[.sl 2],[],some [(.slice none 0 0,2)],some ([.sc (.int .i64 0),.sc (.int .i64 0)],2,16),none,none⟩),
 (253,⟨.other,some 2,some true,none,false,[.int .i64,.int .i64],[some (0,1,false),some (1,1,false)],some [(.int .i64 0,0),(.int .i64 0,0)],none,some [(0,1),(1,1)],some [.int,.int]⟩),
 (260,⟨.int .u32,some 1,some false,none,false,[.int .u32],[],some [(.int .u32 0,0)],none,none,none⟩)
]
theorem Cx:B9 Tryz.prog tab:=B9.of (by kernel_rfl)
theorem mixed:Tryz.prog.follows .mixedOrders=true:=by kernel_rfl
set_option maxRecDepth 20000
structure Bk where
 id_:Int
 text_:ByteArray
 sure_:Int
def Bg(a:Bk):List D:=[.sc (.int .i64 a.id_),.sc (.string a.text_),.sc (.int .i64 a.sure_)]
def Xhn(a:Bk):Prop:=wfI a.id_∧wfI a.sure_
def Du(a:Bk):Int:=(a.text_.size:Int)
def XeY(a:Bk):Prop:=a.text_.size<2^47
theorem X7(a:Bk):0≤Du a:=by
 unfold Du
 omega
def XiE(a:List Bk):Prop:=∀x∈a,Xhn x
def Dr(a:List Bk):Int:=a.length+Jk (fun x=>Du x) a
def Z8(a:List Bk):Prop:=a.length<2^44∧∀x∈a,XeY x
theorem Fi(x:Bk):0≤Du x:=X7 x
theorem Gn(a:List Bk):0≤Dr a:=by
 have:=Cu (fun x=>Du x) a (fun x _=>Fi x)
 unfold Dr
 omega
theorem Te(a:List Bk):(a.length:Int)≤Dr a:=by
 have:=Cu (fun x=>Du x) a (fun x _=>Fi x)
 unfold Dr
 omega
structure Ad where
 name_:ByteArray
 id_:Int
def Ac(a:Ad):List D:=[.sc (.string a.name_),.sc (.int .i64 a.id_)]
def XdV(a:Ad):Prop:=wfI a.id_
def Cy(a:Ad):Int:=(a.name_.size:Int)
def Z6(a:Ad):Prop:=a.name_.size<2^47
theorem Qp(a:Ad):0≤Cy a:=by
 unfold Cy
 omega
def Zb(a:List Ad):Prop:=∀x∈a,XdV x
def Cb(a:List Ad):Int:=a.length+Jk (fun x=>Cy x) a
def O2(a:List Ad):Prop:=a.length<2^44∧∀x∈a,Z6 x
theorem Ep(x:Ad):0≤Cy x:=Qp x
theorem Dd(a:List Ad):0≤Cb a:=by
 have:=Cu (fun x=>Cy x) a (fun x _=>Ep x)
 unfold Cb
 omega
theorem H8(a:List Ad):(a.length:Int)≤Cb a:=by
 have:=Cu (fun x=>Cy x) a (fun x _=>Ep x)
 unfold Cb
 omega
def Cw(a:List ByteArray):Int:=a.length+Jk (fun x=>(x.size:Int)) a
def Rf(a:List ByteArray):Prop:=a.length<2^44∧∀x∈a,x.size<2^47
theorem Ff(x:ByteArray):0≤(x.size:Int):=by omega
theorem Fd(a:List ByteArray):0≤Cw a:=by
 have:=Cu (fun x=>(x.size:Int)) a (fun x _=>Ff x)
 unfold Cw
 omega
theorem Lq(a:List ByteArray):(a.length:Int)≤Cw a:=by
 have:=Cu (fun x=>(x.size:Int)) a (fun x _=>Ff x)
 unfold Cw
 omega
structure Aa where
 nodes_:List Bk
 entries_:List Ad
 old_:List Ad
 steps_:List ByteArray
 room_:Int
 next_:Int
def XlN(a:Aa):List D:=[.row 3 (a.nodes_.map Bg),.row 2 (a.entries_.map Ac),.row 2 (a.old_.map Ac),.row 1 (a.steps_.map cS),.sc (.int .i64 a.room_),.sc (.int .i64 a.next_)]
def Yi(a:Aa):Prop:=XiE a.nodes_∧Zb a.entries_∧Zb a.old_∧wfI a.room_∧wfI a.next_
def Fy(a:Aa):Int:=Dr a.nodes_+Cb a.entries_+Cb a.old_+Cw a.steps_
def XiV(a:Aa):Prop:=Z8 a.nodes_∧O2 a.entries_∧O2 a.old_∧Rf a.steps_
theorem Xgn(a:Aa):0≤Fy a:=by
 have:=Gn a.nodes_
 have:=Dd a.entries_
 have:=Dd a.old_
 have:=Fd a.steps_
 unfold Fy
 omega
def Sh(a:List Int):Int:=a.length
theorem Xeb(a:List Int):(a.length:Int)≤Sh a:=by unfold Sh;omega
structure P6 where
 version_:Int
 stride_:Int
 roll_:Int
 base_:Int
 link_:Int
 offsets_:List Int
 end_:Int
 open_:Bool
 code_:Int
end
end Go.Proofs.YtgdmjbcllgmepaaGreatDoor.Ab
