/- What functions of the program come to, for all arguments in the given bounds. -/
import Derived.Test.YtgdmjbcllgmepaaGreatDoorProg
import Derived.Test.YtgdmjbcllgmepaaGreatDoorWlZ9
import Derived.KernelRfl
import Derived.Lib.LaidTab
set_option linter.unusedVariables false
set_option linter.unusedSimpArgs false
namespace Go.Proofs.YtgdmjbcllgmepaaGreatDoor.Ab
section
open Go Go.Proofs
set_option maxRecDepth 20000
theorem Xf6{w:World}{S:Nat→Prop}(h:Globs.ok w S):Lib.TabIs Tryz.prog w "math/bits.deBruijn64tab" .u8 O7:=(show _ from h.2.1).2
theorem Xge{w:World}{S:Nat→Prop}(h:Globs.ok w S):Lib.TabIs Tryz.prog w "internal/strconv.uint64pow10" .u64 Tk:=(show _ from h.2.2.1).2
theorem XfK{w:World}{S:Nat→Prop}(h:Globs.ok w S):G1 w 2:=(show _ from h.2.2.2.2).2
def tab:List (Nat×TyRow):=[
 (3,⟨.int .i64,some 1,some false,none,false,[.int .i64],[],some [(.int .i64 0,0)],none,none,none⟩),
 (4,⟨.bool,some 1,some false,none,false,[.bool],[],some [(.bool false,0)],none,none,none⟩),
 (5,⟨.int .u8,some 1,some false,none,false,[.int .u8],[],some [(.int .u8 0,0)],none,none,none⟩),
 (9,⟨.str,some 1,some false,none,false,[.str],[],some [(.string default,0)],none,none,none⟩),
 (23,⟨.other,some 4,some true,none,false,[.int .i64,.int .i64,.int .i64,.int .i64],[some (0,1,false),some (1,1,false),some (2,1,false),some (3,1,false)],some [(.int .i64 0,0),(.int .i64 0,0),(.int .i64 0,0),(.int .i64 0,0)],none,some [(0,1),(1,1),(2,1),(3,1)],some [.int,.int,.int,.int]⟩),
 (24,⟨.sl 3,some 1,some false,some (3,32),false,[.sl 3],[],some [(.slice none 0 0,3)],some ([.sc (.int .i64 0),.sc (.string default),.sc (.int .i64 0)],3,32),none,none⟩),
 (25,⟨.sl 2,some 1,some false,some (2,24),false,[.sl 2],[],some [(.slice none 0 0,2)],some ([.sc (.string default),.sc (.int .i64 0)],2,24),none,none⟩),
 (26,⟨.sl 1,some 1,some false,some (1,16),false,[.sl 1],[],some [(.slice none 0 0,1)],some ([.sc (.string default)],1,16),none,none⟩),
 (28,⟨.other,some 6,some true,none,false,[.sl 3,.sl 2,.sl 2,.sl 1,.int .i64,.int .i64],[some (0,1,false),some (1,1,false),some (2,1,false),some (3,1,false),some (4,1,false),some (5,1,false)],some [(.slice none 0 0,3),(.slice none 0 0,2),(.slice none 0 0,2),(.slice none 0 0,1),(.int .i64 0,0),(.int .i64 0,0)],none,some [(0,1),(1,1),(2,1),(3,1),(4,1),(5,1)],none⟩),
 (29,⟨.sl 1,some 1,some false,some (1,8),false,[.sl 1],[],some [(.slice none 0 0,1)],some ([.sc (.int .i64 0)],1,8),none,none⟩),
 (31,⟨.other,some 9,some true,none,false,[.int .i64,.int .i64,.int .i64,.int .i64,.int .i64,.sl 1,.int .i64,.bool,.int .i64],[some (0,1,false),some (1,1,false),some (2,1,false),some (3,1,false),some (4,1,false),some (5,1,false),some (6,1,false),some (7,1,false),some (8,1,false)],some [(.int .i64 0,0),(.int .i64 0,0),(.int .i64 0,0),(.int .i64 0,0),(.int .i64 0,0),(.slice none 0 0,1),(.int .i64 0,0),(.bool false,0),(.int .i64 0,0)],none,some [(0,1),(1,1),(2,1),(3,1),(4,1),(5,1),(6,1),(7,1),(8,1)],none⟩),
 (33,⟨.other,some 22,some true,none,false,[.int .i64,.int .i64,.int .i64,.int .i64,.sl 3,.sl 2,.sl 2,.sl 1,.int .i64,.int .i64,.int .i64,.int .i64,.int .i64,.int .i64,.int .i64,.sl 1,.int .i64,.bool,.int .i64,.sl 1,.int .i64,.int .i64],[some (0,4,true),some (4,6,true),some (10,9,true),some (19,1,false),some (20,1,false),some (21,1,false)],some [(.int .i64 0,0),(.int .i64 0,0),(.int .i64 0,0),(.int .i64 0,0),(.slice none 0 0,3),(.slice none 0 0,2),(.slice none 0 0,2),(.slice none 0 0,1),(.int .i64 0,0),(.int .i64 0,0),(.int .i64 0,0),(.int .i64 0,0),(.int .i64 0,0),(.int .i64 0,0),(.int .i64 0,0),(.slice none 0 0,1),(.int .i64 0,0),(.bool false,0),(.int .i64 0,0),(.slice none 0 0,1),(.int .i64 0,0),(.int .i64 0,0)],none,some [(0,4),(4,6),(10,9),(19,1),(20,1),(21,1)],none⟩),
 (36,⟨.other,some 4,some true,none,false,[.int .i64,.int .i64,.int .i64,.int .i64],[some (0,1,false),some (1,1,false),some (2,1,false),some (3,1,false)],some [(.int .i64 0,0),(.int .i64 0,0),(.int .i64 0,0),(.int .i64 0,0)],none,some [(0,1),(1,1),(2,1),(3,1)],some [.int,.int,.int,.int]⟩),
 (37,⟨.sl 3,some 1,some false,some (3,32),false,[.sl 3],[],some [(.slice none 0 0,3)],some ([.sc (.int .i64 0),.sc (.string default),.sc (.int .i64 0)],3,32),none,none⟩),
 (38,⟨.sl 2,some 1,some false,some (2,24),false,[.sl 2],[],some [(.slice none 0 0,2)],some ([.sc (.string default),.sc (.int .i64 0)],2,24),none,none⟩),
 (40,⟨.other,some 6,some true,none,false,[.sl 3,.sl 2,.sl 2,.sl 1,.int .i64,.int .i64],[some (0,1,false),some (1,1,false),some (2,1,false),some (3,1,false),some (4,1,false),some (5,1,false)],some [(.slice none 0 0,3),(.slice none 0 0,2),(.slice none 0 0,2),(.slice none 0 0,1),(.int .i64 0,0),(.int .i64 0,0)],none,some [(0,1),(1,1),(2,1),(3,1),(4,1),(5,1)],none⟩),
 (41,⟨.other,some 9,some true,none,false,[.int .i64,.int .i64,.int .i64,.int .i64,.int .i64,.sl 1,.int .i64,.bool,.int .i64],[some (0,1,false),some (1,1,false),some (2,1,false),some (3,1,false),some (4,1,false),some (5,1,false),some (6,1,false),some (7,1,false),some (8,1,false)],some [(.int .i64 0,0),(.int .i64 0,0),(.int .i64 0,0),(.int .i64 0,0),(.int .i64 0,0),(.slice none 0 0,1),(.int .i64 0,0),(.bool false,0),(.int .i64 0,0)],none,some [(0,1),(1,1),(2,1),(3,1),(4,1),(5,1),(6,1),(7,1),(8,1)],none⟩),
 (43,⟨.other,some 22,some true,none,false,[.int .i64,.int .i64,.int .i64,.int .i64,.sl 3,.sl 2,.sl 2,.sl 1,.int .i64,.int .i64,.int .i64,.int .i64,.int .i64,.int .i64,.int .i64,.sl 1,.int .i64,.bool,.int .i64,.sl 1,.int .i64,.int .i64],[some (0,4,true),some (4,6,true),some (10,9,true),some (19,1,false),some (20,1,false),some (21,1,false)],some [(.int .i64 0,0),(.int .i64 0,0),(.int .i64 0,0),(.int .i64 0,0),(.slice none 0 0,3),(.slice none 0 0,2),(.slice none 0 0,2),(.slice none 0 0,1),(.int .i64 0,0),(.int .i64 0,0),(.int .i64 0,0),(.int .i64 0,0),(.int .i64 0,0),(.int .i64 0,0),(.int .i64 0,0),(.slice none 0 0,1),(.int .i64 0,0),(.bool false,0),(.int .i64 0,0),(.slice none 0 0,1),(.int .i64 0,0),(.int .i64 0,0)],none,some [(0,4),(4,6),(10,9),(19,1),(20,1),(21,1)],none⟩),
 (78,⟨.sl 2,some 1,some false,some (2,24),false,[.sl 2],[],some [(.slice none 0 0,2)],some ([.sc (.string default),.sc (.int .i64 0)],2,24),none,none⟩),
 (103,⟨.other,some 4,some true,none,false,[.int .i64,.int .i64,.int .i64,.int .i64],[some (0,1,false),some (1,1,false),some (2,1,false),some (3,1,false)],some [(.int .i64 0,0),(.int .i64 0,0),(.int .i64 0,0),(.int .i64 0,0)],none,some [(0,1),(1,1),(2,1),(3,1)],some [.int,.int,.int,.int]⟩),
 (106,⟨.sl 4,some 1,some false,some (4,56),false,[.sl 4],[],some [(.slice none 0 0,4)],some ([.sc (.int .i64 0),.sc (.string default),.sc (.string default),.sc (.string default)],4,56),none,none⟩),
 (112,⟨.sl 11,some 1,some false,some (11,128),false,[.sl 11],[],some [(.slice none 0 0,11)],some ([.sc (.int .i64 0),.sc (.string default),.sc (.bool false),.sc (.int .i64 0),.sc (.int .i64 0),.sc (.int .i64 0),.sc (.int .i64 0),.row 1 [],.row 1 [],.sc (.int .i64 0),.sc (.bool false)],11,128),none,none⟩),
 (115,⟨.other,some 9,some true,none,false,[.bool,.int .i64,.int .i64,.int .i64,.int .i64,.sl 1,.sl 1,.int .i64,.bool],[some (0,1,false),some (1,4,true),some (5,1,false),some (6,1,false),some (7,1,false),some (8,1,false)],some [(.bool false,0),(.int .i64 0,0),(.int .i64 0,0),(.int .i64 0,0),(.int .i64 0,0),(.slice none 0 0,1),(.slice none 0 0,1),(.int .i64 0,0),(.bool false,0)],none,some [(0,1),(1,4),(5,1),(6,1),(7,1),(8,1)],none⟩),
 (117,⟨.other,some 11,some true,none,false,[.int .i64,.str,.bool,.int .i64,.int .i64,.int .i64,.int .i64,.sl 1,.sl 1,.int .i64,.bool],[some (0,1,false),some (1,1,false),some (2,9,true)],some [(.int .i64 0,0),(.string default,0),(.bool false,0),(.int .i64 0,0),(.int .i64 0,0),(.int .i64 0,0),(.int .i64 0,0),(.slice none 0 0,1),(.slice none 0 0,1),(.int .i64 0,0),(.bool false,0)],none,some [(0,1),(1,1),(2,9)],none⟩),
 (129,⟨.other,some 3,some true,none,false,[.int .i64,.str,.int .i64],[some (0,1,false),some (1,1,false),some (2,1,false)],some [(.int .i64 0,0),(.string default,0),(.int .i64 0,0)],none,some [(0,1),(1,1),(2,1)],some [.int,.str,.int]⟩),
 (133,⟨.other,some 2,some true,none,false,[.str,.int .i64],[some (0,1,false),some (1,1,false)],some [(.string default,0),(.int .i64 0,0)],none,some [(0,1),(1,1)],some [.str,.int]⟩),
 (135,⟨.sl 1,some 1,some false,some (1,1),true,[.sl 1],[],some [(.slice none 0 0,1)],some ([.sc (.int .u8 0)],1,1),none,none⟩),
 (140,⟨.other,some 2,some true,none,false,[.str,.int .i64],[some (0,1,false),some (1,1,false)],some [(.string default,0),(.int .i64 0,0)],none,some [(0,1),(1,1)],some [.str,.int]⟩),
 (168,⟨.other,some 3,some true,none,false,[.int .i64,.str,.int .i64],[some (0,1,false),some (1,1,false),some (2,1,false)],some [(.int .i64 0,0),(.string default,0),(.int .i64 0,0)],none,some [(0,1),(1,1),(2,1)],some [.int,.str,.int]⟩),
 (170,⟨.other,some 2,some true,none,false,[.str,.int .i64],[some (0,1,false),some (1,1,false)],some [(.string default,0),(.int .i64 0,0)],none,some [(0,1),(1,1)],some [.str,.int]⟩),
 (177,⟨.other,some 4,some true,none,false,[.int .i64,.str,.str,.str],[some (0,1,false),some (1,1,false),some (2,1,false),some (3,1,false)],some [(.int .i64 0,0),(.string default,0),(.string default,0),(.string default,0)],none,some [(0,1),(1,1),(2,1),(3,1)],some [.int,.str,.str,.str]⟩),
 (228,⟨.int .u64,some 1,some false,none,false,[.int .u64],[],some [(.int .u64 0,0)],none,none,none⟩),
 (232,⟨.sl 2,some 1,some false,some (2,16),false,[.sl 2],[],some [(.slice none 0 0,2)],some ([.sc (.int .i64 0),.sc (.int .i64 0)],2,16),none,none⟩),
 (253,⟨.other,some 2,some true,none,false,[.int .i64,.int .i64],[some (0,1,false),some (1,1,false)],some [(.int .i64 0,0),(.int .i64 0,0)],none,some [(0,1),(1,1)],some [.int,.int]⟩),
 (260,⟨.int .u32,some 1,some false,none,false,[.int .u32],[],some [(.int .u32 0,0)],none,none,none⟩)
]
theorem A6:Ck Tryz.prog tab:=Ck.of (by kernel_rfl)
theorem mixed:Tryz.prog.follows .mixedOrders=true:=by kernel_rfl
set_option maxRecDepth 20000
structure Po where
 room_:Int
 version_:Int
 stride_:Int
 roll_:Int
def XaA(a:Po):List D:=[.sc (.int .i64 a.room_),.sc (.int .i64 a.version_),.sc (.int .i64 a.stride_),.sc (.int .i64 a.roll_)]
def W9(a:Po):Prop:=wfI a.room_∧wfI a.version_∧wfI a.stride_∧wfI a.roll_
structure Cm where
 id_:Int
 text_:ByteArray
 sure_:Int
def Cs(a:Cm):List D:=[.sc (.int .i64 a.id_),.sc (.string a.text_),.sc (.int .i64 a.sure_)]
def Xdg(a:Cm):Prop:=wfI a.id_∧wfI a.sure_
def Cx(a:Cm):Int:=(a.text_.size:Int)
def Xa0(a:Cm):Prop:=a.text_.size<2^47
theorem Tl(a:Cm):0≤Cx a:=by
 unfold Cx
 omega
def Xde(a:List Cm):Prop:=∀x∈a,Xdg x
def Ct(a:List Cm):Int:=a.length+G8 (fun x=>Cx x) a
def U7(a:List Cm):Prop:=a.length<2^44∧∀x∈a,Xa0 x
theorem D9(x:Cm):0≤Cx x:=Tl x
theorem Es(a:List Cm):0≤Ct a:=by
 have:=Bx (fun x=>Cx x) a (fun x _=>D9 x)
 unfold Ct
 omega
theorem K9(a:List Cm):(a.length:Int)≤Ct a:=by
 have:=Bx (fun x=>Cx x) a (fun x _=>D9 x)
 unfold Ct
 omega
structure A3 where
 name_:ByteArray
 id_:Int
def A2(a:A3):List D:=[.sc (.string a.name_),.sc (.int .i64 a.id_)]
def Y9(a:A3):Prop:=wfI a.id_
def B5(a:A3):Int:=(a.name_.size:Int)
def Ur(a:A3):Prop:=a.name_.size<2^47
theorem Qq(a:A3):0≤B5 a:=by
 unfold B5
 omega
def Uh(a:List A3):Prop:=∀x∈a,Y9 x
def A5(a:List A3):Int:=a.length+G8 (fun x=>B5 x) a
def Lr(a:List A3):Prop:=a.length<2^44∧∀x∈a,Ur x
theorem Dk(x:A3):0≤B5 x:=Qq x
theorem B7(a:List A3):0≤A5 a:=by
 have:=Bx (fun x=>B5 x) a (fun x _=>Dk x)
 unfold A5
 omega
theorem Ew(a:List A3):(a.length:Int)≤A5 a:=by
 have:=Bx (fun x=>B5 x) a (fun x _=>Dk x)
 unfold A5
 omega
def Ay(a:List ByteArray):Int:=a.length+G8 (fun x=>(x.size:Int)) a
def Jk(a:List ByteArray):Prop:=a.length<2^44∧∀x∈a,x.size<2^47
theorem D8(x:ByteArray):0≤(x.size:Int):=by omega
theorem B9(a:List ByteArray):0≤Ay a:=by
 have:=Bx (fun x=>(x.size:Int)) a (fun x _=>D8 x)
 unfold Ay
 omega
theorem E4(a:List ByteArray):(a.length:Int)≤Ay a:=by
 have:=Bx (fun x=>(x.size:Int)) a (fun x _=>D8 x)
 unfold Ay
 omega
structure As where
 nodes_:List Cm
 entries_:List A3
 old_:List A3
 steps_:List ByteArray
 room_:Int
 next_:Int
def Xhv(a:As):List D:=[.row 3 (a.nodes_.map Cs),.row 2 (a.entries_.map A2),.row 2 (a.old_.map A2),.row 1 (a.steps_.map cS),.sc (.int .i64 a.room_),.sc (.int .i64 a.next_)]
def Xdm(a:As):Prop:=Xde a.nodes_∧Uh a.entries_∧Uh a.old_∧wfI a.room_∧wfI a.next_
def Dw(a:As):Int:=Ct a.nodes_+A5 a.entries_+A5 a.old_+Ay a.steps_
def Xbb(a:As):Prop:=U7 a.nodes_∧Lr a.entries_∧Lr a.old_∧Jk a.steps_
theorem G6(a:As):0≤Dw a:=by
 have:=Es a.nodes_
 have:=B7 a.entries_
 have:=B7 a.old_
 have:=B9 a.steps_
 unfold Dw
 omega
def Xff(a:List Int):Prop:=∀x∈a,wfI x
def D2(a:List Int):Int:=a.length
def Xbg(a:List Int):Prop:=a.length<2^44
theorem Gv(a:List Int):0≤D2 a:=by unfold D2;omega
theorem Q5(a:List Int):(a.length:Int)≤D2 a:=by unfold D2;omega
structure C0 where
 version_:Int
 stride_:Int
 roll_:Int
 base_:Int
 link_:Int
 offsets_:List Int
 end_:Int
 open_:Bool
 code_:Int
def Xdd(a:C0):List D:=[.sc (.int .i64 a.version_),.sc (.int .i64 a.stride_),.sc (.int .i64 a.roll_),.sc (.int .i64 a.base_),.sc (.int .i64 a.link_),.row 1 (a.offsets_.map cI),.sc (.int .i64 a.end_),.sc (.bool a.open_),.sc (.int .i64 a.code_)]
def Xao(a:C0):Prop:=wfI a.version_∧wfI a.stride_∧wfI a.roll_∧wfI a.base_∧wfI a.link_∧Xff a.offsets_∧wfI a.end_∧wfI a.code_
def C7(a:C0):Int:=D2 a.offsets_
def Px(a:C0):Prop:=Xbg a.offsets_
theorem Fi(a:C0):0≤C7 a:=by
 have:=Gv a.offsets_
 unfold C7
 omega
structure Gc where
 set_:Po
 disk_:As
 writer_:C0
 told_:List ByteArray
 sure_:Int
 falls_:Int
def Xfg(a:Gc):List D:=XaA a.set_++Xhv a.disk_++Xdd a.writer_++[.row 1 (a.told_.map cS),.sc (.int .i64 a.sure_),.sc (.int .i64 a.falls_)]
def Mu(a:Gc):Prop:=W9 a.set_∧Xdm a.disk_∧Xao a.writer_∧wfI a.sure_∧wfI a.falls_
def D4(a:Gc):Int:=Dw a.disk_+C7 a.writer_+Ay a.told_
def Zo(a:Gc):Prop:=Xbb a.disk_∧Px a.writer_∧Jk a.told_
theorem Yz(a:Gc):0≤D4 a:=by
 have:=G6 a.disk_
 have:=Fi a.writer_
 have:=B9 a.told_
 unfold D4
 omega
end
end Go.Proofs.YtgdmjbcllgmepaaGreatDoor.Ab
