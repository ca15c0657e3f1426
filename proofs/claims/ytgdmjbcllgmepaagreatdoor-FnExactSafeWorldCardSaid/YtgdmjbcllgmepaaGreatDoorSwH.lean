/- What functions of the program come to, for all arguments in the given bounds. -/
import Derived.Test.YtgdmjbcllgmepaaGreatDoorProg
import Derived.Test.YtgdmjbcllgmepaaGreatDoorSwZ9
import Derived.KernelRfl
import Derived.Lib.LaidTab
set_option linter.unusedVariables false
set_option linter.unusedSimpArgs false
namespace Go.Proofs.YtgdmjbcllgmepaaGreatDoor.Ab
section
open Go Go.Proofs
set_option maxRecDepth 20000
theorem XfV{w:World}{S:Nat→Prop}(h:Globs.ok w S):Lib.TabIs Tryz.prog w "math/bits.deBruijn64tab" .u8 Ou:=(show _ from h.2.1).2
theorem Xgu{w:World}{S:Nat→Prop}(h:Globs.ok w S):Lib.TabIs Tryz.prog w "internal/strconv.uint64pow10" .u64 Tk:=(show _ from h.2.2.1).2
theorem Xf0{w:World}{S:Nat→Prop}(h:Globs.ok w S):Gs w 3:=(show _ from h.2.2.2.1).2
theorem Xf9{w:World}{S:Nat→Prop}(h:Globs.ok w S):Gs w 2:=(show _ from h.2.2.2.2).2
def tab:List (Nat×TyRow):=[
 (3,⟨.int .i64,some 1,some false,none,false,[.int .i64],[],some [(.int .i64 0,0)],none,none,none⟩),
 (4,⟨.bool,some 1,some false,none,false,[.bool],[],some [(.bool false,0)],none,none,none⟩),
 (5,⟨.int .u8,some 1,some false,none,false,[.int .u8],[],some [(.int .u8 0,0)],none,none,none⟩),
 (9,⟨.str,some 1,some false,none,false,[.str],[],some [(.string default,0)],none,none,none⟩),
 (23,⟨.other,some 4,some true,none,false,[.int .i64,.int .i64,.int .i64,.int .i64],[some (0,1,false),some (1,1,false),some (2,1,false),some (3,1,false)],some [(.int .i64 0,0),(.int .i64 0,0),(.int .i64 0,0),(.int .i64 0,0)],none,some [(0,1),(1,1),(2,1),(3,1)],some [.int,.int,.int,.int]⟩),
 (24,⟨.sl 3,some 1,some false,some (3,32),false,[.sl 3],[],some [(.slice none 0 0,3)],some ([.sc (.int .i64 0),.sc (.string default),.sc (.int .i64 0)],3,32),none,none⟩),
 (25,⟨.sl 2,some 1,some false,some (2,24),false,[.sl 2],[],some [(.slice none 0 0,2)],some ([.sc (.string default),.sc (.int .i64 0)],2,24),none,none⟩),
 (26,⟨.sl 1,some 1,some false,some (1,16),false,[.sl 1],[],some [(.slice none 0 0,1)],some ([.sc (.string default)],1,16),none,none⟩),
 (28,⟨.other,some 6,some true,none,false,[.sl 3,.sl 2,.sl 2,.sl 1,.int .i64,.int .i64],[some (0,1,false),some (1,1,false),some (2,1,false),some (3,1,false),some (4,1,false),some (5,1,false)],some [(.slice none 0 0,3),(.slice none 0 0,2),(.slice none 0 0,2),(.slice none 0 0,1),(.int .i64 0,0),(.int .i64 0,0)],none,some [(0,1),(1,1),(2,1),(3,1),(4,1),(5,1)],none⟩),
 (29,⟨.sl 1,some 1,some false,some (1,8),false,[.sl 1],[],some [(.slice none 0 0,1)],some ([.sc (.int .i64 0)],1,8),none,none⟩),
 (31,⟨.other,some 9,some true,none,false,[.int .i64,.int .i64,.int .i64,.int .i64,.int .i64,.sl 1,.int .i64,.bool,.int .i64],[some (0,1,false),some (1,1,false),some (2,1,false),some (3,1,false),some (4,1,false),some (5,1,false),some (6,1,false),some (7,1,false),some (8,1,false)],some [(.int .i64 0,0),(.int .i64 0,0),(.int .i64 0,0),(.int .i64 0,0),(.int .i64 0,0),(.slice none 0 0,1),(.int .i64 0,0),(.bool false,0),(.int .i64 0,0)],none,some [(0,1),(1,1),(2,1),(3,1),(4,1),(5,1),(6,1),(7,1),(8,1)],none⟩),
 (33,⟨.other,some 22,some true,none,false,[.int .i64,.int .i64,.int .i64,.int .i64,.sl 3,.sl 2,.sl 2,.sl 1,.int .i64,.int .i64,.int .i64,.int .i64,.int .i64,.int .i64,.int .i64,.sl 1,.int .i64,.bool,.int .i64,.sl 1,.int .i64,.int .i64],[some (0,4,true),some (4,6,true),some (10,9,true),some (19,1,false),some (20,1,false),some (21,1,false)],some [(.int .i64 0,0),(.int .i64 0,0),(.int .i64 0,0),(.int .i64 0,0),(.slice none 0 0,3),(.slice none 0 0,2),(.slice none 0 0,2),(.slice none 0 0,1),(.int .i64 0,0),(.int .i64 0,0),(.int .i64 0,0),(.int .i64 0,0),(.int .i64 0,0),(.int .i64 0,0),(.int .i64 0,0),(.slice none 0 0,1),(.int .i64 0,0),(.bool false,0),(.int .i64 0,0),(.slice none 0 0,1),(.int .i64 0,0),(.int .i64 0,0)],none,some [(0,4),(4,6),(10,9),(19,1),(20,1),(21,1)],none⟩),
 (36,⟨.other,some 4,some true,none,false,[.int .i64,.int .i64,.int .i64,.int .i64],[some (0,1,false),some (1,1,false),some (2,1,false),some (3,1,false)],some [(.int .i64 0,0),(.int .i64 0,0),(.int .i64 0,0),(.int .i64 0,0)],none,some [(0,1),(1,1),(2,1),(3,1)],some [.int,.int,.int,.int]⟩),
 (37,⟨.sl 3,some 1,some false,some (3,32),false,[.sl 3],[],some [(.slice none 0 0,3)],some ([.sc (.int .i64 0),.sc (.string default),.sc (.int .i64 0)],3,32),none,none⟩),
 (38,⟨.sl 2,some 1,some false,some (2,24),false,[.sl 2],[],some [(.slice none 0 0,2)],some ([.sc (.string default),.sc (.int .i64 0)],2,24),none,none⟩),
 (40,⟨.other,some 6,some true,none,false,[.sl 3,.sl 2,.sl 2,.sl 1,.int .i64,.int .i64],[some (0,1,false),some (1,1,false),some (2,1,false),some (3,1,false),some (4,1,false),some (5,1,false)],some [(.slice none 0 0,3),(.slice none 0 0,2),(.slice none 0 0,2),(.slice none 0 0,1),(.int .i64 0,0),(.int .i64 0,0)],none,some [(0,1),(1,1),(2,1),(3,1),(4,1),(5,1)],none⟩),
 (41,⟨.other,some 9,some true,none,false,[.int .i64,.int .i64,.int .i64,.int .i64,.int .i64,.sl 1,.int .i64,.bool,.int .i64],[some (0,1,false),some (1,1,false),some (2,1,false),some (3,1,false),some (4,1,false),some (5,1,false),some (6,1,false),some (7,1,false),some (8,1,false)],some [(.int .i64 0,0),(.int .i64 0,0),(.int .i64 0,0),(.int .i64 0,0),(.int .i64 0,0),(.slice none 0 0,1),(.int .i64 0,0),(.bool false,0),(.int .i64 0,0)],none,some [(0,1),(1,1),(2,1),(3,1),(4,1),(5,1),(6,1),(7,1),(8,1)],none⟩),
 (43,⟨.other,some 22,some true,none,false,[.int .i64,.int .i64,.int .i64,.int .i64,.sl 3,.sl 2,.sl 2,.sl 1,.int .i64,.int .i64,.int .i64,.int .i64,.int .i64,.int .i64,.int .i64,.sl 1,.int .i64,.bool,.int .i64,.sl 1,.int .i64,.int .i64],[some (0,4,true),some (4,6,true),some (10,9,true),some (19,1,false),some (20,1,false),some (21,1,false)],some [(.int .i64 0,0),(.int .i64 0,0),(.int .i64 0,0),(.int .i64 0,0),(.slice none 0 0,3),(.slice none 0 0,2),(.slice none 0 0,2),(.slice none 0 0,1),(.int .i64 0,0),(.int .i64 0,0),(.int .i64 0,0),(.int .i64 0,0),(.int .i64 0,0),(.int .i64 0,0),(.int .i64 0,0),(.slice none 0 0,1),(.int .i64 0,0),(.bool false,0),(.int .i64 0,0),(.slice none 0 0,1),(.int .i64 0,0),(.int .i64 0,0)],none,some [(0,4),(4,6),(10,9),(19,1),(20,1),(21,1)],none⟩),
 (78,⟨.sl 2,some 1,some false,some (2,24),false,[.sl 2],[],some [(.slice none 0 0,2)],some ([.sc (.string default),.sc (.int .i64 0)],2,24),none,none⟩),
 (103,⟨.other,some 4,some true,none,false,[.int .i64,.int .i64,.int .i64,.int .i64],[some (0,1,false),some (1,1,false),some (2,1,false),some (3,1,false)],some [(.int .i64 0,0),(.int .i64 0,0),(.int .i64 0,0),(.int .i64 0,0)],none,some [(0,1),(1,1),(2,1),(3,1)],some [.int,.int,.int,.int]⟩),
 (106,⟨.sl 4,some 1,some false,some (4,56),false,[.sl 4],[],some [(.slice none 0 0,4)],some ([.sc (.int .i64 0),.sc (.string default),.sc (.string default),.sc (.string default)],4,56),none,none⟩),
 (112,⟨.sl 11,some 1,some false,some (11,128),false,[.sl 11],[],some [(.slice none 0 0,11)],some ([.sc (.int .i64 0),.sc (.string default),.sc (.bool false),.sc (.int .i64 0),.sc (.int .i64 0),.sc (.int .i64 0),.sc (.int .i64 0),.row 1 [],.row 1 [],.sc (.int .i64 0),.sc (.bool false)],11,128),none,none⟩),
 (115,⟨.other,some 9,some true,none,false,[.bool,.int .i64,.int .i64,.int .i64,.int .i64,.sl 1,.sl 1,.int .i64,.bool],[some (0,1,false),some (1,4,true),some (5,1,false),some (6,1,false),some (7,1,false),some (8,1,false)],some [(.bool false,0),(.int .i64 0,0),(.int .i64 0,0),(.int .i64 0,0),(.int .i64 0,0),(.slice none 0 0,1),(.slice none 0 0,1),(.int .i64 0,0),(.bool false,0)],none,some [(0,1),(1,4),(5,1),(6,1),(7,1),(8,1)],none⟩),
 (117,⟨.other,some 11,some true,none,false,[.int .i64,.str,.bool,.int .i64,.int .i64,.int .i64,.int .i64,.sl 1,.sl 1,.int .i64,.bool],[some (0,1,false),some (1,1,false),some (2,9,true)],some [(.int .i64 0,0),(.string default,0),(.bool false,0),(.int .i64 0,0),(.int .i64 0,0),(.int .i64 0,0),(.int .i64 0,0),(.slice none 0 0,1),(.slice none 0 0,1),(.int .i64 0,0),(.bool false,0)],none,some [(0,1),(1,1),(2,9)],none⟩),
 (129,⟨.other,some 3,some true,none,false,[.int .i64,.str,.int .i64],[some (0,1,false),some (1,1,false),some (2,1,false)],some [(.int .i64 0,0),(.string default,0),(.int .i64 0,0)],none,some [(0,1),(1,1),(2,1)],some [.int,.str,.int]⟩),
 (133,⟨.other,some 2,some true,none,false,[.str,.int .i64],[some (0,1,false),some (1,1,false)],some [(.string default,0),(.int .i64 0,0)],none,some [(0,1),(1,1)],some [.str,.int]⟩),
 (135,⟨.sl 1,some 1,some false,some (1,1),true,[.sl 1],[],some [(.slice none 0 0,1)],some ([.sc (.int .u8 0)],1,1),none,none⟩),
 (140,⟨.other,some 2,some true,none,false,[.str,.int .i64],[some (0,1,false),some (1,1,false)],some [(.string default,0),(.int .i64 0,0)],none,some [(0,1),(1,1)],some [.str,.int]⟩),
 (168,⟨.other,some 3,some true,none,false,[.int .i64,.str,.int .i64],[some (0,1,false),some (1,1,false),some (2,1,false)],some [(.int .i64 0,0),(.string default,0),(.int .i64 0,0)],none,some [(0,1),(1,1),(2,1)],some [.int,.str,.int]⟩),
 (170,⟨.other,some 2,some true,none,false,[.str,.int .i64],[some (0,1,false),some (1,1,false)],some [(.string default,0),(.int .i64 0,0)],none,some [(0,1),(1,1)],some [.str,.int]⟩),
 (177,⟨.other,some 4,some true,none,false,[.int .i64,.str,.str,.str],[some (0,1,false),some (1,1,false),some (2,1,false),some (3,1,false)],some [(.int .i64 0,0),(.string default,0),(.string default,0),(.string default,0)],none,some [(0,1),(1,1),(2,1),(3,1)],some [.int,.str,.str,.str]⟩),
 (228,⟨.int .u64,some 1,some false,none,false,[.int .u64],[],some [(.int .u64 0,0)],none,none,none⟩),
 (232,⟨.sl 2,some 1,some false,some (2,16),false,[.sl 2],[],some [(.slice none 0 0,2)],some ([.sc (.int .i64 0),.sc (.int .i64 0)],2,16),none,none⟩),
 (253,⟨.other,some 2,some true,none,false,[.int .i64,.int .i64],[some (0,1,false),some (1,1,false)],some [(.int .i64 0,0),(.int .i64 0,0)],none,some [(0,1),(1,1)],some [.int,.int]⟩),
 (260,⟨.int .u32,some 1,some false,none,false,[.int .u32],[],some [(.int .u32 0,0)],none,none,none⟩)
]
theorem Bw:Ce Tryz.prog tab:=Ce.of (by kernel_rfl)
theorem mixed:Tryz.prog.follows .mixedOrders=true:=by kernel_rfl
set_option maxRecDepth 20000
structure Er where
 room_:Int
 version_:Int
 stride_:Int
 roll_:Int
def XaO(a:Er):List D:=[.sc (.int .i64 a.room_),.sc (.int .i64 a.version_),.sc (.int .i64 a.stride_),.sc (.int .i64 a.roll_)]
def Xh(a:Er):Prop:=wfI a.room_∧wfI a.version_∧wfI a.stride_∧wfI a.roll_
structure Bb where
 id_:Int
 text_:ByteArray
 sure_:Int
def Ci(a:Bb):List D:=[.sc (.int .i64 a.id_),.sc (.string a.text_),.sc (.int .i64 a.sure_)]
def Xdl(a:Bb):Prop:=wfI a.id_∧wfI a.sure_
def C6(a:Bb):Int:=(a.text_.size:Int)
def XaZ(a:Bb):Prop:=a.text_.size<2^47
theorem Ta(a:Bb):0≤C6 a:=by
 unfold C6
 omega
def Xda(a:List Bb):Prop:=∀x∈a,Xdl x
def Dc(a:List Bb):Int:=a.length+He (fun x=>C6 x) a
def Uk(a:List Bb):Prop:=a.length<2^44∧∀x∈a,XaZ x
theorem Ee(x:Bb):0≤C6 x:=Ta x
theorem Gy(a:List Bb):0≤Dc a:=by
 have:=B2 (fun x=>C6 x) a (fun x _=>Ee x)
 unfold Dc
 omega
theorem V4(a:List Bb):(a.length:Int)≤Dc a:=by
 have:=B2 (fun x=>C6 x) a (fun x _=>Ee x)
 unfold Dc
 omega
structure Aa where
 name_:ByteArray
 id_:Int
def Ac(a:Aa):List D:=[.sc (.string a.name_),.sc (.int .i64 a.id_)]
def Y3(a:Aa):Prop:=wfI a.id_
def B7(a:Aa):Int:=(a.name_.size:Int)
def Ug(a:Aa):Prop:=a.name_.size<2^47
theorem Mv(a:Aa):0≤B7 a:=by
 unfold B7
 omega
def Vf(a:List Aa):Prop:=∀x∈a,Y3 x
def Bu(a:List Aa):Int:=a.length+He (fun x=>B7 x) a
def Lx(a:List Aa):Prop:=a.length<2^44∧∀x∈a,Ug x
theorem Dv(x:Aa):0≤B7 x:=Mv x
theorem C9(a:List Aa):0≤Bu a:=by
 have:=B2 (fun x=>B7 x) a (fun x _=>Dv x)
 unfold Bu
 omega
theorem Kb(a:List Aa):(a.length:Int)≤Bu a:=by
 have:=B2 (fun x=>B7 x) a (fun x _=>Dv x)
 unfold Bu
 omega
def Bn(a:List ByteArray):Int:=a.length+He (fun x=>(x.size:Int)) a
def Jn(a:List ByteArray):Prop:=a.length<2^44∧∀x∈a,x.size<2^47
theorem Ea(x:ByteArray):0≤(x.size:Int):=by omega
theorem Cv(a:List ByteArray):0≤Bn a:=by
 have:=B2 (fun x=>(x.size:Int)) a (fun x _=>Ea x)
 unfold Bn
 omega
theorem Md(a:List ByteArray):(a.length:Int)≤Bn a:=by
 have:=B2 (fun x=>(x.size:Int)) a (fun x _=>Ea x)
 unfold Bn
 omega
structure Ad where
 nodes_:List Bb
 entries_:List Aa
 old_:List Aa
 steps_:List ByteArray
 room_:Int
 next_:Int
def Xhv(a:Ad):List D:=[.row 3 (a.nodes_.map Ci),.row 2 (a.entries_.map Ac),.row 2 (a.old_.map Ac),.row 1 (a.steps_.map cS),.sc (.int .i64 a.room_),.sc (.int .i64 a.next_)]
def XfC(a:Ad):Prop:=Xda a.nodes_∧Vf a.entries_∧Vf a.old_∧wfI a.room_∧wfI a.next_
def Eu(a:Ad):Int:=Dc a.nodes_+Bu a.entries_+Bu a.old_+Bn a.steps_
def Xa6(a:Ad):Prop:=Uk a.nodes_∧Lx a.entries_∧Lx a.old_∧Jn a.steps_
theorem Ht(a:Ad):0≤Eu a:=by
 have:=Gy a.nodes_
 have:=C9 a.entries_
 have:=C9 a.old_
 have:=Cv a.steps_
 unfold Eu
 omega
def XfJ(a:List Int):Prop:=∀x∈a,wfI x
def Fe(a:List Int):Int:=a.length
def Xas(a:List Int):Prop:=a.length<2^44
theorem Lr(a:List Int):0≤Fe a:=by unfold Fe;omega
structure B6 where
 version_:Int
 stride_:Int
 roll_:Int
 base_:Int
 link_:Int
 offsets_:List Int
 end_:Int
 open_:Bool
 code_:Int
def Xcz(a:B6):List D:=[.sc (.int .i64 a.version_),.sc (.int .i64 a.stride_),.sc (.int .i64 a.roll_),.sc (.int .i64 a.base_),.sc (.int .i64 a.link_),.row 1 (a.offsets_.map cI),.sc (.int .i64 a.end_),.sc (.bool a.open_),.sc (.int .i64 a.code_)]
def Xbs(a:B6):Prop:=wfI a.version_∧wfI a.stride_∧wfI a.roll_∧wfI a.base_∧wfI a.link_∧XfJ a.offsets_∧wfI a.end_∧wfI a.code_
def Eh(a:B6):Int:=Fe a.offsets_
def Pn(a:B6):Prop:=Xas a.offsets_
theorem F9(a:B6):0≤Eh a:=by
 have:=Lr a.offsets_
 unfold Eh
 omega
structure Bl where
 set_:Er
 disk_:Ad
 writer_:B6
 told_:List ByteArray
 sure_:Int
 falls_:Int
def Xfz(a:Bl):List D:=XaO a.set_++Xhv a.disk_++Xcz a.writer_++[.row 1 (a.told_.map cS),.sc (.int .i64 a.sure_),.sc (.int .i64 a.falls_)]
def XcQ(a:Bl):Prop:=Xh a.set_∧XfC a.disk_∧Xbs a.writer_∧wfI a.sure_∧wfI a.falls_
def Fk(a:Bl):Int:=Eu a.disk_+Eh a.writer_+Bn a.told_
def Z1(a:Bl):Prop:=Xa6 a.disk_∧Pn a.writer_∧Jn a.told_
theorem Zm(a:Bl):0≤Fk a:=by
 have:=Ht a.disk_
 have:=F9 a.writer_
 have:=Cv a.told_
 unfold Fk
 omega
end
end Go.Proofs.YtgdmjbcllgmepaaGreatDoor.Ab
