/- What functions of the program come to, for all arguments in the given bounds. -/
import Derived.Test.YtgdmjbcllgmepaaGreatDoorProg
import Derived.Test.YtgdmjbcllgmepaaGreatDoorHaZ9
import Derived.KernelRfl
import Derived.Lib.LaidTab
set_option linter.unusedVariables false
set_option linter.unusedSimpArgs false
namespace Go.Proofs.YtgdmjbcllgmepaaGreatDoor.Ab
section
open Go Go.Proofs
set_option maxRecDepth 20000
theorem XfY{w:World}{S:Nat→Prop}(h:Globs.ok w S):Lib.TabIs Tryz.prog w "math/bits.deBruijn64tab" .u8 Ow:=(show _ from h.2.1).2
theorem Xgj{w:World}{S:Nat→Prop}(h:Globs.ok w S):Lib.TabIs Tryz.prog w "internal/strconv.uint64pow10" .u64 Sz:=(show _ from h.2.2.1).2
theorem Xgi{w:World}{S:Nat→Prop}(h:Globs.ok w S):Gs w 3:=(show _ from h.2.2.2.1).2
theorem Xf6{w:World}{S:Nat→Prop}(h:Globs.ok w S):Gs w 2:=(show _ from h.2.2.2.2).2
def tab:List (Nat×TyRow):=[
 (3,⟨.int .i64,some 1,some false,none,false,[.int .i64],[],some [(.int .i64 0,0)],none,none,none⟩),
 (4,⟨.bool,some 1,some false,none,false,[.bool],[],some [(.bool false,0)],none,none,none⟩),
 (5,⟨.int .u8,some 1,some false,none,false,[.int .u8],[],some [(.int .u8 0,0)],none,none,none⟩),
 (9,⟨.str,some 1,some false,none,false,[.str],[],some [(.string default,0)],none,none,none⟩),
 (23,⟨.other,some 4,some true,none,false,[.int .i64,.int .i64,.int .i64,.int .i64],[some (0,1,false),some (1,1,false),some (2,1,false),some (3,1,false)],some [(.int .i64 0,0),(.int .i64 0,0),(.int .i64 0,0),(.int .i64 0,0)],none,some [(0,1),(1,1),(2,1),(3,1)],some [.int,.int,.int,.int]⟩),
 (24,⟨.sl 3,some 1,some false,some (3,32),false,[.sl 3],[],some [(.slice none 0 0,3)],some ([.sc (.int .i64 0),.sc (.string default),.sc (.int .i64 0)],3,32),none,none⟩),
 (25,⟨.sl 2,some 1,some false,some (2,24),false,[.sl 2],[],some [(.slice none 0 0,2)],some ([.sc (.string default),.sc (.int .i64 0)],2,24),none,none⟩),
 (26,⟨.sl 1,some 1,some false,some (1,16),false,[.sl 1],[],some [(.slice none 0 0,1)],some ([.sc (.string default)],1,16),none,none⟩),
 (28,⟨.other,some 6,some true,none,false,[.sl 3,.sl 2,.sl 2,.sl 1,.int .i64,.int .i64],[some (0,1,false),some (1,1,false),some (2,1,false),some (3,1,false),some (4,1,false),some (5,1,false)],some [(.slice none 0 0,3),(.slice none 0 0,2),(.slice none 0 0,2),(.slice none 0 0,1),(.int .i64 0,0),(.int .i64 0,0)],none,some [(0,1),(1,1),(2,1),(3,1),(4,1),(5,1)],none⟩),
 (29,⟨.sl 1,some 1,some false,some (1,8),false,[.sl 1],[],some [(.slice none 0 0,1)],some ([.sc (.int .i64 0)],1,8),none,none⟩),
 (31,⟨.other,some 9,some true,none,false,[.int .i64,.int .i64,.int .i64,.int .i64,.int .i64,.sl 1,.int .i64,.bool,.int .i64],[some (0,1,false),some (1,1,false),some (2,1,false),some (3,1,false),some (4,1,false),some (5,1,false),some (6,1,false),some (7,1,false),some (8,1,false)],some [(.int .i64 0,0),(.int .i64 0,0),(.int .i64 0,0),(.int .i64 0,0),(.int .i64 0,0),(.slice none 0 0,1),(.int .i64 0,0),(.bool false,0),(.int .i64 0,0)],none,some [(0,1),(1,1),(2,1),(3,1),(4,1),(5,1),(6,1),(7,1),(8,1)],none⟩),
 (33,⟨.other,some 22,some true,none,false,[.int .i64,.int .i64,.int .i64,.int .i64,.sl 3,.sl 2,.sl 2,.sl 1,.int .i64,.int .i64,.int .i64,.int .i64,.int .i64,.int .i64,.int .i64,.sl 1,.int .i64,.bool,.int .i64,.sl 1,.int .i64,.int .i64],[some (0,4,true),some (4,6,true),some (10,9,true),some (19,1,false),some (20,1,false),some (21,1,false)],some [(.int .i64 0,0),(.int .i64 0,0),(.int .i64 0,0),(.int .i64 0,0),(.slice none 0 0,3),(.slice none 0 0,2),(.slice none 0 0,2),(.slice none 0 0,1),(.int .i64 0,0),(.int .i64 0,0),(.int .i64 0,0),(.int .i64 0,0),(.int .i64 0,0),(.int .i64 0,0),(.int .i64 0,0),(.slice none 0 0,1),(.int .i64 0,0),(.bool false,0),(.int .i64 0,0),(.slice none 0 0,1),(.int .i64 0,0),(.int .i64 0,0)],none,some [(0,4),(4,6),(10,9),(19,1),(20,1),(21,1)],none⟩),
 (36,⟨.other,some 4,some true,none,false,[.int .i64,.int .i64,.int .i64,.int .i64],[some (0,1,false),some (1,1,false),some (2,1,false),some (3,1,false)],some [(.int .i64 0,0),(.int .i64 0,0),(.int .i64 0,0),(.int .i64 0,0)],none,some [(0,1),(1,1),(2,1),(3,1)],some [.int,.int,.int,.int]⟩),
 (37,⟨.sl 3,some 1,some false,some (3,32),false,[.sl 3],[],some [(.slice none 0 0,3)],some ([.sc (.int .i64 0),.sc (.string default),.sc (.int .i64 0)],3,32),none,none⟩),
 (38,⟨.sl 2,some 1,some false,some (2,24),false,[.sl 2],[],some [(.slice none 0 0,2)],some ([.sc (.string default),.sc (.int .i64 0)],2,24),none,none⟩),
 (40,⟨.other,some 6,some true,none,false,[.sl 3,.sl 2,.sl 2,.sl 1,.int .i64,.int .i64],[some (0,1,false),some (1,1,false),some (2,1,false),some (3,1,false),some (4,1,false),some (5,1,false)],some [(.slice none 0 0,3),(.slice none 0 0,2),(.slice none 0 0,2),(.slice none 0 0,1),(.int .i64 0,0),(.int .i64 0,0)],none,some [(0,1),(1,1),(2,1),(3,1),(4,1),(5,1)],none⟩),
 (41,⟨.other,some 9,some true,none,false,[.int .i64,.int .i64,.int .i64,.int .i64,.int .i64,.sl 1,.int .i64,.bool,.int .i64],[some (0,1,false),some (1,1,false),some (2,1,false),some (3,1,false),some (4,1,false),some (5,1,false),some (6,1,false),some (7,1,false),some (8,1,false)],some [(.int .i64 0,0),(.int .i64 0,0),(.int .i64 0,0),(.int .i64 0,0),(.int .i64 0,0),(.slice none 0 0,1),(.int .i64 0,0),(.bool false,0),(.int .i64 0,0)],none,some [(0,1),(1,1),(2,1),(3,1),(4,1),(5,1),(6,1),(7,1),(8,1)],none⟩),
 (43,⟨.other,some 22,some true,none,false,[.int .i64,.int .i64,.int .i64,.int .i64,.sl 3,.sl 2,.sl 2,.sl 1,.int .i64,.int .i64,.int .i64,.int .i64,.int .i64,.int .i64,.int .i64,.sl 1,.int .i64,.bool,.int .i64,.sl 1,.int .i64,.int .i64],[some (0,4,true),some (4,6,true),some (10,9,true),some (19,1,false),some (20,1,false),some (21,1,false)],some [(.int .i64 0,0),(.int .i64 0,0),(.int .i64 0,0),(.int .i64 0,0),(.slice none 0 0,3),(.slice none 0 0,2),(.slice none 0 0,2),(.slice none 0 0,1),(.int .i64 0,0),(.int .i64 0,0),(.int .i64 0,0),(.int .i64 0,0),(.int .i64 0,0),(.int .i64 0,0),(.int .i64 0,0),(.slice none 0 0,1),(.int .i64 0,0),(.bool false,0),(.int .i64 0,0),(.slice none 0 0,1),(.int .i64 0,0),(.int .i64 0,0)],none,some [(0,4),(4,6),(10,9),(19,1),(20,1),(21,1)],none⟩),
 (78,⟨.sl 2,some 1,some false,some (2,24),false,[.sl 2],[],some [(.slice none 0 0,2)],some ([.sc (.string default),.sc (.int .i64 0)],2,24),none,none⟩),
 (103,⟨.other,some 4,some true,none,false,[.int .i64,.int .i64,.int .i64,.int .i64],[some (0,1,false),some (1,1,false),some (2,1,false),some (3,1,false)],some [(.int .i64 0,0),(.int .i64 0,0),(.int .i64 0,0),(.int .i64 0,0)],none,some [(0,1),(1,1),(2,1),(3,1)],some [.int,.int,.int,.int]⟩),
 (106,⟨.sl 4,some 1,some false,some (4,56),false,[.sl 4],[],some [(.slice none 0 0,4)],some ([.sc (.int .i64 0),.sc (.string default),.sc (.string default),.sc (.string default)],4,56),none,none⟩),
 (112,⟨.sl 11,some 1,some false,some (11,128),false,[.sl 11],[],some [(.slice none 0 0,11)],some ([.sc (.int .i64 0),.sc (.string default),.sc (.bool false),.sc (.int .i64 0),.sc (.int .i64 0),.sc (.int .i64 0),.sc (.int .i64 0),.row 1 [],.row 1 [],.sc (.int .i64 0),.sc (.bool false)],11,128),none,none⟩),
 (115,⟨.other,some 9,some true,none,false,[.bool,.int .i64,.int .i64,.int .i64,.int .i64,.sl 1,.sl 1,.int .i64,.bool],[some (0,1,false),some (1,4,true),some (5,1,false),some (6,1,false),some (7,1,false),some (8,1,false)],some [(.bool false,0),(.int .i64 0,0),(.int .i64 0,0),(.int .i64 0,0),(.int .i64 0,0),(.slice none 0 0,1),(.slice none 0 0,1),(.int .i64 0,0),(.bool false,0)],none,some [(0,1),(1,4),(5,1),(6,1),(7,1),(8,1)],none⟩),
 (117,⟨.other,some 11,some true,none,false,[.int .i64,.str,.bool,.int .i64,.int .i64,.int .i64,.int .i64,.sl 1,.sl 1,.int .i64,.bool],[some (0,1,false),some (1,1,false),some (2,9,true)],some [(.int .i64 0,0),(.string default,0),(.bool false,0),(.int .i64 0,0),(.int .i64 0,0),(.int .i64 0,0),(.int .i64 0,0),(.slice none 0 0,1),(.slice none 0 0,1),(.int .i64 0,0),(.bool false,0)],none,some [(0,1),(1,1),(2,9)],none⟩),
 (129,⟨.other,some 3,some true,none,false,[.int .i64,.str,.int .i64],[some (0,1,false),some (1,1,false),some (2,1,false)],some [(.int .i64 0,0),(.string default,0),(.int .i64 0,0)],none,some [(0,1),(1,1),(2,1)],some [.int,.str,.int]⟩),
 (133,⟨.other,some 2,some true,none,false,[.str,.int .i64],[some (0,1,false),some (1,1,false)],some [(.string default,0),(.int .i64 0,0)],none,some [(0,1),(1,1)],some [.str,.int]⟩),
 (135,⟨.sl 1,some 1,some false,some (1,1),true,[.sl 1],[],some [(.slice none 0 0,1)],some ([.sc (.int .u8 0)],1,1),none,none⟩),
 (140,⟨.other,some 2,some true,none,false,[.str,.int .i64],[some (0,1,false),some (1,1,false)],some [(.string default,0),(.int .i64 0,0)],none,some [(0,1),(1,1)],some [.str,.int]⟩),
 (168,⟨.other,some 3,some true,none,false,[.int .i64,.str,.int .i64],[some (0,1,false),some (1,1,false),some (2,1,false)],some [(.int .i64 0,0),(.string default,0),(.int .i64 0,0)],none,some [(0,1),(1,1),(2,1)],some [.int,.str,.int]⟩),
 (170,⟨.other,some 2,some true,none,false,[.str,.int .i64],[some (0,1,false),some (1,1,false)],some [(.string default,0),(.int .i64 0,0)],none,some [(0,1),(1,1)],some [.str,.int]⟩),
 (177,⟨.other,some 4,some true,none,false,[.int .i64,.str,.str,.str],[some (0,1,false),some (1,1,false),some (2,1,false),some (3,1,false)],some [(.int .i64 0,0),(.string default,0),(.string default,0),(.string default,0)],none,some [(0,1),(1,1),(2,1),(3,1)],some [.int,.str,.str,.str]⟩),
 (228,⟨.int .u64,some 1,some false,none,false,[.int .u64],[],some [(.int .u64 0,0)],none,none,none⟩),
 (232,⟨.sl 2,some 1,some false,some (2,16),false,[.sl 2],[],some [(.slice none 0 0,2)],some ([.sc (.int .i64 0),.sc (.int .i64 0)],2,16),none,none⟩),
 (253,⟨.other,some 2,some true,none,false,[.int .i64,.int .i64],[some (0,1,false),some (1,1,false)],some [(.int .i64 0,0),(.int .i64 0,0)],none,some [(0,1),(1,1)],some [.int,.int]⟩),
 (260,⟨.int .u32,some 1,some false,none,false,[.int .u32],[],some [(.int .u32 0,0)],none,none,none⟩)
]
theorem Bu:Ca Tryz.prog tab:=Ca.of (by kernel_rfl)
theorem mixed:Tryz.prog.follows .mixedOrders=true:=by kernel_rfl
set_option maxRecDepth 20000
structure Pg where
 room_:Int
 version_:Int
 stride_:Int
 roll_:Int
def XaD(a:Pg):List D:=[.sc (.int .i64 a.room_),.sc (.int .i64 a.version_),.sc (.int .i64 a.stride_),.sc (.int .i64 a.roll_)]
def W9(a:Pg):Prop:=wfI a.room_∧wfI a.version_∧wfI a.stride_∧wfI a.roll_
structure Bb where
 id_:Int
 text_:ByteArray
 sure_:Int
def Ce(a:Bb):List D:=[.sc (.int .i64 a.id_),.sc (.string a.text_),.sc (.int .i64 a.sure_)]
def XcP(a:Bb):Prop:=wfI a.id_∧wfI a.sure_
def Cw(a:Bb):Int:=(a.text_.size:Int)
def XaH(a:Bb):Prop:=a.text_.size<2^47
theorem Sr(a:Bb):0≤Cw a:=by
 unfold Cw
 omega
def XcL(a:List Bb):Prop:=∀x∈a,XcP x
def C3(a:List Bb):Int:=a.length+G7 (fun x=>Cw x) a
def Ui(a:List Bb):Prop:=a.length<2^44∧∀x∈a,XaH x
theorem Eb(x:Bb):0≤Cw x:=Sr x
theorem Gq(a:List Bb):0≤C3 a:=by
 have:=By (fun x=>Cw x) a (fun x _=>Eb x)
 unfold C3
 omega
theorem Wd(a:List Bb):(a.length:Int)≤C3 a:=by
 have:=By (fun x=>Cw x) a (fun x _=>Eb x)
 unfold C3
 omega
structure Aa where
 name_:ByteArray
 id_:Int
def Ac(a:Aa):List D:=[.sc (.string a.name_),.sc (.int .i64 a.id_)]
def Y2(a:Aa):Prop:=wfI a.id_
def B2(a:Aa):Int:=(a.name_.size:Int)
def Up(a:Aa):Prop:=a.name_.size<2^47
theorem Mk(a:Aa):0≤B2 a:=by
 unfold B2
 omega
def Tt(a:List Aa):Prop:=∀x∈a,Y2 x
def Br(a:List Aa):Int:=a.length+G7 (fun x=>B2 x) a
def Lq(a:List Aa):Prop:=a.length<2^44∧∀x∈a,Up x
theorem Dr(x:Aa):0≤B2 x:=Mk x
theorem C1(a:List Aa):0≤Br a:=by
 have:=By (fun x=>B2 x) a (fun x _=>Dr x)
 unfold Br
 omega
theorem J7(a:List Aa):(a.length:Int)≤Br a:=by
 have:=By (fun x=>B2 x) a (fun x _=>Dr x)
 unfold Br
 omega
def Bk(a:List ByteArray):Int:=a.length+G7 (fun x=>(x.size:Int)) a
def Ji(a:List ByteArray):Prop:=a.length<2^44∧∀x∈a,x.size<2^47
theorem D7(x:ByteArray):0≤(x.size:Int):=by omega
theorem Cp(a:List ByteArray):0≤Bk a:=by
 have:=By (fun x=>(x.size:Int)) a (fun x _=>D7 x)
 unfold Bk
 omega
theorem Mc(a:List ByteArray):(a.length:Int)≤Bk a:=by
 have:=By (fun x=>(x.size:Int)) a (fun x _=>D7 x)
 unfold Bk
 omega
structure Ad where
 nodes_:List Bb
 entries_:List Aa
 old_:List Aa
 steps_:List ByteArray
 room_:Int
 next_:Int
def Xg7(a:Ad):List D:=[.row 3 (a.nodes_.map Ce),.row 2 (a.entries_.map Ac),.row 2 (a.old_.map Ac),.row 1 (a.steps_.map cS),.sc (.int .i64 a.room_),.sc (.int .i64 a.next_)]
def Xfp(a:Ad):Prop:=XcL a.nodes_∧Tt a.entries_∧Tt a.old_∧wfI a.room_∧wfI a.next_
def Em(a:Ad):Int:=C3 a.nodes_+Br a.entries_+Br a.old_+Bk a.steps_
def Xab(a:Ad):Prop:=Ui a.nodes_∧Lq a.entries_∧Lq a.old_∧Ji a.steps_
theorem Hs(a:Ad):0≤Em a:=by
 have:=Gq a.nodes_
 have:=C1 a.entries_
 have:=C1 a.old_
 have:=Cp a.steps_
 unfold Em
 omega
def XcE(a:List Int):Prop:=∀x∈a,wfI x
def Dv(a:List Int):Int:=a.length
def Xe(a:List Int):Prop:=a.length<2^44
theorem Lu(a:List Int):0≤Dv a:=by unfold Dv;omega
theorem Qt(a:List Int):(a.length:Int)≤Dv a:=by unfold Dv;omega
structure Do where
 version_:Int
 stride_:Int
 roll_:Int
 base_:Int
 link_:Int
 offsets_:List Int
 end_:Int
 open_:Bool
 code_:Int
def Xc9(a:Do):List D:=[.sc (.int .i64 a.version_),.sc (.int .i64 a.stride_),.sc (.int .i64 a.roll_),.sc (.int .i64 a.base_),.sc (.int .i64 a.link_),.row 1 (a.offsets_.map cI),.sc (.int .i64 a.end_),.sc (.bool a.open_),.sc (.int .i64 a.code_)]
def XaC(a:Do):Prop:=wfI a.version_∧wfI a.stride_∧wfI a.roll_∧wfI a.base_∧wfI a.link_∧XcE a.offsets_∧wfI a.end_∧wfI a.code_
def Ej(a:Do):Int:=Dv a.offsets_
def Pe(a:Do):Prop:=Xe a.offsets_
theorem F1(a:Do):0≤Ej a:=by
 have:=Lu a.offsets_
 unfold Ej
 omega
structure C6 where
 set_:Pg
 disk_:Ad
 writer_:Do
 told_:List ByteArray
 sure_:Int
 falls_:Int
def Xfu(a:C6):List D:=XaD a.set_++Xg7 a.disk_++Xc9 a.writer_++[.row 1 (a.told_.map cS),.sc (.int .i64 a.sure_),.sc (.int .i64 a.falls_)]
def XcC(a:C6):Prop:=W9 a.set_∧Xfp a.disk_∧XaC a.writer_∧wfI a.sure_∧wfI a.falls_
def Fg(a:C6):Int:=Em a.disk_+Ej a.writer_+Bk a.told_
def Yg(a:C6):Prop:=Xab a.disk_∧Pe a.writer_∧Ji a.told_
theorem Ze(a:C6):0≤Fg a:=by
 have:=Hs a.disk_
 have:=F1 a.writer_
 have:=Cp a.told_
 unfold Fg
 omega
end
end Go.Proofs.YtgdmjbcllgmepaaGreatDoor.Ab
