/- What functions come to. -/
import Derived.Test.YtjbmpmmffjgedaaGreatDoorProg
import Derived.Test.YtjbmpmmffjgedaaGreatDoorCsZ9
import Derived.KernelRfl
import Derived.Lib.LaidTab
set_option linter.unusedVariables false
set_option linter.unusedSimpArgs false
set_option maxRecDepth 20000
namespace Go.Proofs.YtjbmpmmffjgedaaGreatDoor.Ab
section
open Go Go.Proofs
theorem XkO{w:World}{S:Nat→Prop}(h:Globs.ok w S):Lib.TabIs Tryz.prog w "math/bits.deBruijn64tab" .u8 Th:=(show _ from h.2.1).2
theorem XkH{w:World}{S:Nat→Prop}(h:Globs.ok w S):Lib.TabIs Tryz.prog w "internal/strconv.uint64pow10" .u64 Xp:=(show _ from h.2.2.1).2
theorem XkR{w:World}{S:Nat→Prop}(h:Globs.ok w S):Io w 1:=(show _ from h.2.2.2.1).2
theorem Xlc{w:World}{S:Nat→Prop}(h:Globs.ok w S):Io w 0:=(show _ from h.2.2.2.2).2
def tab:List (Nat×TyRow):=[
 (3,⟨.int .i64,some 1,some false,none,false,[.int .i64],[],some [(.int .i64 0,0)],none,none,none⟩),
 (4,⟨.bool,some 1,some false,none,false,[.bool],[],some [(.bool false,0)],none,none,none⟩),
 (5,⟨.int .u8,some 1,some false,none,false,[.int .u8],[],some [(.int .u8 0,0)],none,none,none⟩),
 (9,⟨.str,some 1,some false,none,false,[.str],[],some [(.string default,0)],none,none,none⟩),
 (22,⟨.sl 1,some 1,some false,some (1,1),true,[.sl 1],[],some [(.slice none 0 0,1)],some ([.sc (.int .u8 0)],1,1),none,none⟩),
 (24,⟨.sl 3,some 1,some false,some (3,32),false,[.sl 3],[],some [(.slice none 0 0,3)],some ([.sc (.int .i64 0),.sc (.string default),.sc (.int .i64 0)],3,32),none,none⟩),
 (25,⟨.sl 2,some 1,some false,some (2,24),false,[.sl 2],[],some [(.slice none 0 0,2)],some ([.sc (.string default),.sc (.int .i64 0)],2,24),none,none⟩),
 (26,⟨.sl 1,some 1,some false,some (1,16),false,[.sl 1],[],some [(.slice none 0 0,1)],some ([.sc (.string default)],1,16),none,none⟩),
 (28,⟨.other,some 6,some true,none,false,[.sl 3,.sl 2,.sl 2,.sl 1,.int .i64,.int .i64],[some (0,1,false),some (1,1,false),some (2,1,false),some (3,1,false),some (4,1,false),some (5,1,false)],some [(.slice none 0 0,3),(.slice none 0 0,2),(.slice none 0 0,2),(.slice none 0 0,1),(.int .i64 0,0),(.int .i64 0,0)],none,some [(0,1),(1,1),(2,1),(3,1),(4,1),(5,1)],none⟩),
 (34,⟨.sl 1,some 1,some false,some (1,8),false,[.sl 1],[],some [(.slice none 0 0,1)],some ([.sc (.int .i64 0)],1,8),none,none⟩),
 (38,⟨.other,some 4,some true,none,false,[.int .i64,.int .i64,.int .i64,.int .i64],[some (0,1,false),some (1,1,false),some (2,1,false),some (3,1,false)],some [(.int .i64 0,0),(.int .i64 0,0),(.int .i64 0,0),(.int .i64 0,0)],none,some [(0,1),(1,1),(2,1),(3,1)],some [.int,.int,.int,.int]⟩),
 (44,⟨.sl 2,some 1,some false,some (2,24),false,[.sl 2],[],some [(.slice none 0 0,2)],some ([.sc (.string default),.sc (.int .i64 0)],2,24),none,none⟩),
 (48,⟨.other,some 4,some true,none,false,[.int .i64,.str,.str,.str],[some (0,1,false),some (1,1,false),some (2,1,false),some (3,1,false)],some [(.int .i64 0,0),(.string default,0),(.string default,0),(.string default,0)],none,some [(0,1),(1,1),(2,1),(3,1)],some [.int,.str,.str,.str]⟩),
 (57,⟨.sl 3,some 1,some false,some (3,32),false,[.sl 3],[],some [(.slice none 0 0,3)],some ([.sc (.int .i64 0),.sc (.string default),.sc (.int .i64 0)],3,32),none,none⟩),
 (58,⟨.sl 2,some 1,some false,some (2,24),false,[.sl 2],[],some [(.slice none 0 0,2)],some ([.sc (.string default),.sc (.int .i64 0)],2,24),none,none⟩),
 (60,⟨.other,some 6,some true,none,false,[.sl 3,.sl 2,.sl 2,.sl 1,.int .i64,.int .i64],[some (0,1,false),some (1,1,false),some (2,1,false),some (3,1,false),some (4,1,false),some (5,1,false)],some [(.slice none 0 0,3),(.slice none 0 0,2),(.slice none 0 0,2),(.slice none 0 0,1),(.int .i64 0,0),(.int .i64 0,0)],none,some [(0,1),(1,1),(2,1),(3,1),(4,1),(5,1)],none⟩),
 (76,⟨.other,some 9,some true,none,false,[.int .i64,.int .i64,.int .i64,.int .i64,.int .i64,.sl 1,.int .i64,.bool,.int .i64],[some (0,1,false),some (1,1,false),some (2,1,false),some (3,1,false),some (4,1,false),some (5,1,false),some (6,1,false),some (7,1,false),some (8,1,false)],some [(.int .i64 0,0),(.int .i64 0,0),(.int .i64 0,0),(.int .i64 0,0),(.int .i64 0,0),(.slice none 0 0,1),(.int .i64 0,0),(.bool false,0),(.int .i64 0,0)],none,some [(0,1),(1,1),(2,1),(3,1),(4,1),(5,1),(6,1),(7,1),(8,1)],none⟩),
 (92,⟨.other,some 9,some true,none,false,[.bool,.int .i64,.int .i64,.int .i64,.int .i64,.sl 1,.sl 1,.int .i64,.bool],[some (0,1,false),some (1,4,true),some (5,1,false),some (6,1,false),some (7,1,false),some (8,1,false)],some [(.bool false,0),(.int .i64 0,0),(.int .i64 0,0),(.int .i64 0,0),(.int .i64 0,0),(.slice none 0 0,1),(.slice none 0 0,1),(.int .i64 0,0),(.bool false,0)],none,some [(0,1),(1,4),(5,1),(6,1),(7,1),(8,1)],none⟩),
 (96,⟨.other,some 11,some true,none,false,[.int .i64,.str,.bool,.int .i64,.int .i64,.int .i64,.int .i64,.sl 1,.sl 1,.int .i64,.bool],[some (0,1,false),some (1,1,false),some (2,9,true)],some [(.int .i64 0,0),(.string default,0),(.bool false,0),(.int .i64 0,0),(.int .i64 0,0),(.int .i64 0,0),(.int .i64 0,0),(.slice none 0 0,1),(.slice none 0 0,1),(.int .i64 0,0),(.bool false,0)],none,some [(0,1),(1,1),(2,9)],none⟩),
 (103,⟨.other,some 3,some true,none,false,[.int .i64,.str,.int .i64],[some (0,1,false),some (1,1,false),some (2,1,false)],some [(.int .i64 0,0),(.string default,0),(.int .i64 0,0)],none,some [(0,1),(1,1),(2,1)],some [.int,.str,.int]⟩),
 (110,⟨.sl 4,some 1,some false,some (4,56),false,[.sl 4],[],some [(.slice none 0 0,4)],some ([.sc (.int .i64 0),.sc (.string default),.sc (.string default),.sc (.string default)],4,56),none,none⟩),
 (113,⟨.other,some 2,some true,none,false,[.str,.int .i64],[some (0,1,false),some (1,1,false)],some [(.string default,0),(.int .i64 0,0)],none,some [(0,1),(1,1)],some [.str,.int]⟩),
 (115,⟨.other,some 2,some true,none,false,[.str,.int .i64],[some (0,1,false),some (1,1,false)],some [(.string default,0),(.int .i64 0,0)],none,some [(0,1),(1,1)],some [.str,.int]⟩),
 (127,⟨.sl 11,some 1,some false,some (11,128),false,[.sl 11],[],some [(.slice none 0 0,11)],some ([.sc (.int .i64 0),.sc (.string default),.sc (.bool false),.sc (.int .i64 0),.sc (.int .i64 0),.sc (.int .i64 0),.sc (.int .i64 0),.row 1 [],.row 1 [],.sc (.int .i64 0),.sc (.bool false)],11,128),none,none⟩),
 (140,⟨.other,some 3,some true,none,false,[.sl 1,.int .i64,.int .i64],[some (0,1,false),some (1,1,false),some (2,1,false)],some [(.slice none 0 0,1),(.int .i64 0,0),(.int .i64 0,0)],none,some [(0,1),(1,1),(2,1)],none⟩),
 (157,⟨.sl 2,some 1,some false,some (2,16),false,[.sl 2],[],some [(.slice none 0 0,2)],some ([.sc (.int .i64 0),.sc (.int .i64 0)],2,16),none,none⟩),
 (162,⟨.other,some 2,some true,none,false,[.int .i64,.int .i64],[some (0,1,false),some (1,1,false)],some [(.int .i64 0,0),(.int .i64 0,0)],none,some [(0,1),(1,1)],some [.int,.int]⟩),
 (181,⟨.other,some 3,some true,none,false,[.int .i64,.str,.int .i64],[some (0,1,false),some (1,1,false),some (2,1,false)],some [(.int .i64 0,0),(.string default,0),(.int .i64 0,0)],none,some [(0,1),(1,1),(2,1)],some [.int,.str,.int]⟩),
 (183,⟨.other,some 2,some true,none,false,[.str,.int .i64],[some (0,1,false),some (1,1,false)],some [(.string default,0),(.int .i64 0,0)],none,some [(0,1),(1,1)],some [.str,.int]⟩),
 (205,⟨.int .u64,some 1,some false,none,false,[.int .u64],[],some [(.int .u64 0,0)],none,none,none⟩),
 (257,⟨.int .u32,some 1,some false,none,false,[.int .u32],[],some [(.int .u32 0,0)],none,none,none⟩)
]
theorem D1:B8 Tryz.prog tab:=B8.of (by kernel_rfl)
theorem mixed:Tryz.prog.follows .mixedOrders=true:=by kernel_rfl
structure Bg where
 id_:Int
 text_:ByteArray
 sure_:Int
def Bi(a:Bg):List D:=[.sc (.int .i64 a.id_),.sc (.string a.text_),.sc (.int .i64 a.sure_)]
def Xhj(a:Bg):Prop:=wfI a.id_∧wfI a.sure_
def El(a:Bg):Int:=(a.text_.size:Int)
def XeA(a:Bg):Prop:=a.text_.size<2^47
theorem Yo(a:Bg):0≤El a:=by
 unfold El
 omega
def Xht(a:List Bg):Prop:=∀x∈a,Xhj x
def Ef(a:List Bg):Int:=a.length+Kc (fun x=>El x) a
def Xaj(a:List Bg):Prop:=a.length<2^44∧∀x∈a,XeA x
theorem Gs(x:Bg):0≤El x:=Yo x
theorem Ki(a:List Bg):0≤Ef a:=by
 have:=Dg (fun x=>El x) a (fun x _=>Gs x)
 unfold Ef
 omega
theorem XaW(a:List Bg):(a.length:Int)≤Ef a:=by
 have:=Dg (fun x=>El x) a (fun x _=>Gs x)
 unfold Ef
 omega
structure Ad where
 name_:ByteArray
 id_:Int
def Ac(a:Ad):List D:=[.sc (.string a.name_),.sc (.int .i64 a.id_)]
def XcD(a:Ad):Prop:=wfI a.id_
def Dj(a:Ad):Int:=(a.name_.size:Int)
def Xat(a:Ad):Prop:=a.name_.size<2^47
theorem Pp(a:Ad):0≤Dj a:=by
 unfold Dj
 omega
def Y8(a:List Ad):Prop:=∀x∈a,XcD x
def Cv(a:List Ad):Int:=a.length+Kc (fun x=>Dj x) a
def O2(a:List Ad):Prop:=a.length<2^44∧∀x∈a,Xat x
theorem Fu(x:Ad):0≤Dj x:=Pp x
theorem Ez(a:List Ad):0≤Cv a:=by
 have:=Dg (fun x=>Dj x) a (fun x _=>Fu x)
 unfold Cv
 omega
theorem Mg(a:List Ad):(a.length:Int)≤Cv a:=by
 have:=Dg (fun x=>Dj x) a (fun x _=>Fu x)
 unfold Cv
 omega
def De(a:List ByteArray):Int:=a.length+Kc (fun x=>(x.size:Int)) a
def Qx(a:List ByteArray):Prop:=a.length<2^44∧∀x∈a,x.size<2^47
theorem F7(x:ByteArray):0≤(x.size:Int):=by omega
theorem Hy(a:List ByteArray):0≤De a:=by
 have:=Dg (fun x=>(x.size:Int)) a (fun x _=>F7 x)
 unfold De
 omega
theorem Pb(a:List ByteArray):(a.length:Int)≤De a:=by
 have:=Dg (fun x=>(x.size:Int)) a (fun x _=>F7 x)
 unfold De
 omega
structure Aa where
 nodes_:List Bg
 entries_:List Ad
 old_:List Ad
 steps_:List ByteArray
 room_:Int
 next_:Int
def Xlo(a:Aa):List D:=[.row 3 (a.nodes_.map Bi),.row 2 (a.entries_.map Ac),.row 2 (a.old_.map Ac),.row 1 (a.steps_.map cS),.sc (.int .i64 a.room_),.sc (.int .i64 a.next_)]
def XjZ(a:Aa):Prop:=Xht a.nodes_∧Y8 a.entries_∧Y8 a.old_∧wfI a.room_∧wfI a.next_
def Lk(a:Aa):Int:=Ef a.nodes_+Cv a.entries_+Cv a.old_+De a.steps_
def Xej(a:Aa):Prop:=Xaj a.nodes_∧O2 a.entries_∧O2 a.old_∧Qx a.steps_
end
end Go.Proofs.YtjbmpmmffjgedaaGreatDoor.Ab
