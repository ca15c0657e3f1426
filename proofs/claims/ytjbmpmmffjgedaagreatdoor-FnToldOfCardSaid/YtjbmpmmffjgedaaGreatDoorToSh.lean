/- Contracts of library functions at this program, laid by the kit's shelf in plain words. No conditions. -/
import Derived.Shelf.Strings.Builder1
import Derived.Shelf.Strings.Builder2
import Derived.Shelf.Strings.BuilderF
import Derived.Shelf.Strings.BuilderK
import Derived.Shelf.Strings.Builder2Cap
import Derived.Shelf.Strconv.Atoi
import Derived.Shelf.Strconv.Itoa0
import Derived.Shelf.Strconv.Itoa1
import Derived.Shelf.LaysM
import Derived.Shelf.Strconv.Itoa2
import Derived.Shelf.Strconv.Itoa3
import Derived.Shelf.Strconv.Itoa4
import Derived.Shelf.Strconv.AtoiErrFast
import Derived.Shelf.Strconv.ParseIntEmpty
import Derived.Shelf.Strconv.AtoiFail
import Derived.Shelf.Strconv.Clone
import Derived.Shelf.Strconv.SyntaxError
import Derived.Shelf.LaysC
import Derived.Shelf.Strconv.ToError
import Derived.Shelf.Strconv.Lower
import Derived.Shelf.Strconv.ParseUint10
import Derived.Shelf.Strconv.ParseUint10Empty
import Derived.Shelf.Strconv.ParseUint10Any
import Derived.Shelf.Strconv.ParseInt10
import Derived.Shelf.Strconv.AtoiLong
import Derived.Shelf.Strconv.AtoiInnerAll
import Derived.Shelf.Strconv.RangeError
import Derived.Shelf.Strconv.ToErrorRange
import Derived.Shelf.Strconv.AtoiAll
import Derived.Shelf.Strings.Search1
import Derived.Shelf.Strings.Search2
import Derived.Shelf.Strings.Cut
import Derived.Shelf.Strings.Shaped
import Derived.Shelf.Strings.Prefix
import Derived.Shelf.Bits.Mul64
import Derived.Shelf.Strings.Repeat
import Derived.Shelf.Strings.BuilderCap
import Derived.Ground.Names2Prog
import Derived.Shelf.Slices.Clone
import Derived.Test.YtjbmpmmffjgedaaGreatDoorProg
import Derived.Test.YtjbmpmmffjgedaaGreatDoorToch09
import Derived.Below
import Derived.ProofKit
import Derived.Test.YtjbmpmmffjgedaaGreatDoorToZ10
import Derived.Lib.AtoiErrMem
import Derived.Lib.SlicesS
set_option linter.unusedVariables false
set_option linter.unusedSimpArgs false
namespace Go.Proofs.YtjbmpmmffjgedaaGreatDoor.Ab
section
open Go.Proofs
open Go.Shelf
def Tryz.lays172_ren:Go.Shelf.Ren:=⟨fun|172=>330|244=>343|245=>279|247=>352|279=>312|280=>313|281=>314|282=>315|287=>278|316=>334|171=>242|205=>335|321=>310|322=>311|243=>288|246=>289|283=>316|284=>317|285=>318|286=>319|129=>337|317=>336|318=>338|319=>339|320=>340|337=>346|338=>347|n=>n,fun|9=>9|3=>3|75=>207|76=>217|4=>4|5=>5|167=>247|37=>22|0=>0|85=>285|2=>2|168=>249|53=>205|175=>208|46=>146|210=>271|127=>241|145=>282|143=>280|21=>21|171=>252|173=>255|212=>274|51=>257|20=>20|213=>275|232=>287|233=>288|80=>220|n=>n,fun|15=>0|16=>1|17=>2|18=>4|19=>5|n=>n⟩
def Tryz.laysM246_ren:Go.Shelf.Ren:=⟨fun|246=>289|283=>316|284=>317|285=>318|286=>319|129=>337|317=>336|318=>338|319=>339|320=>340|337=>346|338=>347|n=>n,fun|2=>2|3=>3|9=>9|4=>4|171=>252|0=>0|53=>205|37=>22|5=>5|173=>255|212=>274|51=>257|20=>20|213=>275|46=>146|232=>287|233=>288|n=>n,fun|17=>2|18=>4|19=>5|n=>n⟩
def Tryz.laysM243_ren:Go.Shelf.Ren:=⟨fun|243=>288|246=>289|283=>316|284=>317|285=>318|286=>319|129=>337|317=>336|318=>338|319=>339|320=>340|337=>346|338=>347|n=>n,fun|3=>3|9=>9|2=>2|4=>4|171=>252|0=>0|53=>205|37=>22|5=>5|173=>255|212=>274|51=>257|20=>20|213=>275|46=>146|232=>287|233=>288|n=>n,fun|17=>2|18=>4|19=>5|n=>n⟩
def Tryz.laysM171_ren:Go.Shelf.Ren:=⟨fun|171=>242|243=>288|246=>289|283=>316|284=>317|285=>318|286=>319|129=>337|317=>336|318=>338|319=>339|320=>340|337=>346|338=>347|n=>n,fun|3=>3|9=>9|2=>2|4=>4|171=>252|0=>0|53=>205|37=>22|5=>5|173=>255|212=>274|51=>257|20=>20|213=>275|46=>146|232=>287|233=>288|n=>n,fun|17=>2|18=>4|19=>5|n=>n⟩
theorem Tryz.laysM171:Go.Proofs.LaysM.n171 Tryz.prog Tryz.laysM171_ren:={
 mixed:=by kernel_rfl
 f129:=Tryz.func337.trans (congrArg some (by kernel_rfl))
 f171:=Tryz.func242.trans (congrArg some (by kernel_rfl))
 f243:=Tryz.func288.trans (congrArg some (by kernel_rfl))
 f246:=Tryz.func289.trans (congrArg some (by kernel_rfl))
 f283:=Tryz.func316.trans (congrArg some (by kernel_rfl))
 f284:=Tryz.func317.trans (congrArg some (by kernel_rfl))
 f285:=Tryz.func318.trans (congrArg some (by kernel_rfl))
 f286:=Tryz.func319.trans (congrArg some (by kernel_rfl))
 f317:=Tryz.func336.trans (congrArg some (by kernel_rfl))
 f318:=Tryz.func338.trans (congrArg some (by kernel_rfl))
 f319:=Tryz.func339.trans (congrArg some (by kernel_rfl))
 f320:=Tryz.func340.trans (congrArg some (by kernel_rfl))
 f337:=Tryz.func346.trans (congrArg some (by kernel_rfl))
 f338:=Tryz.func347.trans (congrArg some (by kernel_rfl))
 t0:=Tryz.underlying0
 a0:=Tryz.isAgg0
 z0:=Tryz.sizeOf0
 v0:=Tryz.zeroValue0
 t2:=Tryz.underlying2
 a2:=Tryz.isAgg2
 z2:=Tryz.sizeOf2
 v2:=Tryz.zeroValue2
 t3:=Tryz.underlying3
 a3:=Tryz.isAgg3
 z3:=Tryz.sizeOf3
 v3:=Tryz.zeroValue3
 t4:=Tryz.underlying4
 a4:=Tryz.isAgg4
 z4:=Tryz.sizeOf4
 v4:=Tryz.zeroValue4
 t5:=Tryz.underlying5
 a5:=Tryz.isAgg5
 z5:=Tryz.sizeOf5
 v5:=Tryz.zeroValue5
 t9:=Tryz.underlying9
 a9:=Tryz.isAgg9
 z9:=Tryz.sizeOf9
 v9:=Tryz.zeroValue9
 t20:=Tryz.underlying20
 a20:=Tryz.isAgg20
 z20:=Tryz.sizeOf20
 v20:=Tryz.zeroValue20
 t37:=Tryz.underlying22
 a37:=Tryz.isAgg22
 z37:=Tryz.sizeOf22
 v37:=Tryz.zeroValue22
 t46:=Tryz.underlying146
 a46:=Tryz.isAgg146
 z46:=Tryz.sizeOf146
 v46:=Tryz.zeroValue146
 t51:=Tryz.underlying257
 a51:=Tryz.isAgg257
 z51:=Tryz.sizeOf257
 v51:=Tryz.zeroValue257
 t53:=Tryz.underlying205
 a53:=Tryz.isAgg205
 z53:=Tryz.sizeOf205
 v53:=Tryz.zeroValue205
 t171:=Tryz.underlying252
 a171:=Tryz.isAgg252
 z171:=Tryz.sizeOf252
 v171:=Tryz.zeroValue252
 t173:=Tryz.underlying255
 a173:=Tryz.isAgg255
 z173:=Tryz.sizeOf255
 v173:=Tryz.zeroValue255
 t212:=Tryz.underlying274
 a212:=Tryz.isAgg274
 z212:=Tryz.sizeOf274
 v212:=Tryz.zeroValue274
 t213:=Tryz.underlying275
 a213:=Tryz.isAgg275
 z213:=Tryz.sizeOf275
 t232:=Tryz.underlying287
 a232:=Tryz.isAgg287
 z232:=Tryz.sizeOf287
 v232:=Tryz.zeroValue287
 t233:=Tryz.underlying288
 a233:=Tryz.isAgg288
 z233:=Tryz.sizeOf288
 v233:=Tryz.zeroValue288
 g17:=by kernel_rfl
 g18:=by kernel_rfl
 g19:=by kernel_rfl
 i0:=by kernel_rfl
 i2:=by kernel_rfl
 i3:=by kernel_rfl
 i4:=by kernel_rfl
 i5:=by kernel_rfl
 i9:=by kernel_rfl
 i20:=by kernel_rfl
 i37:=by kernel_rfl
 i46:=by kernel_rfl
 i51:=by kernel_rfl
 i53:=by kernel_rfl
 i171:=by kernel_rfl
 i173:=by kernel_rfl
 i212:=by kernel_rfl
 i232:=by kernel_rfl
 i233:=by kernel_rfl
 m17:=by kernel_rfl
 m18:=by kernel_rfl
 m19:=by kernel_rfl}
open Go.RowKit Go.Sort Go.Lib in
theorem Tryz.strconv_Itoa(n:Int)(h0: -9223372036854775808≤n)(h1:n≤9223372036854775807)(w:World)(htab:Lib.TabIs Tryz.prog w "internal/strconv.uint64pow10" .u64 Lib.pow10Tab):
  Calls Tryz.prog 242 #[.int .i64 n] w fun e w'=>e= .returned (.string ⟨(Lib.itoa n).toArray⟩)∧∃k os,w'=grow (w.drewN k) os:=Any.strconv_Itoa Tryz.laysM171 n h0 h1 w htab
def Tryz.laysC245_ren:Go.Shelf.Ren:=⟨fun|245=>279|279=>312|280=>313|281=>314|282=>315|316=>334|171=>242|205=>335|243=>288|246=>289|283=>316|284=>317|285=>318|286=>319|129=>337|317=>336|318=>338|319=>339|320=>340|337=>346|338=>347|n=>n,fun|9=>9|3=>3|75=>207|167=>247|4=>4|168=>249|210=>271|37=>22|0=>0|127=>241|145=>282|143=>280|2=>2|171=>252|53=>205|5=>5|173=>255|212=>274|51=>257|20=>20|213=>275|46=>146|232=>287|233=>288|80=>220|n=>n,fun|15=>0|16=>1|17=>2|18=>4|19=>5|n=>n⟩
theorem Tryz.laysC245:Go.Proofs.LaysC.n245 Tryz.prog Tryz.laysC245_ren:={
 mixed:=by kernel_rfl
 f129:=Tryz.func337.trans (congrArg some (by kernel_rfl))
 f171:=Tryz.func242.trans (congrArg some (by kernel_rfl))
 f205:=Tryz.func335.trans (congrArg some (by kernel_rfl))
 f243:=Tryz.func288.trans (congrArg some (by kernel_rfl))
 f245:=Tryz.func279.trans (congrArg some (by kernel_rfl))
 f246:=Tryz.func289.trans (congrArg some (by kernel_rfl))
 f279:=Tryz.func312.trans (congrArg some (by kernel_rfl))
 f280:=Tryz.func313.trans (congrArg some (by kernel_rfl))
 f281:=Tryz.func314.trans (congrArg some (by kernel_rfl))
 f282:=Tryz.func315.trans (congrArg some (by kernel_rfl))
 f283:=Tryz.func316.trans (congrArg some (by kernel_rfl))
 f284:=Tryz.func317.trans (congrArg some (by kernel_rfl))
 f285:=Tryz.func318.trans (congrArg some (by kernel_rfl))
 f286:=Tryz.func319.trans (congrArg some (by kernel_rfl))
 f316:=Tryz.func334.trans (congrArg some (by kernel_rfl))
 f317:=Tryz.func336.trans (congrArg some (by kernel_rfl))
 f318:=Tryz.func338.trans (congrArg some (by kernel_rfl))
 f319:=Tryz.func339.trans (congrArg some (by kernel_rfl))
 f320:=Tryz.func340.trans (congrArg some (by kernel_rfl))
 f337:=Tryz.func346.trans (congrArg some (by kernel_rfl))
 f338:=Tryz.func347.trans (congrArg some (by kernel_rfl))
 t0:=Tryz.underlying0
 a0:=Tryz.isAgg0
 z0:=Tryz.sizeOf0
 v0:=Tryz.zeroValue0
 t2:=Tryz.underlying2
 a2:=Tryz.isAgg2
 z2:=Tryz.sizeOf2
 v2:=Tryz.zeroValue2
 t3:=Tryz.underlying3
 a3:=Tryz.isAgg3
 z3:=Tryz.sizeOf3
 v3:=Tryz.zeroValue3
 t4:=Tryz.underlying4
 a4:=Tryz.isAgg4
 z4:=Tryz.sizeOf4
 v4:=Tryz.zeroValue4
 t5:=Tryz.underlying5
 a5:=Tryz.isAgg5
 z5:=Tryz.sizeOf5
 v5:=Tryz.zeroValue5
 t9:=Tryz.underlying9
 a9:=Tryz.isAgg9
 z9:=Tryz.sizeOf9
 v9:=Tryz.zeroValue9
 t20:=Tryz.underlying20
 a20:=Tryz.isAgg20
 z20:=Tryz.sizeOf20
 v20:=Tryz.zeroValue20
 t37:=Tryz.underlying22
 a37:=Tryz.isAgg22
 z37:=Tryz.sizeOf22
 v37:=Tryz.zeroValue22
 t46:=Tryz.underlying146
 a46:=Tryz.isAgg146
 z46:=Tryz.sizeOf146
 v46:=Tryz.zeroValue146
 t51:=Tryz.underlying257
 a51:=Tryz.isAgg257
 z51:=Tryz.sizeOf257
 v51:=Tryz.zeroValue257
 t53:=Tryz.underlying205
 a53:=Tryz.isAgg205
 z53:=Tryz.sizeOf205
 v53:=Tryz.zeroValue205
 t75:=Tryz.underlying207
 a75:=Tryz.isAgg207
 z75:=Tryz.sizeOf207
 v75:=Tryz.zeroValue207
 t127:=Tryz.underlying241
 a127:=Tryz.isAgg241
 z127:=Tryz.sizeOf241
 v127:=Tryz.zeroValue241
 t143:=Tryz.underlying280
 a143:=Tryz.isAgg280
 z143:=Tryz.sizeOf280
 v143:=Tryz.zeroValue280
 t145:=Tryz.underlying282
 a145:=Tryz.isAgg282
 z145:=Tryz.sizeOf282
 v145:=Tryz.zeroValue282
 t167:=Tryz.underlying247
 a167:=Tryz.isAgg247
 z167:=Tryz.sizeOf247
 v167:=Tryz.zeroValue247
 t168:=Tryz.underlying249
 a168:=Tryz.isAgg249
 z168:=Tryz.sizeOf249
 v168:=Tryz.zeroValue249
 t171:=Tryz.underlying252
 a171:=Tryz.isAgg252
 z171:=Tryz.sizeOf252
 v171:=Tryz.zeroValue252
 t173:=Tryz.underlying255
 a173:=Tryz.isAgg255
 z173:=Tryz.sizeOf255
 v173:=Tryz.zeroValue255
 t210:=Tryz.underlying271
 a210:=Tryz.isAgg271
 z210:=Tryz.sizeOf271
 v210:=Tryz.zeroValue271
 t212:=Tryz.underlying274
 a212:=Tryz.isAgg274
 z212:=Tryz.sizeOf274
 v212:=Tryz.zeroValue274
 t213:=Tryz.underlying275
 a213:=Tryz.isAgg275
 z213:=Tryz.sizeOf275
 t232:=Tryz.underlying287
 a232:=Tryz.isAgg287
 z232:=Tryz.sizeOf287
 v232:=Tryz.zeroValue287
 t233:=Tryz.underlying288
 a233:=Tryz.isAgg288
 z233:=Tryz.sizeOf288
 v233:=Tryz.zeroValue288
 g15:=by kernel_rfl
 g16:=by kernel_rfl
 g17:=by kernel_rfl
 g18:=by kernel_rfl
 g19:=by kernel_rfl
 t80:=Tryz.underlying220
 a80:=Tryz.isAgg220
 z80:=Tryz.sizeOf220
 v80:=Tryz.zeroValue220
 i0:=by kernel_rfl
 i2:=by kernel_rfl
 i3:=by kernel_rfl
 i4:=by kernel_rfl
 i5:=by kernel_rfl
 i9:=by kernel_rfl
 i20:=by kernel_rfl
 i37:=by kernel_rfl
 i46:=by kernel_rfl
 i51:=by kernel_rfl
 i53:=by kernel_rfl
 i75:=by kernel_rfl
 i80:=by kernel_rfl
 i127:=by kernel_rfl
 i143:=by kernel_rfl
 i145:=by kernel_rfl
 i167:=by kernel_rfl
 i168:=by kernel_rfl
 i171:=by kernel_rfl
 i173:=by kernel_rfl
 i210:=by kernel_rfl
 i212:=by kernel_rfl
 i232:=by kernel_rfl
 i233:=by kernel_rfl
 m15:=by kernel_rfl
 m16:=by kernel_rfl
 m17:=by kernel_rfl
 m18:=by kernel_rfl
 m19:=by kernel_rfl
 c0:=by kernel_rfl
 c2:=by kernel_rfl
 c3:=by kernel_rfl
 c4:=by kernel_rfl
 c5:=by kernel_rfl
 c9:=by kernel_rfl
 c20:=by kernel_rfl
 c37:=by kernel_rfl
 c46:=by kernel_rfl
 c51:=by kernel_rfl
 c53:=by kernel_rfl
 c75:=by kernel_rfl
 c80:=by kernel_rfl
 c127:=by kernel_rfl
 c143:=by kernel_rfl
 c145:=by kernel_rfl
 c167:=by kernel_rfl
 c168:=by kernel_rfl
 c171:=by kernel_rfl
 c173:=by kernel_rfl
 c210:=by kernel_rfl
 c212:=by kernel_rfl
 c213:=by kernel_rfl
 c232:=by kernel_rfl
 c233:=by kernel_rfl}
open Go.RowKit in
theorem Tryz.strconv_toError_syntax(fn s:ByteArray)(base bits:Int)(ev:Value)(w:World)(hlim:s.size≤281474976710656)(hv:w.cell? ⟨0,0,none⟩=some ev)(hev:ev= .nilIface∨∃te pe,ev= .iface te pe):
  Calls Tryz.prog 279 #[.string fn,.string s,.int .i64 base,.int .i64 bits,.iface 247 (.int .i64 2)] w fun e w'=>∃N,e= .returned (.iface 249 (.pointer (some ⟨N,0,none⟩)))∧w.heap.size≤N∧w'.heap[N]? =some (.cells #[.string fn,.string s,ev] 271 (0,0))∧Below w.heap.size w w':=Any.strconv_toError_syntax Tryz.laysC245 fn s base bits ev w hlim hv hev
def Tryz.lays287_ren:Go.Shelf.Ren:=⟨fun|287=>278|321=>310|322=>311|n=>n,fun|9=>9|3=>3|53=>205|75=>207|4=>4|167=>247|5=>5|46=>146|37=>22|0=>0|21=>21|80=>220|n=>n,fun|n=>n⟩
theorem Tryz.lays287:Go.Proofs.Lays.n287 Tryz.prog Tryz.lays287_ren:={
 mixed:=by kernel_rfl
 f287:=Tryz.func278.trans (congrArg some (by kernel_rfl))
 f321:=Tryz.func310.trans (congrArg some (by kernel_rfl))
 f322:=Tryz.func311.trans (congrArg some (by kernel_rfl))
 t0:=Tryz.underlying0
 a0:=Tryz.isAgg0
 z0:=Tryz.sizeOf0
 v0:=Tryz.zeroValue0
 t3:=Tryz.underlying3
 a3:=Tryz.isAgg3
 z3:=Tryz.sizeOf3
 v3:=Tryz.zeroValue3
 t4:=Tryz.underlying4
 a4:=Tryz.isAgg4
 z4:=Tryz.sizeOf4
 v4:=Tryz.zeroValue4
 t5:=Tryz.underlying5
 a5:=Tryz.isAgg5
 z5:=Tryz.sizeOf5
 v5:=Tryz.zeroValue5
 t9:=Tryz.underlying9
 a9:=Tryz.isAgg9
 z9:=Tryz.sizeOf9
 v9:=Tryz.zeroValue9
 t21:=Tryz.underlying21
 a21:=Tryz.isAgg21
 z21:=Tryz.sizeOf21
 v21:=Tryz.zeroValue21
 t37:=Tryz.underlying22
 a37:=Tryz.isAgg22
 z37:=Tryz.sizeOf22
 v37:=Tryz.zeroValue22
 t46:=Tryz.underlying146
 a46:=Tryz.isAgg146
 z46:=Tryz.sizeOf146
 v46:=Tryz.zeroValue146
 t53:=Tryz.underlying205
 a53:=Tryz.isAgg205
 z53:=Tryz.sizeOf205
 v53:=Tryz.zeroValue205
 t75:=Tryz.underlying207
 a75:=Tryz.isAgg207
 z75:=Tryz.sizeOf207
 v75:=Tryz.zeroValue207
 t167:=Tryz.underlying247
 a167:=Tryz.isAgg247
 z167:=Tryz.sizeOf247
 v167:=Tryz.zeroValue247}
def Tryz.lays105_ren:Go.Shelf.Ren:=⟨fun|105=>244|212=>290|99=>291|165=>292|166=>250|170=>252|169=>254|263=>320|264=>321|206=>322|240=>295|241=>323|276=>325|277=>341|n=>n,fun|9=>9|3=>3|4=>4|20=>20|0=>0|46=>146|109=>237|5=>5|72=>216|76=>217|51=>257|146=>258|53=>205|148=>260|70=>214|37=>22|75=>207|127=>241|164=>263|80=>220|n=>n,fun|n=>n⟩
theorem Tryz.lays105:Go.Proofs.Lays.n105 Tryz.prog Tryz.lays105_ren:={
 mixed:=by kernel_rfl
 f99:=Tryz.func291.trans (congrArg some (by kernel_rfl))
 f105:=Tryz.func244.trans (congrArg some (by kernel_rfl))
 f165:=Tryz.func292.trans (congrArg some (by kernel_rfl))
 f166:=Tryz.func250.trans (congrArg some (by kernel_rfl))
 f169:=Tryz.func254.trans (congrArg some (by kernel_rfl))
 f170:=Tryz.func252.trans (congrArg some (by kernel_rfl))
 f206:=Tryz.func322.trans (congrArg some (by kernel_rfl))
 f212:=Tryz.func290.trans (congrArg some (by kernel_rfl))
 f240:=Tryz.func295.trans (congrArg some (by kernel_rfl))
 f241:=Tryz.func323.trans (congrArg some (by kernel_rfl))
 f263:=Tryz.func320.trans (congrArg some (by kernel_rfl))
 f264:=Tryz.func321.trans (congrArg some (by kernel_rfl))
 f276:=Tryz.func325.trans (congrArg some (by kernel_rfl))
 f277:=Tryz.func341.trans (congrArg some (by kernel_rfl))
 t0:=Tryz.underlying0
 a0:=Tryz.isAgg0
 z0:=Tryz.sizeOf0
 v0:=Tryz.zeroValue0
 t3:=Tryz.underlying3
 a3:=Tryz.isAgg3
 z3:=Tryz.sizeOf3
 v3:=Tryz.zeroValue3
 t4:=Tryz.underlying4
 a4:=Tryz.isAgg4
 z4:=Tryz.sizeOf4
 v4:=Tryz.zeroValue4
 t5:=Tryz.underlying5
 a5:=Tryz.isAgg5
 z5:=Tryz.sizeOf5
 v5:=Tryz.zeroValue5
 t9:=Tryz.underlying9
 a9:=Tryz.isAgg9
 z9:=Tryz.sizeOf9
 v9:=Tryz.zeroValue9
 t20:=Tryz.underlying20
 a20:=Tryz.isAgg20
 z20:=Tryz.sizeOf20
 v20:=Tryz.zeroValue20
 t37:=Tryz.underlying22
 a37:=Tryz.isAgg22
 z37:=Tryz.sizeOf22
 v37:=Tryz.zeroValue22
 t46:=Tryz.underlying146
 a46:=Tryz.isAgg146
 z46:=Tryz.sizeOf146
 v46:=Tryz.zeroValue146
 t51:=Tryz.underlying257
 a51:=Tryz.isAgg257
 z51:=Tryz.sizeOf257
 v51:=Tryz.zeroValue257
 t53:=Tryz.underlying205
 a53:=Tryz.isAgg205
 z53:=Tryz.sizeOf205
 v53:=Tryz.zeroValue205
 t70:=Tryz.underlying214
 a70:=Tryz.isAgg214
 z70:=Tryz.sizeOf214
 v70:=Tryz.zeroValue214
 t72:=Tryz.underlying216
 a72:=Tryz.isAgg216
 z72:=Tryz.sizeOf216
 v72:=Tryz.zeroValue216
 t75:=Tryz.underlying207
 a75:=Tryz.isAgg207
 z75:=Tryz.sizeOf207
 v75:=Tryz.zeroValue207
 t76:=Tryz.underlying217
 a76:=Tryz.isAgg217
 z76:=Tryz.sizeOf217
 v76:=Tryz.zeroValue217
 t109:=Tryz.underlying237
 a109:=Tryz.isAgg237
 z109:=Tryz.sizeOf237
 v109:=Tryz.zeroValue237
 t127:=Tryz.underlying241
 a127:=Tryz.isAgg241
 z127:=Tryz.sizeOf241
 v127:=Tryz.zeroValue241
 t146:=Tryz.underlying258
 a146:=Tryz.isAgg258
 z146:=Tryz.sizeOf258
 v146:=Tryz.zeroValue258
 t148:=Tryz.underlying260
 a148:=Tryz.isAgg260
 z148:=Tryz.sizeOf260
 v148:=Tryz.zeroValue260
 t164:=Tryz.underlying263
 a164:=Tryz.isAgg263
 z164:=Tryz.sizeOf263
 v164:=Tryz.zeroValue263}
theorem Tryz.Builder_Extra_105:Builder.Extra Tryz.prog Tryz.lays105_ren:={
 sizeBuilder:=by kernel_rfl
 liesBuilder:=by kernel_rfl
 t5:=Tryz.underlying5
 a5:=Tryz.isAgg5
 z5:=Tryz.sizeOf5
 v5:=Tryz.zeroValue5
 infoByte:=by kernel_rfl
 cellsByte:=by kernel_rfl
 sizeByte:=by kernel_rfl
 neB5:=by decide}
open Go.RowKit Go.Lib in
theorem Tryz.strings_Repeat(s:ByteArray)(c:Nat)(w:World)(hc:c≤9223372036854775807)(hlen:s.size*c≤140737488355328):
  Calls Tryz.prog 244 #[.string s,.int .i64 c] w fun e w'=>e= .returned (.string ⟨(Lib.repeatL s.data.toList c).toArray⟩)∧Below w.heap.size w w':=Any.strings_Repeat Tryz.lays105 Tryz.Builder_Extra_105 s c w hc hlen
end
section
open Go Go.Proofs
set_option maxRecDepth 20000
set_option maxHeartbeats 4000000
def Xd5:List (Nat×TyRow):=[ty2,ty3,ty4,ty5,ty9,Xgo,XkO,XlM]
theorem XdC:Bl Tryz.prog Xd5:=Bl.of (by kernel_rfl)
theorem M6:Setup Tryz.prog Xd5:=⟨XdC,mixed⟩
def dig(n:Nat):UInt8:=if n% 16<10 then UInt8.ofNat (48+n% 16)else UInt8.ofNat (87+n% 16)
def Y5:Nat→Nat→List UInt8
 |0,_=>[]
 |k+1,n=>Y5 k (n/16)++[dig n]
def Xco(n:Nat):List UInt8:=if h:n<16 then[dig n]else Xco (n/16)++[dig n]
termination_by n
decreasing_by omega
theorem R8{n:Nat}(h:n<16):Xco n=[dig n]:=by rw[Xco,dif_pos h]
theorem Xaw{n:Nat}(h:¬n<16):Xco n=Xco (n/16)++[dig n]:=by rw[Xco,dif_neg h]
theorem XiT:dig 0=48:=rfl
theorem XaX:∀(k:Nat),Y5 k 0=List.replicate k 48
 |0=>rfl
 |k+1=>by rw[Y5,Nat.zero_div,XaX k,XiT,List.replicate_succ']
theorem Q6:∀(k n:Nat),(Y5 k n).length=k
 |0,_=>rfl
 |k+1,n=>by rw[Y5,List.length_append,Q6];rfl
theorem Xj0:∀(k n:Nat),n<16^ (k+1)→Y5 (k+1) n=List.replicate (k+1 - (Xco n).length) 48++Xco n∧1≤(Xco n).length∧(Xco n).length≤k+1
 |0,n,h=>by
  have h:n<16:=by simpa using h
  rw[R8 h]
  simp[Y5]
 |k+1,n,h=>by
  by_cases hn:n<16
  ·rw[R8 hn,Y5,Nat.div_eq_of_lt hn,XaX]
   simp
  ·have h2:n/16<16^ (k+1):=by rw[Nat.pow_succ]at h;omega
   obtain⟨i1,i2,i3⟩:=Xj0 k (n/16) h2
   rw[Xaw hn,Y5,i1,List.length_append,List.length_singleton,List.append_assoc]
   refine⟨?_,by omega,by omega⟩
   congr 2
   omega
def Af(n:Int):ByteArray:=if 0≤n∧n≤1000000000 then tx (115::(Y5 8 n.toNat++[46,115,101,103]))else tx []
theorem Dx{n:Int}{o:ByteArray}(e:Af n=o):o.size≤13:=by
 rw[←e]
 unfold Af
 split
 ·rw[A3,List.length_cons,List.length_append,Q6];simp
 ·simp[A3]
theorem digL:∀(j:Nat) (h:j<(⟨⟨[48,49,50,51,52,53,54,55,56,57,97,98,99,100,101,102]⟩⟩:ByteArray).size),(⟨⟨[48,49,50,51,52,53,54,55,56,57,97,98,99,100,101,102]⟩⟩:ByteArray)[j]=dig j:=by
 have key:∀j:Fin 16,(⟨⟨[48,49,50,51,52,53,54,55,56,57,97,98,99,100,101,102]⟩⟩:ByteArray)[j.val]'j.isLt=dig j.val:=by decide
 intro j h
 exact key ⟨j,h⟩
theorem XdL(n:Nat):dig (n% 16)=dig n:=by unfold dig;rw[Nat.mod_mod]
theorem and15(a:Int):Ku .and .i64 a 15=a% 16:=Iz (k:=4) (by omega)
theorem XlP{x:Nat}(h:x<18446744073709551616):Ku .and .u64 (x:Int) 15=((x% 16:Nat):Int):=by
 show IntKind.u64.wrap ((BitVec.ofInt 64 (x:Int)&&&BitVec.ofInt 64 ((15:Nat):Int)).toNat:Int)=_
 rw[BitVec.toNat_and,Jb (by omega),Jb (by omega),F3,show(15:Nat)=2^4 - 1 from rfl,Nat.and_two_pow_sub_one_eq_mod]
 omega
theorem digF:∀(j:Nat) (hj:j<16) (h:j<(⟨⟨[48,49,50,51,52,53,54,55,56,57,97,98,99,100,101,102,103,104,105,106,107,108,109,110,111,112,113,114,115,116,117,118,119,120,121,122]⟩⟩:ByteArray).size),(⟨⟨[48,49,50,51,52,53,54,55,56,57,97,98,99,100,101,102,103,104,105,106,107,108,109,110,111,112,113,114,115,116,117,118,119,120,121,122]⟩⟩:ByteArray)[j]=dig j:=by
 have key:∀j:Fin 16,(⟨⟨[48,49,50,51,52,53,54,55,56,57,97,98,99,100,101,102,103,104,105,106,107,108,109,110,111,112,113,114,115,116,117,118,119,120,121,122]⟩⟩:ByteArray)[j.val]'(Nat.lt_of_lt_of_le j.isLt (by decide))=dig j.val:=by decide
 intro j hj h
 exact key ⟨j,hj⟩
theorem XhQ{v:Int}{n:Nat}(h:v=((dig n).toNat:Int)):[D.sc (.int .u8 v)]=cB (dig n):=by rw[h];rfl
theorem Xep{α:Type}{l:List α}{p:Nat}{x:α}(h:p<l.length):(l.set p x).drop p=x::l.drop (p+1):=by
 rw[List.drop_eq_getElem_cons (by rw[List.length_set];exact h),List.getElem_set_self]
 congr 1
 rw[List.drop_set_of_lt (by omega)]
def Jh:Bool:=true
def Ov(_:Int):Int:=4
def Ml(u:Int):List UInt8×ByteArray:=([],tx (Xco u.toNat))
def Hk(n:Int):ByteArray:=tx (Xco n.toNat)
def Vi(n:Int):ByteArray:=tx (List.replicate n.toNat 48)
theorem tz64{w:World}(h:Lib.TabIs Tryz.prog w "math/bits.deBruijn64tab" .u8 S2):Calls Tryz.prog 347 #[.int .u64 16] w fun e w'=>e= .returned (.int .i64 4)∧w'=w:=by
 have hq:IntKind.u64.wrap (bits BinOp.and IntKind.u64 16 (IntKind.u64.wrap (-16))*285870213051353865)/288230376151711744=15:=by decide+kernel
 have hc:w.cell? ⟨5,15,none⟩=some (.int .u8 4):=h.cell gn5 15 (by decide)
 go_enter Tryz.func347,Tryz.ntmps347
 go_wp2
 go_ret
 exact⟨rfl,rfl⟩
theorem tz{w:World}(h:Lib.TabIs Tryz.prog w "math/bits.deBruijn64tab" .u8 S2):Calls Tryz.prog 340 #[.int .u64 16] w fun e w'=>e= .returned (.int .i64 4)∧w'=w:=by
 go_enter Tryz.func340,Tryz.ntmps340
 go_wp2_with (first
  |(go_at_call 347;refine(tz64 h).mono ?_;rintro e w' ⟨rfl,rfl⟩)
  |go_in)
 go_ret
 exact⟨rfl,rfl⟩
variable {o:ByteArray} {n:Int}
theorem Ld{x o:Int}(hx:x=16)(hr:Ov x=o):Fn Tryz.prog 340 [.d (.sc (.int .u64 x))] [] ⟨I o,[],[]⟩:=by
 refine⟨Gk Tryz.func340 rfl rfl,CallOk.ofCallsG fun E vs hS hG hA=>?_⟩
 obtain⟨u,rfl,h1⟩:=Xkw hA
 rw[R4 h1,hx]
 refine(tz (Xkk hG)).mono ?_
 rintro e w' ⟨rfl,rfl⟩
 exact⟨_,rfl,⟨rfl,rfl,rfl,Nat.le_refl _,fun _ _=>rfl⟩,by rw[←hr];exact .sc _ rfl⟩
theorem E6(hr:Af n=o):Fn Tryz.prog 69 [I n] [] ⟨S o,[],[]⟩:=by
 refine Fn.go M6 Tryz.func69 fun P hP Q hQ=>?_
 conv=>cbv
 generalize ac:Av n 0 1000000000=r1
 refine .dd hP (Cz ac) ?_
 cases r1
 simp only[Av,decide_eq_true_eq,decide_eq_false_iff_not]at ac
 conv=>cbv
 have e:(tx [])=Af n:=(by unfold Af;rw[if_neg (by omega)])
 rw[hr]at e
 subst e
 exact hQ _ _ (.s rfl rfl)
 simp only[Av,decide_eq_true_eq,decide_eq_false_iff_not]at ac
 conv=>cbv
 refine LoopW.lp (κ:=Int×(List (List D))×Nat) M6 hP [0] [0] (fun(i4,aa,ab)=>[(3,.ref 1 0 ab),(4,I i4)]) (fun(i4,aa,ab)=>[(1,.row 1 false aa)])
  (fun(i4,aa,ab)=>∃(w1:List UInt8),w1.map cB=aa∧ab=w1.length∧-1≤i4∧i4≤7∧w1=Y5 (7 - i4).toNat (n.toNat/16^ (i4+1).toNat))
  (fun(i4,aa,ab)=>(i4+1).toNat) (7,[],0) ⟨[],rfl,rfl,by omega,by omega,rfl⟩ ⟨rfl,rfl,trivial⟩ rfl ?_
 rintro⟨i4,aa,ab⟩ J ⟨w1,ad,an,h0,h1,hw⟩ hJ
 have hwl:w1.length=(7 - i4).toNat:=by rw[hw,Q6]
 have hsz:(⟨⟨[48,49,50,51,52,53,54,55,56,57,97,98,99,100,101,102]⟩⟩:ByteArray).size=16:=rfl
 conv=>cbv
 refine .geq (fun h2=>?_) fun h2=>?_
 conv=>cbv
 refine .mul fun v3 ap=>?_
 conv=>cbv
 refine .go fun v4 af=>?_
 conv=>cbv
 have e4:v4=v3:=by rw[af,F3];omega
 refine .shr fun v5 ag=>?_
 conv=>cbv
 refine .and fun v6 ah=>?_
 conv=>cbv
 have e5:v5=((n.toNat/16^i4.toNat:Nat):Int):=by
  have e2:(2:Int)^v4.toNat=((16^i4.toNat:Nat):Int):=by
   rw[show v4.toNat=4*i4.toNat by omega,Int.pow_mul,Int.natCast_pow]
   rfl
  rw[ag,e2,Int.natCast_ediv,Int.toNat_of_nonneg (by omega)]
 have e6:v6=((n.toNat/16^i4.toNat% 16:Nat):Int):=by rw[ah,and15,e5];omega
 have aq:n.toNat/16^i4.toNat% 16<16:=Nat.mod_lt _ (by omega)
 refine .go v6.toNat fun hjv7 v7 ai bv7=>?_
 conv=>cbv
 have e7:[D.sc (.int .u8 v7)]=cB (dig (n.toNat/16^i4.toNat)):=XhQ (by rw[ai,digL,e6,Int.toNat_natCast,XdL])
 refine .one (dig (n.toNat/16^i4.toNat)) ad e7 fun aj z8 ao ak=>?_
 conv=>cbv
 refine .sub fun v9 ar=>?_
 conv=>cbv
 exact .go [3] (v9,z8,aj) (hJ _ ⟨_,ak,Cv,by omega,by omega,by rw[hw,show(7 - v9).toNat=(7 - i4).toNat+1 by omega,Y5,show(v9+1).toNat=i4.toNat by omega,Nat.div_div_eq_div_mul,←Nat.pow_succ,show(i4+1).toNat=i4.toNat+1 by omega]⟩ mlt)
 conv=>cbv
 refine .go ad fun s3 ae=>?_
 conv=>cbv
 have au:s3.size=w1.length:=by rw[ae,A3]
 refine .litL 1 fun s4 al aw=>?_
 conv=>cbv
 refine .litR 4 fun s5 am ax=>?_
 conv=>cbv
 have e:s5=Af n:=(by unfold Af;rw[if_pos (by omega),am,al,ae,hw,show i4= -1 by omega];show tx [115]++tx _++tx [46,115,101,103]=_;rw[Cw,Cw];simp)
 rw[hr]at e
 subst e
 exact hQ _ _ (.s rfl rfl)
theorem Ig{o:Bool}(hr:Jh=o):Fn Tryz.prog 339 [I 16] [] ⟨B o,[],[]⟩:=by
 refine Fn.go M6 Tryz.func339 fun P hP Q hQ=>?_
 conv=>cbv
 refine .sub fun v1 aa=>?_
 conv=>cbv
 refine .and fun v2 ab=>?_
 conv=>cbv
 refine .eql (fun h3=>?_) fun h3=>?_
 conv=>cbv
 have e:true=Jh:=(by rfl)
 rw[hr]at e
 subst e
 exact hQ _ _ (.b rfl rfl)
 conv=>cbv
 have e:false=Jh:=(by exfalso;apply h3;rw[ab,aa];rfl)
 rw[hr]at e
 subst e
 exact hQ _ _ (.b rfl rfl)
theorem I7{u:Int}{oa:List UInt8}{xoa:List (List D)}{ob:ByteArray}(hu:0≤u∧u<4294967296)(hr:Ml u=(oa,ob))(hoa:oa.map cB=xoa):Fn Tryz.prog 319 [.d (.row 1 []),.d (.sc (.int .u64 u)),I 16,B false,B false] [] ⟨.tup [.d (.row 1 xoa),S ob],[],[]⟩:=by
 refine Fn.go M6 Tryz.func319 fun P hP Q hQ=>?_
 conv=>cbv
 refine .lss (fun h1=>?_) fun h1=>?_
 omega
 conv=>cbv
 refine .eql (fun h2=>?_) fun h2=>?_
 omega
 conv=>cbv
 refine .gtr (fun h3=>?_) fun h3=>?_
 omega
 conv=>cbv
 refine .go 65 hP (by kernel_rfl) fun z4 ay=>?_
 conv=>cbv
 generalize ai:Jh=r5
 refine .dd hP (Ig ai) ?_
 cases r5
 cases ai
 conv=>cbv
 refine .go fun v6 az=>?_
 conv=>cbv
 generalize aj:Ov v6=r7
 refine .dd hP (Ld (by rw[az,F3];rfl) aj) ?_
 conv=>cbv
 refine .go fun v8 a1=>?_
 conv=>cbv
 refine .go fun v9 a2=>?_
 conv=>cbv
 refine .go fun bj ak=>?_
 conv=>cbv
 refine .subW fun a6 al=>?_
 conv=>cbv
 refine LoopW.lp (κ:=Int×Int×(List (List D))) M6 hP [] [0,3,4,10,11,12,14,15,16] (fun(i1,aa,ab)=>[(1,.d (.sc (.int .u64 i1))),(13,I aa)]) (fun(i1,aa,ab)=>[(1,.row 1 false ab)])
  (fun(i1,aa,ab)=>∃(w1:List UInt8),w1.map cB=ab∧∃k:Nat,i1=((u.toNat/16^k:Nat):Int)∧aa=65 - (k:Int)∧k≤7∧w1.length=65∧Xco u.toNat=Xco (u.toNat/16^k)++w1.drop (65 - k))
  (fun(i1,aa,ab)=>(aa).toNat) (u,65,z4) ⟨(List.replicate 65 (0:UInt8)),ay,0,by simp;omega,rfl,by omega,by simp,by simp⟩ ⟨rfl,rfl,trivial⟩ rfl ?_
 rintro⟨i1,aa,ab⟩ J ⟨w1,am,k,af,bf,hk,hwl,hx⟩ hJ
 have e7:r7=4:=aj.symm
 have e8:v8=4:=by rw[a1,F3,e7];rfl
 have e9:v9=16:=by rw[a2,F3];rfl
 have a7:a6=15:=by rw[al,ak,F3,F3];rfl
 have hlt:u.toNat/16^k≤u.toNat:=Nat.div_le_self _ _
 have a8:16≤u.toNat/16^k→k<7:=by
  intro h
  rcases Nat.lt_or_ge k 7 with h7|h7
  ·exact h7
  ·obtain rfl:k=7:=by omega
   omega
 have hnx:u.toNat/16^ (k+1)=u.toNat/16^k/16:=by rw[Nat.pow_succ,←Nat.div_div_eq_div_mul]
 generalize hq:u.toNat/16^k=q at*
 conv=>cbv
 refine .geq (fun h12=>?_) fun h12=>?_
 conv=>cbv
 refine .sub fun ag an=>?_
 conv=>cbv
 refine .and fun ac ad=>?_
 conv=>cbv
 have h7:=a8 (by omega)
 have ah:ac=((q% 16:Nat):Int):=by rw[ad,a7,af,XlP (by omega)]
 have bg:q% 16<16:=Nat.mod_lt _ (by omega)
 refine .go ac.toNat (hj:=by show ac.toNat<36;omega) fun hjv15 ba ao bv15=>?_
 conv=>cbv
 refine .go hP Tryz.underlying275 (by kernel_rfl) fun ap bh=>?_
 conv=>cbv
 have bb:[D.sc (.int .u8 ba)]=cB (dig q):=XhQ (by rw[ao,digF _ (by omega),ah,Int.toNat_natCast,XdL])
 refine .all (dig q) am bb fun bc aq=>?_
 conv=>cbv
 refine .shrW fun bd ar=>?_
 conv=>cbv
 exact .go [] (bd,ag,bc) (hJ _ ⟨_,aq,k+1,by rw[ar,e8,af,Int.fdiv_eq_ediv_of_nonneg _ (by decide),hnx];show(q:Int)/16=_;omega,by omega,by omega,by rw[List.length_set];exact hwl,by rw[hx,Xaw (show¬q<16 by omega),List.append_assoc,hnx,show 65 - (k+1)=ap by omega,Xep (by omega),show ap+1=65 - k by omega];rfl⟩ mlt)
 conv=>cbv
 refine .sub fun ag an=>?_
 conv=>cbv
 refine .go i1.toNat (hj:=by show i1.toNat<36;omega) fun hjv14 ac ad bv14=>?_
 conv=>cbv
 refine .go hP Tryz.underlying275 (by kernel_rfl) fun au bi=>?_
 conv=>cbv
 have ah:[D.sc (.int .u8 ac)]=cB (dig q):=XhQ (by rw[ad,digF _ (by omega),af,Int.toNat_natCast])
 refine .all (dig q) am ah fun bk ae=>?_
 conv=>cbv
 refine .lo hP ae Tryz.underlying275 (by kernel_rfl) fun on17 bl hon17 aw=>?_
 conv=>cbv
 refine .off ae fun be ax=>?_
 conv=>cbv
 have e:([],be)=Ml u:=(by unfold Ml;rw[ax,hx,R8 (show q<16 by omega),hon17,aw,show ag.toNat=au by omega,Xep (by omega),show au+1=65 - k by omega,List.take_of_length_le (by simp;omega)];rfl)
 rw[hr]at e
 simp only[Prod.mk.injEq]at e
 obtain⟨rfl,rfl⟩:=e
 refine hQ _ _ ?_
 exact .many (.inl rfl) rfl rfl (.ref rfl rfl (by rw[←hoa];rfl) (.d rfl rfl (.nil)))
theorem Jl(hn:0≤n∧n≤1000000000)(hr:Hk n=o):Fn Tryz.prog 289 [I n,I 16] [] ⟨S o,[],[]⟩:=by
 refine Fn.go M6 Tryz.func289 fun P hP Q hQ=>?_
 conv=>cbv
 refine .eql (fun h1=>?_) fun h1=>?_
 omega
 conv=>cbv
 refine .go fun v2 aa=>?_
 conv=>cbv
 refine .lss (fun h3=>?_) fun h3=>?_
 omega
 conv=>cbv
 rcases ab:Ml v2 with⟨ad,ae⟩
 generalize ac:ad.map cB=af
 refine .dd hP (I7 (by rw[aa,F3];omega) ab ac) ?_
 conv=>cbv
 have e:ae=Hk n:=(by have e2:v2=n:=(by rw[aa,F3];omega);unfold Hk;rw[←e2];exact(congrArg Prod.snd ab).symm)
 rw[hr]at e
 subst e
 exact hQ _ _ (.s rfl rfl)
theorem Pg(hn:0≤n∧n≤1000000000)(hr:Hk n=o):Fn Tryz.prog 243 [I n,I 16] [] ⟨S o,[],[]⟩:=by
 refine Fn.go M6 Tryz.func243 fun P hP Q hQ=>?_
 conv=>cbv
 generalize aa:Hk n=r1
 refine .dd hP (Jl hn aa) ?_
 conv=>cbv
 have e:r1=Hk n:=(by exact aa.symm)
 rw[hr]at e
 subst e
 exact hQ _ _ (.s rfl rfl)
theorem Tn{c:Int}(hc:0≤c∧c≤8)(hr:Vi c=o):Fn Tryz.prog 244 [S (tx [48]),I c] [] ⟨S o,[],[]⟩:=by
 refine⟨Gk Tryz.func244 rfl rfl,CallOk.ofCalls fun E vs hS hA=>?_⟩
 obtain⟨u,v,rfl,h1,h2⟩:=args2 hA
 rw[R4 h1,R4 h2]
 obtain⟨k,rfl⟩:=Int.eq_ofNat_of_zero_le hc.1
 refine(Tryz.strings_Repeat (tx [48]) k E.w (by omega) (by rw[A3];simp;omega)).mono ?_
 rintro e w' ⟨rfl,hb⟩
 refine⟨_,rfl,hb,?_⟩
 have:(⟨(Lib.repeatL (tx [48]).data.toList k).toArray⟩:ByteArray)=o:=by
  rw[←hr]
  unfold Vi tx
  congr 2
  rw[Int.toNat_natCast]
  have key:∀k,Lib.repeatL (tx [48]).data.toList k=List.replicate k 48:=by
   intro k
   induction k with
   |zero=>rfl
   |succ k ih=>show[48]++Lib.repeatL _ k=_;rw[ih];rfl
  exact key k
 rw[this]
 exact .sc _ rfl
theorem Gn(hr:Af n=o):Fn Tryz.prog 182 [I n] [] ⟨S o,[],[]⟩:=by
 refine Fn.go M6 Tryz.func182 fun P hP Q hQ=>?_
 conv=>cbv
 generalize aa:Bc n=r1
 refine .dd hP (Fy aa) ?_
 cases r1
 simp only[Bc,decide_eq_true_eq,decide_eq_false_iff_not]at aa
 conv=>cbv
 have e:(tx [])=Af n:=(by unfold Af;rw[if_neg (by omega)])
 rw[hr]at e
 subst e
 exact hQ _ _ (.s rfl rfl)
 simp only[Bc,decide_eq_true_eq,decide_eq_false_iff_not]at aa
 conv=>cbv
 generalize ab:Hk n=r2
 refine .dd hP (Pg aa ab) ?_
 conv=>cbv
 obtain⟨p1,p2,p3⟩:=Xj0 7 n.toNat (by omega)
 have z2:r2.size=(Xco n.toNat).length:=by rw[←ab];exact A3
 refine .go fun v3 ag=>?_
 conv=>cbv
 refine .sub fun v4 ah=>?_
 conv=>cbv
 generalize ac:Vi v4=r5
 refine .dd hP (Tn (by omega) ac) ?_
 conv=>cbv
 have z5:r5.size=v4.toNat:=by rw[←ac];unfold Vi;rw[A3,List.length_replicate]
 refine .litL 1 fun s6 ad ai=>?_
 conv=>cbv
 refine .go fun s7 ae aj=>?_
 conv=>cbv
 refine .litR 4 fun s8 af ak=>?_
 conv=>cbv
 have e:s8=Af n:=(by unfold Af;rw[if_pos (by omega),af,ae,ad,←ac,←ab,p1];unfold Vi Hk;show tx [115]++tx _++tx _++tx [46,115,101,103]=_;rw[Cw,Cw,Cw,show v4.toNat=7+1 - (Xco n.toNat).length by omega];simp)
 rw[hr]at e
 subst e
 exact hQ _ _ (.s rfl rfl)
end
section
open Go Go.Proofs
set_option maxRecDepth 20000
set_option maxHeartbeats 4000000
def XaD:List (Nat×TyRow):=[ty3,ty5,ty9,Xal]
theorem XaL:Bl Tryz.prog XaD:=Bl.of (by kernel_rfl)
theorem Oj:Setup Tryz.prog XaD:=⟨XaL,mixed⟩
open Go.RowKit
theorem CallOk.callsV{P:Program}{f:FuncId}{as0:List AV}{val:Value}(h:CallOk P f as0 [] ⟨.d (.sc val),[],[]⟩){w:World}(hG:Globs.ok w fun b=>b<w.heap.size){vs:Array Value}
  (hA:Xfr (Bh w (fun b=>b<w.heap.size) (fun _=>none) [] []) as0 vs):Calls P f vs w fun e w'=>e= .returned val∧Below w.heap.size w w':=by
 have hM:Mem (Ha w (fun b=>b<w.heap.size) (fun _=>none) []) (Bh w (fun b=>b<w.heap.size) (fun _=>none) [] []):={
  os:=rfl
  output:=rfl
  tape:=rfl
  size:=Nat.le_refl _
  keep:=fun _ _ _=>rfl
  shape:=fun _ _ h=>h
  s0:=fun _ h=>h
  slt:=fun _ h=>h
  glob:=hG
  snew:=fun _ h=>.inl h
  blt:=fun r b h=>absurd h (Nat.not_lt_zero r)
  bown:=fun r R b h=>absurd h (Nat.not_lt_zero r)
  bkeep:=fun r R h=>absurd h (Nat.not_lt_zero r)
  inj:=fun r r' R R' b h=>absurd h (Nat.not_lt_zero r)
  roots:=fun r R h=>absurd h (Nat.not_lt_zero r)}
 refine(h _ _ _ _ hM hA).mono ?_
 rintro e w' ⟨v,E',rfl,rfl,o⟩
 refine⟨?_,⟨o.mem.os,o.mem.tape,o.mem.output,o.mem.size,fun b hb=>o.mem.keep b hb (fun hn=>?_)⟩⟩
 ·have:=o.rel
  have h2:=R4 this
  rw[h2]
 ·obtain⟨r,R,h1,-⟩:=hn
  simp at h1
theorem D1{w w':World}(hG:Globs.ok w fun b=>b<w.heap.size)(hb:Below w.heap.size w w'):Globs.ok w' fun b=>b<w'.heap.size:=
 Globs.step (fun b h=>Nat.lt_of_lt_of_le h hb.size) (fun b h=>hb.block b h) hG
theorem XhJ{w:World}(hG:Globs.ok w fun b=>b<w.heap.size)(n:Int):Calls Tryz.prog 182 #[.int .i64 n] w fun e w'=>e= .returned (.string (Af n))∧Below w.heap.size w w':=by
 refine(Gn (n:=n) rfl).ok.callsV hG ⟨rfl,?_⟩
 intro j y hy
 match j,hy with
 |0,hy=>cases hy;exact .d _ _ (.sc _ rfl)
def Bm(n:Int):ByteArray:=if 0≤n∧n≤1000000000 then Af n++tx [46,116,109,112]else tx []
theorem Px{n:Int}{o:ByteArray}(e:Bm n=o):o.size≤17:=by
 rw[←e]
 unfold Bm
 split
 ·rw[ByteArray.size_append]
  have:=Dx (n:=n) rfl
  have:(tx [46,116,109,112]).size=4:=rfl
  omega
 ·simp[A3]
def H7(c:UInt8):Nat:=if 48≤c.toNat∧c.toNat≤57 then c.toNat - 48 else if 97≤c.toNat∧c.toNat≤102 then c.toNat - 87 else 16
def Fe:Nat→List UInt8→Option Nat
 |acc,[]=>some acc
 |acc,c::l=>if H7 c<16 then Fe (16*acc+H7 c) l else none
theorem Pa:∀(l:List UInt8) (acc:Nat) (c:UInt8),Fe acc (l++[c])=(Fe acc l).bind fun a=>if H7 c<16 then some (16*a+H7 c)else none
 |[],acc,c=>by
  show(if H7 c<16 then Fe _ []else none)=_
  rfl
 |b::l,acc,c=>by
  rw[List.cons_append,Fe,Fe]
  split
  ·exact Pa l _ c
  ·rfl
theorem Vt:∀(l m:List UInt8) (acc:Nat),Fe acc l=none→Fe acc (l++m)=none
 |[],m,acc,h=>by cases h
 |b::l,m,acc,h=>by
  rw[Fe]at h
  rw[List.cons_append,Fe]
  split
  ·rename_i hb;rw[if_pos hb]at h;exact Vt l m _ h
  ·rfl
theorem Xft(n:Nat):H7 (dig n)=n% 16:=by
 have key:∀i:Fin 16,H7 (dig i.val)=i.val:=by decide
 have:=key ⟨n% 16,Nat.mod_lt _ (by omega)⟩
 rw[XdL]at this
 exact this
theorem Xo:∀(k n:Nat),n<16^k→Fe 0 (Y5 k n)=some n
 |0,n,h=>by
  have:n=0:=by simpa using h
  subst this;rfl
 |k+1,n,h=>by
  rw[Y5,Pa,Xo k (n/16) (by rw[Nat.pow_succ]at h;omega),Option.bind_some,Xft,if_pos (Nat.mod_lt _ (by omega))]
  congr 1
  omega
def mid(name:ByteArray):List UInt8:=(name.data.toList.drop 1).take 8
def Ay(name:ByteArray):Int×Int:=
 match Fe 0 (mid name)with
 |some n=>if name.size=13∧Af (n:Int)=name then(1,(n:Int))else if name.size=17∧Bm (n:Int)=name then(2,(n:Int))else(0,0)
 |none=>(0,0)
theorem XhI{n:Int}(h:0≤n∧n≤1000000000):Af n=tx (115::(Y5 8 n.toNat++[46,115,101,103])):=if_pos h
theorem Xkl{n:Int}(h:0≤n∧n≤1000000000):(Af n).size=13:=by
 rw[XhI h,A3,List.length_cons,List.length_append,Q6];rfl
theorem Xke{n:Int}(h:0≤n∧n≤1000000000):(Bm n).size=17:=by
 unfold Bm
 rw[if_pos h,ByteArray.size_append,Xkl h];rfl
theorem Xlq{n:Int}{l:List UInt8}:mid (tx (115::(Y5 8 n.toNat++l)))=Y5 8 n.toNat:=by
 unfold mid tx
 show((115::(Y5 8 n.toNat++l)).drop 1).take 8=_
 rw[List.drop_succ_cons,List.drop_zero,List.take_left' (Q6 8 n.toNat)]
theorem Xj4{n:Int}{l:List UInt8}(h:0≤n∧n≤1000000000):Fe 0 (mid (tx (115::(Y5 8 n.toNat++l))))=some n.toNat:=by
 rw[Xlq,Xo 8 n.toNat (by omega)]
theorem XeC{n:Int}(h:0≤n∧n≤1000000000):Ay (Af n)=(1,n):=by
 have hh:Fe 0 (mid (Af n))=some n.toNat:=by rw[XhI h];exact Xj4 h
 unfold Ay
 rw[hh]
 dsimp only
 rw[Int.toNat_of_nonneg h.1,if_pos ⟨Xkl h,rfl⟩]
theorem Xbb{n:Int}(h:0≤n∧n≤1000000000):Ay (Bm n)=(2,n):=by
 have hh:Fe 0 (mid (Bm n))=some n.toNat:=by
  unfold Bm
  rw[if_pos h,XhI h,Cw,List.cons_append,List.append_assoc];exact Xj4 h
 unfold Ay
 rw[hh]
 dsimp only
 rw[Int.toNat_of_nonneg h.1,if_neg (by rw[Xke h];simp),if_pos ⟨Xke h,rfl⟩]
theorem XcT{n:Int}{name:ByteArray}(e:Af n=name)(h:name.size≠0):0≤n∧n≤1000000000:=by
 rcases Decidable.em (0≤n∧n≤1000000000)with h1|h1
 ·exact h1
 ·exfalso;apply h;rw[←e];unfold Af;rw[if_neg h1];rfl
theorem XdN{n:Int}{name:ByteArray}(e:Bm n=name)(h:name.size≠0):0≤n∧n≤1000000000:=by
 rcases Decidable.em (0≤n∧n≤1000000000)with h1|h1
 ·exact h1
 ·exfalso;apply h;rw[←e];unfold Bm;rw[if_neg h1];rfl
theorem Sv{name:ByteArray}(h:∀n,Fe 0 (mid name)=some n→Af (n:Int)≠name∧Bm (n:Int)≠name):Ay name=(0,0):=by
 unfold Ay
 split
 ·rename_i n hn
  rw[if_neg (fun hh=>(h n hn).1 hh.2),if_neg (fun hh=>(h n hn).2 hh.2)]
 ·rfl
theorem Xbr{name:ByteArray}(h:¬(13≤name.size∧name.size≤17)):Ay name=(0,0):=by
 unfold Ay
 split
 ·rw[if_neg (fun hh=>h (by omega)),if_neg (fun hh=>h (by omega))]
 ·rfl
theorem Xbc{name:ByteArray}(h:Fe 0 (mid name)=none):Ay name=(0,0):=by
 unfold Ay
 rw[h]
theorem Xjy{c:UInt8}(h:H7 c<16):E7 c=H7 c:=by
 have key:∀i:Fin 256,H7 (UInt8.ofNat i.val)<16→E7 (UInt8.ofNat i.val)=H7 (UInt8.ofNat i.val):=by decide+kernel
 have e:UInt8.ofNat c.toNat=c:=by simp
 have:=key ⟨c.toNat,c.toNat_lt⟩
 rw[e]at this
 exact this h
theorem Zq:∀(l:List UInt8) (acc n:Nat),Fe acc l=some n→F9 acc l=some n
 |[],acc,n,h=>h
 |c::l,acc,n,h=>by
  rw[Fe]at h
  split at h
  ·rename_i hc
   rw[F9,Xjy hc,if_pos hc]
   exact Zq l _ n h
  ·cases h
theorem X2:∀(l:List UInt8) (acc n:Nat),F9 acc l=some n→n<(acc+1)*16^l.length
 |[],acc,n,h=>by cases h;simp
 |c::l,acc,n,h=>by
  rw[F9]at h
  split at h
  ·have:=X2 l _ n h
   rw[List.length_cons,Nat.pow_succ]
   refine Nat.lt_of_lt_of_le this ?_
   have h2:(16*acc+E7 c+1)*16^l.length≤(16*(acc+1))*16^l.length:=Nat.mul_le_mul_right _ (by omega)
   refine Nat.le_trans h2 (Nat.le_of_eq ?_)
   rw[Nat.mul_comm 16 (acc+1),Nat.mul_assoc,Nat.mul_comm 16]
  ·cases h
theorem CallOk.ofCallsT{P:Program}{f:FuncId}{as0:List AV}{v1 v2:Value}(o1:v1.oneCell'=true)(o2:v2.oneCell'=true)(h:∀(E:Env) (vs:Array Value),(∀b,E.S b→b<E.w.heap.size)→Globs.ok E.w E.S→Xfr E as0 vs→Calls P f vs E.w fun e w'=>e= .returned (.tuple #[v1,v2])∧Below E.w.heap.size E.w w'):CallOk P f as0 [] ⟨.tup [.d (.sc v1),.d (.sc v2)],[],[]⟩:=by
 intro w S β vs hM hA
 refine(h (Bh w S β [] []) vs hM.slt hM.glob hA).mono ?_
 rintro e w' ⟨he,hb⟩
 have hb:Below w.heap.size w w':=hb
 have st:Step (Bh w S β [] []) {Bh w S β [] []with w:=w'}:=⟨fun r R hR=>⟨R,hR,.inr rfl⟩,fun _ h=>h,fun _ _=>rfl,fun _ h=>h,fun b hS=>hb.block b (hM.slt b hS),fun b s hs=>Mf hb hs⟩
 refine⟨.tuple #[v1,v2],{Bh w S β [] []with w:=w'},he,rfl,?_,st,?_,?_,hb.size,.tup _ _ rfl ?_⟩
 ·exact{
   os:=hb.os.trans hM.os
   output:=hb.output.trans hM.output
   tape:=hb.tape.trans hM.tape
   size:=hb.size
   keep:=fun b hlt hn=>hb.block b hlt
   shape:=fun b s hs=>Mf hb hs
   s0:=hM.s0
   slt:=fun b hS=>Nat.lt_of_lt_of_le (hM.slt b hS) hb.size
   glob:=Globs.step st.S st.heap hM.glob
   snew:=hM.snew
   blt:=fun r b hp hβ=>absurd hp (Nat.not_lt_zero r)
   bown:=fun r R b hp=>absurd hp (Nat.not_lt_zero r)
   bkeep:=fun r R hlt hp=>absurd hp (Nat.not_lt_zero r)
   inj:=fun r r' R R' b hp=>absurd hp (Nat.not_lt_zero r)
   roots:=fun r R hp=>absurd hp (Nat.not_lt_zero r)}
 ·rfl
 ·intro r
  constructor
  ·exact fun h=>.inl h
  ·rintro(h|⟨_,h⟩)
   ·exact h
   ·exact absurd h (by simp)
 ·intro j y hy
  match j,hy with
  |0,hy=>cases hy;exact .d _ _ (.sc _ o1)
  |1,hy=>cases hy;exact .d _ _ (.sc _ o2)
variable {n:Int} {o:ByteArray}
theorem W7(hr:Bm n=o):Fn Tryz.prog 205 [I n] [] ⟨S o,[],[]⟩:=by
 refine Fn.go Oj Tryz.func205 fun P hP Q hQ=>?_
 conv=>cbv
 generalize aa:Bc n=r1
 refine .dd hP (Fy aa) ?_
 cases r1
 simp only[Bc,decide_eq_true_eq,decide_eq_false_iff_not]at aa
 conv=>cbv
 have e:(tx [])=Bm n:=(by unfold Bm;rw[if_neg (by omega)])
 rw[hr]at e
 subst e
 exact hQ _ _ (.s rfl rfl)
 simp only[Bc,decide_eq_true_eq,decide_eq_false_iff_not]at aa
 conv=>cbv
 generalize ab:Af n=r2
 refine .dd hP (Gn ab) ?_
 conv=>cbv
 have ad:=Dx (n:=n) (by assumption)
 refine .litR 4 fun s3 ac ae=>?_
 conv=>cbv
 have e:s3=Bm n:=(by unfold Bm;rw[if_pos (by omega),ac,←ab];rfl)
 rw[hr]at e
 subst e
 exact hQ _ _ (.s rfl rfl)
theorem Ss(hr:Bm n=o):Fn Tryz.prog 193 [I n] [] ⟨S o,[],[]⟩:=by
 refine Fn.go Oj Tryz.func193 fun P hP Q hQ=>?_
 conv=>cbv
 generalize aa:Af n=r1
 refine .dd hP (E6 aa) ?_
 conv=>cbv
 refine .eql (fun h2=>?_) fun h2=>?_
 conv=>cbv
 have e:(tx [])=Bm n:=(by unfold Bm;rw[if_neg];intro hh;have:=Xkl hh;rw[aa,h2]at this;cases this)
 rw[hr]at e
 subst e
 exact hQ _ _ (.s rfl rfl)
 conv=>cbv
 have ac:=Dx aa
 refine .litR 4 fun s3 ab ad=>?_
 conv=>cbv
 have e:s3=Bm n:=(by unfold Bm;rw[if_pos,ab,←aa];rfl;exact XcT aa (fun h0=>h2 (by apply ByteArray.ext;exact Array.eq_empty_of_size_eq_zero h0)))
 rw[hr]at e
 subst e
 exact hQ _ _ (.s rfl rfl)
theorem Xkh{name:ByteArray}{k:Nat}(h:k+1<name.size)(hk:k<8):(mid name)[k]? =some name[k+1]:=by
 have h':k+1<name.data.toList.length:=by rw[Array.length_toList];exact h
 unfold mid
 rw[List.getElem?_take_of_lt hk,List.getElem?_drop,Nat.add_comm 1 k,List.getElem?_eq_getElem h']
 rfl
theorem Xgn{name:ByteArray}(h:9≤name.size):(mid name).length=8:=by
 have h':name.data.toList.length=name.size:=by rw[Array.length_toList];rfl
 unfold mid
 rw[List.length_take,List.length_drop,h']
 omega
theorem Xjj{name:ByteArray}{k n:Nat}(h:k+1<name.size)(hk:k<8)(e:Fe 0 ((mid name).take k)=some n):
  Fe 0 ((mid name).take (k+1))=if H7 name[k+1]<16 then some (16*n+H7 name[k+1])else none:=by
 rw[List.take_add_one,Xkh h hk]
 show Fe 0 ((mid name).take k++[name[k+1]])=_
 rw[Pa,e]
 rfl
theorem Xks{name:ByteArray}{k:Nat}(e:Fe 0 ((mid name).take k)=none):Fe 0 (mid name)=none:=by
 rw[←List.take_append_drop k (mid name)]
 exact Vt _ _ _ e
theorem Xi7{c:UInt8}(h:48≤c.toNat∧c.toNat≤57):H7 c=c.toNat - 48:=if_pos h
theorem XjP{c:UInt8}(h:¬(48≤c.toNat∧c.toNat≤57))(h2:97≤c.toNat∧c.toNat≤102):H7 c=c.toNat - 87:=by unfold H7;rw[if_neg h,if_pos h2]
theorem Xjz{c:UInt8}(h:¬(48≤c.toNat∧c.toNat≤57))(h2:¬(97≤c.toNat∧c.toNat≤102)):H7 c=16:=by unfold H7;rw[if_neg h,if_neg h2]
theorem pow16{k:Nat}(h:k≤7):16^k*16≤4294967296:=by
 have:=Nat.pow_le_pow_right (n:=16) (by decide) (show k+1≤8 by omega)
 rw[Nat.pow_succ]at this
 exact this
def Jx(l:List Int)(n:Int):Bool:=decide (n∈l)
theorem XdR{l:List Int}{xl:List (List D)}{o:Bool}(hl:l.map cI=xl)(hn:l.length<2^40)(hr:Jx l n=o):Fn Tryz.prog 160 [.d (.row 1 xl),I n] [] ⟨B o,[],[]⟩:=by
 refine Fn.go Oj Tryz.func160 fun P hP Q hQ=>?_
 conv=>cbv
 refine LoopW.lp (κ:=Int) Oj hP [] [0,1] (fun i5=>[(5,I i5)]) (fun i5=>[])
  (fun i5=>0≤i5∧i5≤l.length∧∀(j:Nat) (hj:j<l.length),j<i5.toNat→l[j]≠n)
  (fun i5=>(l.length - i5).toNat) (0) ⟨by omega,by omega,fun j _ h=>by simp at h⟩ ⟨rfl,trivial⟩ rfl ?_
 rintro i5 J ⟨h0,h1,hb⟩ hJ
 conv=>cbv
 refine .go hl fun v1 ad=>?_
 conv=>cbv
 refine .lss (fun h2=>?_) fun h2=>?_
 conv=>cbv
 refine .go i5.toNat hl fun aa e3 ab=>?_
 conv=>cbv
 refine .eql (fun h4=>?_) fun h4=>?_
 conv=>cbv
 have e:true=Jx l n:=(by unfold Jx;symm;rw[decide_eq_true_eq,←h4,ab];exact List.getElem_mem aa)
 rw[hr]at e
 subst e
 exact hQ _ _ (.b rfl rfl)
 conv=>cbv
 refine .add fun v5 ae=>?_
 conv=>cbv
 exact .go [] (v5) (hJ _ ⟨by omega,by omega,fun j hj h=>if e:j=i5.toNat then by subst e;rw[←ab];exact h4 else hb j hj (by omega)⟩ mlt)
 conv=>cbv
 have e:false=Jx l n:=(by unfold Jx;symm;rw[decide_eq_false_iff_not];intro hm;obtain⟨j,hj,ac⟩:=List.getElem_of_mem hm;exact hb j hj (by omega) ac)
 rw[hr]at e
 subst e
 exact hQ _ _ (.b rfl rfl)
theorem N1{name:ByteArray}{oa:Int}{ob:Int}(hs:name.size≤1000000000)(hr:Ay name=(oa,ob)):Fn Tryz.prog 159 [S name] [] ⟨.tup [I oa,I ob],[],[]⟩:=by
 refine Fn.go Oj Tryz.func159 fun P hP Q hQ=>?_
 conv=>cbv
 refine .go fun v1 al=>?_
 conv=>cbv
 generalize ae:Av v1 13 17=r2
 refine .dd hP (Cz ae) ?_
 cases r2
 simp only[Av,decide_eq_true_eq,decide_eq_false_iff_not]at ae
 conv=>cbv
 have e:(0,0)=Ay name:=(by exact(Xbr (by omega)).symm)
 rw[hr]at e
 simp only[Prod.mk.injEq]at e
 obtain⟨rfl,rfl⟩:=e
 refine hQ _ _ ?_
 exact .many (.inl rfl) rfl rfl (.d rfl rfl (.d rfl rfl (.nil)))
 simp only[Av,decide_eq_true_eq,decide_eq_false_iff_not]at ae
 conv=>cbv
 refine LoopW.lp (κ:=Int×Int) Oj hP [] [0] (fun(i4,i5)=>[(4,I i4),(5,I i5)]) (fun(i4,i5)=>[])
  (fun(i4,i5)=>1≤i5∧i5≤9∧0≤i4∧i4.toNat<16^ (i5 - 1).toNat∧Fe 0 ((mid name).take (i5 - 1).toNat)=some i4.toNat)
  (fun(i4,i5)=>(9 - i5).toNat) (0,1) ⟨by omega,by omega,by omega,by simp,rfl⟩ ⟨rfl,rfl,trivial⟩ rfl ?_
 rintro⟨i4,i5⟩ J ⟨h0,h1,h2,h3_,he⟩ hJ
 conv=>cbv
 refine .lss (fun h3=>?_) fun h3=>?_
 conv=>cbv
 refine .go i5.toNat fun hjv4 v4 ah bv4=>?_
 conv=>cbv
 have hp:=pow16 (k:=(i5 - 1).toNat) (by omega)
 have hc:v4=(name[(i5 - 1).toNat+1].toNat:Int):=by rw[ah];congr 2;congr 1;omega
 have hstep:=Xjj (name:=name) (k:=(i5 - 1).toNat) (by omega) (by omega) he
 have am:=name[(i5 - 1).toNat+1].toNat_lt
 refine .id fun v5 an=>?_
 conv=>cbv
 generalize aa:Av v5 48 57=r6
 refine .dd hP (Cz aa) ?_
 cases r6
 simp only[Av,decide_eq_true_eq,decide_eq_false_iff_not]at aa
 conv=>cbv
 generalize af:Av v5 97 102=r7
 refine .dd hP (Cz af) ?_
 cases r7
 simp only[Av,decide_eq_true_eq,decide_eq_false_iff_not]at af
 conv=>cbv
 have e:(0,0)=Ay name:=(by exact(Xbc (Xks (k:=(i5 - 1).toNat+1) (by rw[hstep,Xjz (by omega) (by omega)];rfl))).symm)
 rw[hr]at e
 simp only[Prod.mk.injEq]at e
 obtain⟨rfl,rfl⟩:=e
 refine hQ _ _ ?_
 exact .many (.inl rfl) rfl rfl (.d rfl rfl (.d rfl rfl (.nil)))
 simp only[Av,decide_eq_true_eq,decide_eq_false_iff_not]at af
 conv=>cbv
 have hval:=XjP (c:=name[(i5 - 1).toNat+1]) (by omega) (by omega)
 refine .mul fun v8 ai=>?_
 conv=>cbv
 refine .add fun v9 aj=>?_
 conv=>cbv
 refine .sub fun ab ag=>?_
 conv=>cbv
 refine .add fun ac ak=>?_
 conv=>cbv
 exact .go [] (ab,ac) (hJ _ ⟨by omega,by omega,by omega,by first|(rw[show(ac - 1).toNat=(i5 - 1).toNat+1 by omega,Nat.pow_succ];omega)|(rw[show(ab - 1).toNat=(i5 - 1).toNat+1 by omega,Nat.pow_succ];omega),by first|(rw[show(ac - 1).toNat=(i5 - 1).toNat+1 by omega,hstep,hval,if_pos (by omega)];congr 1;omega)|(rw[show(ab - 1).toNat=(i5 - 1).toNat+1 by omega,hstep,hval,if_pos (by omega)];congr 1;omega)⟩ mlt)
 simp only[Av,decide_eq_true_eq,decide_eq_false_iff_not]at aa
 conv=>cbv
 have hval:=Xi7 (c:=name[(i5 - 1).toNat+1]) (by omega)
 refine .mul fun v7 ao=>?_
 conv=>cbv
 refine .add fun v8 ai=>?_
 conv=>cbv
 refine .sub fun v9 aj=>?_
 conv=>cbv
 refine .add fun ab ag=>?_
 conv=>cbv
 exact .go [] (v9,ab) (hJ _ ⟨by omega,by omega,by omega,by first|(rw[show(ac - 1).toNat=(i5 - 1).toNat+1 by omega,Nat.pow_succ];omega)|(rw[show(ab - 1).toNat=(i5 - 1).toNat+1 by omega,Nat.pow_succ];omega),by first|(rw[show(ac - 1).toNat=(i5 - 1).toNat+1 by omega,hstep,hval,if_pos (by omega)];congr 1;omega)|(rw[show(ab - 1).toNat=(i5 - 1).toNat+1 by omega,hstep,hval,if_pos (by omega)];congr 1;omega)⟩ mlt)
 conv=>cbv
 generalize ad:Af i4=r4
 refine .dd hP (E6 ad) ?_
 conv=>cbv
 refine .eql (fun h5=>?_) fun h5=>?_
 conv=>cbv
 have e:(1,i4)=Ay name:=(by have:=XeC (XcT (ad.trans h5) (by omega));rw[ad,h5]at this;exact this.symm)
 rw[hr]at e
 simp only[Prod.mk.injEq]at e
 obtain⟨rfl,rfl⟩:=e
 refine hQ _ _ ?_
 exact .many (.inl rfl) rfl rfl (.d rfl rfl (.d rfl rfl (.nil)))
 conv=>cbv
 generalize aa:Bm i4=r6
 refine .dd hP (Ss aa) ?_
 conv=>cbv
 refine .eql (fun h7=>?_) fun h7=>?_
 conv=>cbv
 have e:(2,i4)=Ay name:=(by have:=Xbb (XdN (aa.trans h7) (by omega));rw[aa,h7]at this;exact this.symm)
 rw[hr]at e
 simp only[Prod.mk.injEq]at e
 obtain⟨rfl,rfl⟩:=e
 refine hQ _ _ ?_
 exact .many (.inl rfl) rfl rfl (.d rfl rfl (.d rfl rfl (.nil)))
 conv=>cbv
 have e:(0,0)=Ay name:=(by refine(Sv fun n hn=>?_).symm;rw[show(i5 - 1).toNat=8 by omega,List.take_of_length_le (by rw[Xgn (by omega)];omega),hn]at he;cases he;rw[Int.toNat_of_nonneg h2,ad,aa];exact⟨h5,h7⟩)
 rw[hr]at e
 simp only[Prod.mk.injEq]at e
 obtain⟨rfl,rfl⟩:=e
 refine hQ _ _ ?_
 exact .many (.inl rfl) rfl rfl (.d rfl rfl (.d rfl rfl (.nil)))
end
section
open Go Go.Proofs
set_option maxRecDepth 20000
set_option maxHeartbeats 4000000
open Go.RowKit
theorem puPub(t:ByteArray)(h8:t.size=8){w:World}(hi:Ih w 0):Calls Tryz.prog 229 #[.string t,.int .i64 16,.int .i64 32] w fun e w'=>
  (match F9 0 t.data.toList with|some n=>e= .returned (.tuple #[.int .u64 n,.nilIface])|none=>∃x T p,e= .returned (.tuple #[.int .u64 x,.iface T p]))∧Below w.heap.size w w':=by
 obtain⟨ev,h1,h2⟩:=hi
 have hp:=fun w=>pu16 Tryz.lays287 t (by omega) (by omega) w
 have hlt:0<w.heap.size:=Lib.lt_of_cell h1
 have hbel:Below w.heap.size w (Lib.bytesWorld w (Tryz.lays287_ren.t 5) t):=Lib.bytesWorld_below _ _ _
 cases hh:F9 0 t.data.toList with
 |some n=>
  rw[hh]at hp
  replace hp:∀w,Calls Tryz.prog 278 #[.string t,.int .i64 16,.int .i64 32] w fun e w'=>e= .returned (.tuple #[.int .u64 n,.nilIface])∧w'=Lib.bytesWorld w (Tryz.lays287_ren.t 5) t:=hp
  go_enter Tryz.func229,Tryz.ntmps229
  go_wp2_with (go_at_call 278;refine(hp _).mono ?_;rintro e w' ⟨rfl,rfl⟩)
  go_ret2
  exact⟨rfl,hbel⟩
 |none=>
  rw[hh]at hp
  replace hp:∀w,Calls Tryz.prog 278 #[.string t,.int .i64 16,.int .i64 32] w fun e w'=>e= .returned (.tuple #[.int .u64 0,.iface 247 (.int .i64 2)])∧w'=Lib.bytesWorld w (Tryz.lays287_ren.t 5) t:=hp
  go_enter Tryz.func229,Tryz.ntmps229
  go_wp2_with (first
   |(go_at_call 278;refine(hp _).mono ?_;rintro e w' ⟨rfl,rfl⟩)
   |(go_at_call 279;refine(Tryz.strconv_toError_syntax _ t _ _ ev _ (by omega) ((hbel.cell hlt).trans h1) h2).mono ?_;rintro e w' ⟨N,rfl,-,-,hb2⟩))
  go_ret2
  exact⟨⟨_,_,_,rfl⟩,hbel.trans (hb2.mono hbel.size)⟩
theorem XgL{a b:ByteArray}(h:¬a=b):(a.toList==b.toList)=false:=by
 rw[Bool.eq_false_iff]
 exact fun hh=>h ((Lib.bytes_beq_iff _ _).1 hh)
theorem On{w:World}(hG:Globs.ok w fun b=>b<w.heap.size){n:Int}{o:ByteArray}(hr:Af n=o):Calls Tryz.prog 182 #[.int .i64 n] w fun e w'=>e= .returned (.string o)∧Below w.heap.size w w':=by
 rw[←hr];exact XhJ hG n
theorem Og{w:World}(hG:Globs.ok w fun b=>b<w.heap.size){n:Int}{o:ByteArray}(hr:Bm n=o):Calls Tryz.prog 205 #[.int .i64 n] w fun e w'=>e= .returned (.string o)∧Below w.heap.size w w':=by
 refine(W7 (n:=n) hr).ok.callsV hG ⟨rfl,?_⟩
 intro j y hy
 match j,hy with
 |0,hy=>cases hy;exact .d _ _ (.sc _ rfl)
theorem Qc{w:World}(hG:Globs.ok w fun b=>b<w.heap.size){n:Int}{o:Bool}(hr:Bc n=o):Calls Tryz.prog 230 #[.int .i64 n] w fun e w'=>e= .returned (.bool o)∧Below w.heap.size w w':=by
 refine(Fy (n:=n) hr).ok.callsV hG ⟨rfl,?_⟩
 intro j y hy
 match j,hy with
 |0,hy=>cases hy;exact .d _ _ (.sc _ rfl)
theorem XdM{name:ByteArray}(h:9≤name.size):(name.extract 1 9).size=8∧(name.extract 1 9).data.toList=mid name:=by
 have h':9≤name.data.size:=h
 constructor
 ·rw[ByteArray.size_extract];omega
 ·unfold mid
  rw[ByteArray.data_extract,Array.toList_extract,List.extract_eq_take_drop]
set_option maxHeartbeats 1000000 in
set_option maxRecDepth 100000 in
theorem Wq{name:ByteArray}(hs:name.size≤1000000000){w:World}(hG:Globs.ok w fun b=>b<w.heap.size):Calls Tryz.prog 156 #[.string name] w fun e w'=>
  e= .returned (.tuple #[.int .i64 (Ay name).1,.int .i64 (Ay name).2])∧Below w.heap.size w w':=by
 by_cases h9:name.size<9
 ·rw[Xbr (by omega)]
  go_enter Tryz.func156,Tryz.ntmps156
  go_wp2
  go_ret2
  exact⟨rfl,Below.refl _ _⟩
 obtain⟨hx8,hxl⟩:=XdM (name:=name) (by omega)
 have hpu:=fun(w:World) (hi:Ih w 0)=>puPub (name.extract 1 9) hx8 hi
 rw[hxl]at hpu
 have hG3:∀{w:World},(Globs.ok w fun b=>b<w.heap.size)→Ih w 0:=fun h=>Xlb h
 cases hh:F9 0 (mid name)with
 |none=>
  simp only[hh]at hpu
  rw[Xbc (by
   cases h:Fe 0 (mid name)with
   |none=>rfl
   |some n=>rw[Zq _ _ _ h]at hh;cases hh)]
  go_enter Tryz.func156,Tryz.ntmps156
  go_wp2_with (go_at_call 229;refine(hpu _ (hG3 hG)).mono ?_;rintro e w' ⟨⟨x,T,p,rfl⟩,hb⟩)
  go_ret2
  exact⟨rfl,hb⟩
 |some m=>
  simp only[hh]at hpu
  have hm:m<4294967296:=by
   have:=X2 _ _ _ hh
   rw[Xgn (by omega)]at this
   omega
  have hmn:∀n,Fe 0 (mid name)=some n→n=m:=fun n hn=>by
   have:=Zq _ _ _ hn
   rw[hh]at this
   exact(Option.some.inj this).symm
  obtain⟨M,hM⟩:∃M:Int,M=(m:Int):=⟨_,rfl⟩
  have hM0:0≤M:=by omega
  have hM1:M<4294967296:=by omega
  simp only[←hM]at hpu
  by_cases hnum:M≤1000000000
  ·have hrn:Bc M=true:=decide_eq_true ⟨hM0,hnum⟩
   obtain⟨sg,hsg⟩:∃s,Af M=s:=⟨_,rfl⟩
   obtain⟨tp,htp⟩:∃s,Bm M=s:=⟨_,rfl⟩
   by_cases hse:name=sg
   ·have hR:Ay name=(1,M):=by rw[hse,←hsg];exact XeC ⟨hM0,hnum⟩
    rw[hR]
    dsimp only
    clear hmn hh hxl hR hM
    subst hse
    go_enter Tryz.func156,Tryz.ntmps156
    go_wp2_with (first
     |(go_at_call 229;refine(hpu _ (hG3 hG)).mono ?_;rintro e w1 ⟨rfl,aa⟩;have hG1:=D1 hG aa)
     |(go_at_call 230;refine(Qc hG1 hrn).mono ?_;rintro e w2 ⟨rfl,hb2⟩;have hG2:=D1 hG1 hb2)
     |(go_at_call 182;refine(On hG2 hsg).mono ?_;rintro e w3 ⟨rfl,ab⟩;have hG3_:=D1 hG2 ab)
     |(go_at_call 205;refine(Og hG3_ htp).mono ?_;rintro e w4 ⟨rfl,ac⟩))
    go_ret2
    exact⟨rfl,(aa.trans (hb2.mono aa.size)).trans (ab.mono (aa.trans (hb2.mono aa.size)).size)⟩
   ·by_cases hte:name=tp
    ·have hR:Ay name=(2,M):=by rw[hte,←htp];exact Xbb ⟨hM0,hnum⟩
     rw[hR]
     dsimp only
     clear hmn hh hxl hR hM
     subst hte
     have ad:=XgL hse
     go_enter Tryz.func156,Tryz.ntmps156
     go_wp2_with (first
      |(go_at_call 229;refine(hpu _ (hG3 hG)).mono ?_;rintro e w1 ⟨rfl,aa⟩;have hG1:=D1 hG aa)
      |(go_at_call 230;refine(Qc hG1 hrn).mono ?_;rintro e w2 ⟨rfl,hb2⟩;have hG2:=D1 hG1 hb2)
      |(go_at_call 182;refine(On hG2 hsg).mono ?_;rintro e w3 ⟨rfl,ab⟩;have hG3_:=D1 hG2 ab)
      |(go_at_call 205;refine(Og hG3_ htp).mono ?_;rintro e w4 ⟨rfl,ac⟩))
     go_ret2
     exact⟨rfl,((aa.trans (hb2.mono aa.size)).trans (ab.mono (aa.trans (hb2.mono aa.size)).size)).trans (ac.mono ((aa.trans (hb2.mono aa.size)).trans (ab.mono (aa.trans (hb2.mono aa.size)).size)).size)⟩
    ·have hR:Ay name=(0,0):=Sv fun n hn=>by
      rw[hmn n hn,←hM,hsg,htp]
      exact⟨fun e=>hse e.symm,fun e=>hte e.symm⟩
     rw[hR]
     dsimp only
     clear hmn hh hxl hR hM
     have ad:=XgL hse
     have ae:=XgL hte
     go_enter Tryz.func156,Tryz.ntmps156
     go_wp2_with (first
      |(go_at_call 229;refine(hpu _ (hG3 hG)).mono ?_;rintro e w1 ⟨rfl,aa⟩;have hG1:=D1 hG aa)
      |(go_at_call 230;refine(Qc hG1 hrn).mono ?_;rintro e w2 ⟨rfl,hb2⟩;have hG2:=D1 hG1 hb2)
      |(go_at_call 182;refine(On hG2 hsg).mono ?_;rintro e w3 ⟨rfl,ab⟩;have hG3_:=D1 hG2 ab)
      |(go_at_call 205;refine(Og hG3_ htp).mono ?_;rintro e w4 ⟨rfl,ac⟩))
     go_ret2
     exact⟨rfl,((aa.trans (hb2.mono aa.size)).trans (ab.mono (aa.trans (hb2.mono aa.size)).size)).trans (ac.mono ((aa.trans (hb2.mono aa.size)).trans (ab.mono (aa.trans (hb2.mono aa.size)).size)).size)⟩
  ·have hrn:Bc M=false:=decide_eq_false fun h=>hnum h.2
   obtain⟨sg,hsg⟩:∃s,Af M=s:=⟨_,rfl⟩
   obtain⟨tp,htp⟩:∃s,Bm M=s:=⟨_,rfl⟩
   have hR:Ay name=(0,0):=Sv fun n hn=>by
    rw[hmn n hn,←hM]
    exact⟨fun e=>hnum (XcT e (by omega)).2,fun e=>hnum (XdN e (by omega)).2⟩
   rw[hR]
   dsimp only
   clear hmn hh hxl hR hM
   go_enter Tryz.func156,Tryz.ntmps156
   go_wp2_with (first
    |(go_at_call 229;refine(hpu _ (hG3 hG)).mono ?_;rintro e w1 ⟨rfl,aa⟩;have hG1:=D1 hG aa)
    |(go_at_call 230;refine(Qc hG1 hrn).mono ?_;rintro e w2 ⟨rfl,hb2⟩;have hG2:=D1 hG1 hb2)
    |(go_at_call 182;refine(On hG2 hsg).mono ?_;rintro e w3 ⟨rfl,ab⟩;have hG3_:=D1 hG2 ab)
    |(go_at_call 205;refine(Og hG3_ htp).mono ?_;rintro e w4 ⟨rfl,ac⟩))
   go_ret2
   exact⟨rfl,aa.trans (hb2.mono aa.size)⟩
theorem X7{name:ByteArray}{oa ob:Int}(hs:name.size≤1000000000)(hr:Ay name=(oa,ob)):Fn Tryz.prog 156 [S name] [] ⟨.tup [I oa,I ob],[],[]⟩:=by
 refine⟨Gk Tryz.func156 rfl rfl,CallOk.ofCallsT rfl rfl fun E vs hS hG hA=>?_⟩
 obtain⟨u,rfl,h1⟩:=Xkw hA
 rw[R4 h1]
 have h2:=Wq hs (Globs.step hS (fun _ _=>rfl) hG)
 rw[hr]at h2
 exact h2
end
section
open Go Go.Proofs
set_option maxRecDepth 20000
set_option maxHeartbeats 4000000
def Xex:List (Nat×TyRow):=[ty3,ty9,We,Z1,Xal,XiF,ty92,ty96,XkB]
theorem XcH:Bl Tryz.prog Xex:=Bl.of (by kernel_rfl)
theorem Hb:Setup Tryz.prog Xex:=⟨XcH,mixed⟩
def Cq(d:Aa)(base:Int):ByteArray:=(Gc d (Af base)).1
def Dj(b:ByteArray)(base link:Int):Bool:=(Bx b).2&&decide ((Bx b).1.base_=base)&&decide ((Bx b).1.link_=link)
def Dq(link:Int)(r:ByteArray):Int:=F4 link (Ap r.size 4++r)
def F2(link:Int)(l:List ByteArray):Int:=l.foldl Dq link
def Dl(b:ByteArray):List ByteArray:=(As b).records_
def Im(b:ByteArray):Int:=F2 (As b).head_.link_ (As b).records_
def I8(d:Aa):Nat→Int→Int→List Se
 |0,_,_=>[]
 |k+1,base,sum=>if Dj (Cq d base) base sum=true∧Dl (Cq d base)≠[]then
   ⟨base,Cq d base,As (Cq d base)⟩::I8 d k (base+(Dl (Cq d base)).length) (F2 sum (Dl (Cq d base)))else[]
def Mr(d:Aa):List Se:=I8 d 16 0 0
def C4(d:Aa):List Int:=(Mr d).map (·.base_)
theorem Lr{d:Aa}{b:Int}{t:ByteArray}(hd:okD d)(e:Cq d b=t):t.size≤1000000000:=by
 rw[←e]
 exact XdD (ok:=(Gc d (Af b)).2) hd rfl
theorem Qi{t:ByteArray}{b s:Int}(h:Dj t b s=true):∃hh,Bx t=(hh,true)∧hh.base_=b∧hh.link_=s∧0≤b∧b≤1000000000:=by
 unfold Dj at h
 simp only[Bool.and_eq_true,decide_eq_true_eq]at h
 rcases e:Bx t with⟨hh,ok⟩
 rw[e]at h
 obtain⟨⟨h1,h2⟩,h3⟩:=h
 simp only[]at h1 h2 h3
 subst h1
 have h4:=(G9 e).2.2
 obtain⟨v,st,bs,lk⟩:=hh
 have h5:=Hu h4
 exact⟨_,rfl,h2,h3,by simp only[]at h2;omega,by simp only[]at h2;omega⟩
theorem XaU{t:ByteArray}{hh:A0}(e:Bx t=(hh,true)):(As t).head_=hh∧(As t).ok_=true:=by unfold As;rw[e];exact⟨rfl,rfl⟩
theorem Wx{t:ByteArray}{b s:Int}(h:Dj t b s=true):Im t=F2 s (Dl t):=by
 obtain⟨hh,h1,h2,h3,_⟩:=Qi h
 unfold Im Dl
 rw[(XaU h1).1,h3]
theorem Sc{t:ByteArray}{b s:Int}{l:List ByteArray}(h:Dj t b s=true)(e:Dl t=l):Im t=F2 s l:=by rw[Wx h,e]
theorem Qm{d:Aa}{k:Nat}{b s:Int}{t:ByteArray}(h1:Cq d b=t)(h2:Dj t b s=false∨Dl t=[]):I8 d k b s=[]:=by
 cases k with
 |zero=>rfl
 |succ k=>
  rw[I8,h1,if_neg]
  rintro⟨h3,h4⟩
  rcases h2 with h2|h2
  ·rw[h2]at h3;cases h3
  ·exact h4 h2
theorem Uq{d:Aa}{k:Nat}{b s:Int}{t:ByteArray}(h1:Cq d b=t)(h2:Dj t b s=true)(h3:Dl t≠[]):I8 d (k+1) b s=⟨b,t,As t⟩::I8 d k (b+(Dl t).length) (F2 s (Dl t)):=by
 rw[I8,h1,if_pos ⟨h2,h3⟩]
theorem Sk{d:Aa}:∀{k:Nat} {b s:Int},(I8 d k b s).length≤k
 |0,_,_=>Nat.le_refl _
 |k+1,b,s=>by
  rw[I8]
  split
  ·rw[List.length_cons];exact Nat.succ_le_succ Sk
  ·exact Nat.zero_le _
theorem Xv{d:Aa}:∀{k:Nat} {b s:Int},∀x∈I8 d k b s,x.text_=Cq d x.base_∧x.scan_=As (Cq d x.base_)∧∃s',Dj (Cq d x.base_) x.base_ s'=true
 |0,_,_,x,hx=>by simp[I8]at hx
 |k+1,b,s,x,hx=>by
  rw[I8]at hx
  split at hx
  ·rename_i h
   rw[List.mem_cons]at hx
   rcases hx with rfl|hx
   ·exact⟨rfl,rfl,s,h.1⟩
   ·exact Xv x hx
  ·simp at hx
theorem Rq{d:Aa}{l:List Se}(e:Mr d=l):l.length≤16:=by rw[←e];exact Sk
theorem Ii{d:Aa}{l:List Int}(e:C4 d=l):l.length≤16:=by rw[←e];unfold C4;rw[List.length_map];exact Sk
theorem Rw{d:Aa}{l:List Se}(e:Mr d=l){x:Se}(hx:x∈l):x.text_=Cq d x.base_∧x.scan_=As (Cq d x.base_)∧∃s',Dj (Cq d x.base_) x.base_ s'=true:=by rw[←e]at hx;exact Xv x hx
theorem Xig{d:Aa}{α:Type}(f:Se→α)(g:Int→α)(h:∀x,x.text_=Cq d x.base_→x.scan_=As (Cq d x.base_)→f x=g x.base_):(Mr d).map f=(C4 d).map g:=by
 unfold C4
 rw[List.map_map]
 refine List.map_congr_left fun x hx=>?_
 obtain⟨h1,h2,_⟩:=Rw rfl hx
 exact h x h1 h2
theorem XdP:∀(k:Nat) {h:A0} {b:ByteArray} {n:Nat} {p:Int},(b.size - p).toNat≤k→0≤p∧p≤b.size→∀r∈(H9 h b n p).1,r.size≤60
 |k,h,b,n,p,hk,hp=>by
  cases hm:D7 h.version_ (h.base_+n) b p
  ·rcases hf:Au h.version_ (h.base_+n) b p with⟨r,q,ok⟩
   cases ok
   ·rw[Nz hm hf];simp
   ·have h2:=Hp hf
    rw[Of hm hf]
    cases k with
    |zero=>omega
    |succ k=>
     have ih:=XdP k (h:=h) (b:=b) (n:=n+1) (p:=q) (by omega) (by omega)
     intro x hx
     rcases List.mem_cons.1 hx with rfl|hx
     ·omega
     ·exact ih x hx
  ·rw[Ob hm];simp
theorem Xeo{b:ByteArray}:∀r∈(As b).records_,r.size≤60:=by
 unfold As
 split
 ·rename_i h e
  have h2:=G9 e
  exact XdP _ (h:=h) (b:=b) (n:=0) (p:=24) (Nat.le_refl _) (by omega)
 ·simp
theorem Rn{α β:Type}{f:α→β}{l:List α}{k:Nat}(h:k<l.length):(l.take (k+1)).map f=(l.take k).map f++[f l[k]]:=by rw[List.take_succ_eq_append_getElem h,List.map_append];rfl
theorem Hv{α β:Type}{f:α→List β}{l:List α}{k:Nat}(h:k<l.length):(l.take (k+1)).flatMap f=(l.take k).flatMap f++f l[k]:=by rw[List.take_succ_eq_append_getElem h,List.flatMap_append];simp
variable {Ak:List Cj} {Bk Bg Bf Bi xo:List (List D)} {Aj Am:List Ac} {Al:List ByteArray} {Ao An base o link:Int} {b r:ByteArray}
theorem Xi8{o:ByteArray}(A1:Ak.map B3=Bk)(Ax:Aj.map Ad=Bg)(A6:Am.map Ad=Bf)(A5:Al.map cS=Bi)(hd:okD ⟨Ak,Aj,Am,Al,Ao,An⟩)(hr:Cq (⟨Ak,Aj,Am,Al,Ao,An⟩:Aa) base=o):Fn Tryz.prog 202 [.agg [.d (.row 3 Bk),.d (.row 2 Bg),.d (.row 2 Bf),.d (.row 1 Bi),I Ao,I An],I base] [] ⟨S o,[],[]⟩:=by
 refine Fn.go Hb Tryz.func202 fun P hP Q hQ=>?_
 conv=>cbv
 generalize aa:Af base=r1
 refine .dd hP (Gn aa) ?_
 conv=>cbv
 rcases ab:Gc (⟨Ak,Aj,Am,Al,Ao,An⟩:Aa) r1 with⟨ac,ad⟩
 refine .dd hP (XfM A1 Ax A6 A5 hd ab) ?_
 conv=>cbv
 have e:ac=Cq (⟨Ak,Aj,Am,Al,Ao,An⟩:Aa) base:=(by unfold Cq;rw[aa,ab])
 rw[hr]at e
 subst e
 exact hQ _ _ (.s rfl rfl)
theorem Y7{o:ByteArray}(A1:Ak.map B3=Bk)(Ax:Aj.map Ad=Bg)(A6:Am.map Ad=Bf)(A5:Al.map cS=Bi)(hd:okD ⟨Ak,Aj,Am,Al,Ao,An⟩)(hr:Cq (⟨Ak,Aj,Am,Al,Ao,An⟩:Aa) base=o):Fn Tryz.prog 15 [.agg [.d (.row 3 Bk),.d (.row 2 Bg),.d (.row 2 Bf),.d (.row 1 Bi),I Ao,I An],I base] [] ⟨S o,[],[]⟩:=by
 refine Fn.go Hb Tryz.func15 fun P hP Q hQ=>?_
 conv=>cbv
 generalize aa:Af base=r1
 refine .dd hP (E6 aa) ?_
 conv=>cbv
 rcases ab:Gc (⟨Ak,Aj,Am,Al,Ao,An⟩:Aa) r1 with⟨ac,ad⟩
 refine .dd hP (Xgh A1 Ax A6 A5 hd ab) ?_
 conv=>cbv
 have e:ac=Cq (⟨Ak,Aj,Am,Al,Ao,An⟩:Aa) base:=(by unfold Cq;rw[aa,ab])
 rw[hr]at e
 subst e
 exact hQ _ _ (.s rfl rfl)
theorem Xjl{o:Bool}(hs:b.size<2^47)(hr:Dj b base link=o):Fn Tryz.prog 203 [S b,I base,I link] [] ⟨B o,[],[]⟩:=by
 refine Fn.go Hb Tryz.func203 fun P hP Q hQ=>?_
 conv=>cbv
 rcases aa:Bx b with⟨⟨ab,ac,ad,ae⟩,af⟩
 refine .dd hP (W0 (by omega) aa) ?_
 conv=>cbv
 cases af
 conv=>cbv
 have e:false=Dj b base link:=(by unfold Dj;rw[aa];rfl)
 rw[hr]at e
 subst e
 exact hQ _ _ (.b rfl rfl)
 conv=>cbv
 refine .eql (fun h2=>?_) fun h2=>?_
 conv=>cbv
 refine .eql (fun h3=>?_) fun h3=>?_
 conv=>cbv
 have e:true=Dj b base link:=(by unfold Dj;rw[aa];simp[h2,h3])
 rw[hr]at e
 subst e
 exact hQ _ _ (.b rfl rfl)
 conv=>cbv
 have e:false=Dj b base link:=(by unfold Dj;rw[aa];simp[h2,h3])
 rw[hr]at e
 subst e
 exact hQ _ _ (.b rfl rfl)
 conv=>cbv
 have e:false=Dj b base link:=(by unfold Dj;rw[aa];simp[h2])
 rw[hr]at e
 subst e
 exact hQ _ _ (.b rfl rfl)
theorem XfC(hb:r.size<2^40)(hr:Dq link r=o):Fn Tryz.prog 246 [I link,S r] [] ⟨I o,[],[]⟩:=by
 refine Fn.go Hb Tryz.func246 fun P hP Q hQ=>?_
 conv=>cbv
 refine .go fun v1 ac=>?_
 conv=>cbv
 generalize aa:Ap v1 4=r2
 have zr2:=Bs aa
 refine .dd hP (Fh (by omega) aa) ?_
 conv=>cbv
 refine .go fun s3 ad ae=>?_
 conv=>cbv
 generalize ab:F4 link s3=r4
 have zr4:=N0 ab
 refine .dd hP (Xao (by omega) ab) ?_
 conv=>cbv
 have e:r4=Dq link r:=(by subst_vars;rfl)
 rw[hr]at e
 subst e
 exact hQ _ _ (.i rfl rfl)
theorem Xi3{o:Bool}(hs:b.size<2^47)(hr:Dj b base link=o):Fn Tryz.prog 66 [S b,I base,I link] [] ⟨B o,[],[]⟩:=by
 refine Fn.go Hb Tryz.func66 fun P hP Q hQ=>?_
 conv=>cbv
 rcases aa:Bx b with⟨⟨ab,ac,ad,ae⟩,af⟩
 refine .dd hP (X6 (by omega) aa) ?_
 conv=>cbv
 cases af
 conv=>cbv
 have e:false=Dj b base link:=(by unfold Dj;rw[aa];rfl)
 rw[hr]at e
 subst e
 exact hQ _ _ (.b rfl rfl)
 conv=>cbv
 refine .eql (fun h2=>?_) fun h2=>?_
 conv=>cbv
 refine .eql (fun h3=>?_) fun h3=>?_
 conv=>cbv
 have e:true=Dj b base link:=(by unfold Dj;rw[aa];simp[h2,h3])
 rw[hr]at e
 subst e
 exact hQ _ _ (.b rfl rfl)
 conv=>cbv
 have e:false=Dj b base link:=(by unfold Dj;rw[aa];simp[h2,h3])
 rw[hr]at e
 subst e
 exact hQ _ _ (.b rfl rfl)
 conv=>cbv
 have e:false=Dj b base link:=(by unfold Dj;rw[aa];simp[h2])
 rw[hr]at e
 subst e
 exact hQ _ _ (.b rfl rfl)
theorem Sh(hb:r.size<2^40)(hr:Dq link r=o):Fn Tryz.prog 146 [I link,S r] [] ⟨I o,[],[]⟩:=by
 refine Fn.go Hb Tryz.func146 fun P hP Q hQ=>?_
 conv=>cbv
 refine .go fun v1 ac=>?_
 conv=>cbv
 generalize aa:Ap v1 4=r2
 have zr2:=Bs aa
 refine .dd hP (Ew (by omega) aa) ?_
 conv=>cbv
 refine .go fun s3 ad ae=>?_
 conv=>cbv
 generalize ab:F4 link s3=r4
 have zr4:=N0 ab
 refine .dd hP (Xa1 (by omega) ab) ?_
 conv=>cbv
 have e:r4=Dq link r:=(by subst_vars;rfl)
 rw[hr]at e
 subst e
 exact hQ _ _ (.i rfl rfl)
theorem XgM{l:List ByteArray}{xl:List (List D)}(hl:l.map cS=xl)(hn:l.length<2^40)(hb:∀r∈l,r.size≤60)(hr:F2 link l=o):Fn Tryz.prog 204 [I link,.d (.row 1 xl)] [] ⟨I o,[],[]⟩:=by
 refine Fn.go Hb Tryz.func204 fun P hP Q hQ=>?_
 conv=>cbv
 refine .go hl fun v1 ad=>?_
 conv=>cbv
 refine LoopW.lp (κ:=Int×Int) Hb hP [] [7,8] (fun(i0,i9)=>[(0,I i0),(9,I i9)]) (fun(i0,i9)=>[])
  (fun(i0,i9)=>0≤i9∧i9≤l.length∧i0=F2 link (l.take i9.toNat))
  (fun(i0,i9)=>(l.length - i9).toNat) (link,0) ⟨by omega,by omega,rfl⟩ ⟨rfl,rfl,trivial⟩ rfl ?_
 rintro⟨i0,i9⟩ J ⟨h0,h1,hx⟩ hJ
 conv=>cbv
 refine .lss (fun h2=>?_) fun h2=>?_
 conv=>cbv
 refine .go i9.toNat hl fun aa e3 ab=>?_
 conv=>cbv
 have zb:=hb e3 (ab▸List.getElem_mem _)
 generalize ac:Dq i0 e3=r4
 refine .dd hP (XfC (by omega) ac) ?_
 conv=>cbv
 refine .add fun v5 ae=>?_
 conv=>cbv
 exact .go [] (r4,v5) (hJ _ ⟨by omega,by omega,by rw[show v5.toNat=i9.toNat+1 by omega,List.take_succ_eq_append_getElem aa,F2,List.foldl_append,←ab];show r4=Dq (F2 link (l.take i9.toNat)) e3;rw[←hx,ac]⟩ mlt)
 conv=>cbv
 have e:i0=F2 link l:=(by rw[hx,List.take_of_length_le (by omega)])
 rw[hr]at e
 subst e
 exact hQ _ _ (.i rfl rfl)
theorem Xdt{o:List ByteArray}(hs:b.size<2^47)(hr:Dl b=o)(ho:o.map cS=xo):Fn Tryz.prog 18 [S b] [] ⟨.d (.row 1 xo),[],[]⟩:=by
 refine Fn.go Hb Tryz.func18 fun P hP Q hQ=>?_
 conv=>cbv
 rcases ai:As b with⟨an,⟨ae,af,ag,ah⟩,ab,ad,al,am⟩
 generalize aa:ab.map cS=aj
 generalize ac:ad.map cI=ak
 refine .dd hP (Lp (by omega) ai aa ac) ?_
 conv=>cbv
 have e:ab=Dl b:=(by unfold Dl;rw[ai])
 rw[hr]at e
 subst e
 exact hQ _ _ (.d rfl (by rw[←aa,←ho]))
theorem Xcu(hs:b.size<2^40)(hr:Im b=o):Fn Tryz.prog 67 [S b] [] ⟨I o,[],[]⟩:=by
 refine Fn.go Hb Tryz.func67 fun P hP Q hQ=>?_
 conv=>cbv
 rcases ae:As b with⟨aq,⟨ag,ah,ai,aa⟩,ab,af,ao,ap⟩
 generalize ac:ab.map cS=am
 generalize ad:af.map cI=an
 refine .dd hP (Lp (by omega) ae ac ad) ?_
 conv=>cbv
 refine LoopW.lp (κ:=Int×Int) Hb hP [] [3] (fun(i4,i5)=>[(4,I i4),(5,I i5)]) (fun(i4,i5)=>[])
  (fun(i4,i5)=>0≤i5∧i5≤ab.length∧i4=F2 aa (ab.take i5.toNat))
  (fun(i4,i5)=>(ab.length - i5).toNat) (aa,0) ⟨by omega,by omega,rfl⟩ ⟨rfl,rfl,trivial⟩ rfl ?_
 rintro⟨i4,i5⟩ J ⟨h0,h1,hx⟩ hJ
 have zs:=Xeo (b:=b)
 have zl:=Jp (b:=b)
 rw[ae]at zs zl
 simp only[]at zs zl
 conv=>cbv
 refine .go ac fun v2 ar=>?_
 conv=>cbv
 refine .lss (fun h3=>?_) fun h3=>?_
 conv=>cbv
 refine .go i5.toNat ac fun aj e4 ak=>?_
 conv=>cbv
 have zb:=zs e4 (ak▸List.getElem_mem _)
 generalize al:Dq i4 e4=r5
 refine .dd hP (Sh (by omega) al) ?_
 conv=>cbv
 refine .add fun v6 au=>?_
 conv=>cbv
 exact .go [] (r5,v6) (hJ _ ⟨by omega,by omega,by rw[show v6.toNat=i5.toNat+1 by omega,List.take_succ_eq_append_getElem aj,F2,List.foldl_append,←ak];show r5=Dq (F2 aa (ab.take i5.toNat)) e4;rw[←hx,al]⟩ mlt)
 conv=>cbv
 have e:i4=Im b:=(by unfold Im;rw[ae,hx,List.take_of_length_le (by omega)])
 rw[hr]at e
 subst e
 exact hQ _ _ (.i rfl rfl)
theorem XgX{o:List Se}(A1:Ak.map B3=Bk)(Ax:Aj.map Ad=Bg)(A6:Am.map Ad=Bf)(A5:Al.map cS=Bi)(hd:okD ⟨Ak,Aj,Am,Al,Ao,An⟩)(hr:Mr (⟨Ak,Aj,Am,Al,Ao,An⟩:Aa)=o)(ho:o.map XjO=xo):Fn Tryz.prog 121 [.agg [.d (.row 3 Bk),.d (.row 2 Bg),.d (.row 2 Bf),.d (.row 1 Bi),I Ao,I An]] [] ⟨.d (.row 11 xo),[],[]⟩:=by
 refine Fn.go Hb Tryz.func121 fun P hP Q hQ=>?_
 conv=>cbv
 refine LoopW.lp (κ:=Int×Int×(List (List D))×Nat) Hb hP [2] [1] (fun(i4,i5,af,ac)=>[(3,.ref 3 0 ac),(4,I i4),(5,I i5)]) (fun(i4,i5,af,ac)=>[(3,.row 11 false af)])
  (fun(i4,i5,af,ac)=>∃(w3:List Se),w3.map XjO=af∧ac=w3.length∧(w3.length≤16∧0≤i4∧i4≤2000000000)∧Mr (⟨Ak,Aj,Am,Al,Ao,An⟩:Aa)=w3++I8 (⟨Ak,Aj,Am,Al,Ao,An⟩:Aa) (16 - w3.length) i4 i5)
  (fun(i4,i5,af,ac)=>16 - ac) (0,0,[],0) ⟨[],rfl,rfl,by simp,rfl⟩ ⟨rfl,rfl,rfl,trivial⟩ rfl ?_
 rintro⟨i4,i5,af,ac⟩ J ⟨w3,ad,a8,hb,hI⟩ hJ
 conv=>cbv
 refine .go fun v1 bb=>?_
 conv=>cbv
 refine .lss (fun h2=>?_) fun h2=>?_
 conv=>cbv
 generalize ak:Cq (⟨Ak,Aj,Am,Al,Ao,An⟩:Aa) i4=r3
 refine .dd hP (Xi8 A1 Ax A6 A5 hd ak) ?_
 conv=>cbv
 have z3:=Lr hd ak
 rcases am:As r3 with⟨au,⟨ag,ah,ai,aj⟩,ab,al,ap,aq⟩
 generalize aa:ab.map cS=ax
 generalize ae:al.map cI=ay
 refine .dd hP (Xt (by omega) am aa ae) ?_
 conv=>cbv
 have zr:=Jp (b:=r3)
 have zq:=Xeo (b:=r3)
 rw[am]at zr zq
 simp only[]at zr zq
 have rq:Dl r3=ab:=by unfold Dl;rw[am]
 generalize an:Dj r3 i4 i5=r5
 refine .dd hP (Xjl (by omega) an) ?_
 cases r5
 conv=>cbv
 have e:w3=Mr (⟨Ak,Aj,Am,Al,Ao,An⟩:Aa):=(by rw[hI,Qm ak (.inl an),List.append_nil])
 rw[hr]at e
 subst e
 exact hQ _ _ (.r rfl rfl (by rw[←ad,List.length_map];first|omega|(simp;omega)) (by rw[←ad,←ho]))
 conv=>cbv
 refine .go aa fun v6 ar=>?_
 conv=>cbv
 refine .eql (fun h7=>?_) fun h7=>?_
 conv=>cbv
 have e:w3=Mr (⟨Ak,Aj,Am,Al,Ao,An⟩:Aa):=(by rw[hI,Qm ak (.inr (by rw[rq];exact List.eq_nil_of_length_eq_zero (by omega))),List.append_nil])
 rw[hr]at e
 subst e
 exact hQ _ _ (.r rfl rfl (by rw[←ad,List.length_map];first|omega|(simp;omega)) (by rw[←ad,←ho]))
 conv=>cbv
 have hg:=Qi an
 obtain⟨hh,g1,g2,g3,g4,g5⟩:=hg
 have hne:ab≠[]:=by intro e;rw[e]at ar;simp at ar;exact h7 ar
 refine .one (⟨i4,r3,⟨au,⟨ag,ah,ai,aj⟩,ab,al,ap,aq⟩⟩:Se) ad (by rw[←aa,←ae];rfl) fun az z8 ba a1=>?_
 conv=>cbv
 refine .go aa fun v9 a2=>?_
 conv=>cbv
 refine .add fun a6 aw=>?_
 conv=>cbv
 generalize ao:F2 i5 ab=a7
 refine .dd hP (XgM aa (by omega) zq ao) ?_
 conv=>cbv
 exact .go [10] (a6,a7,z8,az) (hJ _ ⟨_,a1,Cv,by rw[List.length_append];simp;omega,by rw[hI,show 16 - w3.length=(15 - w3.length)+1 by omega,Uq ak an (by rw[rq];exact hne),List.append_assoc,am,List.length_append,rq,ao,←a2,←aw];simp only[List.length_singleton];rw[show 16 - (w3.length+1)=15 - w3.length by omega];rfl⟩ mlt)
 conv=>cbv
 have e:w3=Mr (⟨Ak,Aj,Am,Al,Ao,An⟩:Aa):=(by rw[hI,show 16 - w3.length=0 by omega];simp[I8])
 rw[hr]at e
 subst e
 exact hQ _ _ (.r rfl rfl (by rw[←ad,List.length_map];first|omega|(simp;omega)) (by rw[←ad,←ho]))
theorem XcM{o:List Int}(A1:Ak.map B3=Bk)(Ax:Aj.map Ad=Bg)(A6:Am.map Ad=Bf)(A5:Al.map cS=Bi)(hd:okD ⟨Ak,Aj,Am,Al,Ao,An⟩)(hr:C4 (⟨Ak,Aj,Am,Al,Ao,An⟩:Aa)=o)(ho:o.map cI=xo):Fn Tryz.prog 14 [.agg [.d (.row 3 Bk),.d (.row 2 Bg),.d (.row 2 Bf),.d (.row 1 Bi),I Ao,I An]] [] ⟨.d (.row 1 xo),[],[]⟩:=by
 refine Fn.go Hb Tryz.func14 fun P hP Q hQ=>?_
 conv=>cbv
 refine LoopW.lp (κ:=Int×Int×(List (List D))×Nat) Hb hP [2] [1] (fun(i4,i5,ac,aa)=>[(3,.ref 3 0 aa),(4,I i4),(5,I i5)]) (fun(i4,i5,ac,aa)=>[(3,.row 1 false ac)])
  (fun(i4,i5,ac,aa)=>∃(w3:List Int),w3.map cI=ac∧aa=w3.length∧(w3.length≤16∧0≤i4∧i4≤2000000000)∧C4 (⟨Ak,Aj,Am,Al,Ao,An⟩:Aa)=w3++(I8 (⟨Ak,Aj,Am,Al,Ao,An⟩:Aa) (16 - w3.length) i4 i5).map (·.base_))
  (fun(i4,i5,ac,aa)=>16 - aa) (0,0,[],0) ⟨[],rfl,rfl,by simp,rfl⟩ ⟨rfl,rfl,rfl,trivial⟩ rfl ?_
 rintro⟨i4,i5,ac,aa⟩ J ⟨w3,ab,an,hb,hI⟩ hJ
 conv=>cbv
 refine .go fun v1 ap=>?_
 conv=>cbv
 refine .lss (fun h2=>?_) fun h2=>?_
 conv=>cbv
 generalize ae:Cq (⟨Ak,Aj,Am,Al,Ao,An⟩:Aa) i4=r3
 refine .dd hP (Y7 A1 Ax A6 A5 hd ae) ?_
 conv=>cbv
 have z3:=Lr hd ae
 generalize ad:Dl r3=l4
 generalize ah:l4.map cS=aq
 refine .dd hP (Xdt (by omega) ad ah) ?_
 conv=>cbv
 refine .go ah fun v5 ag=>?_
 conv=>cbv
 refine .eql (fun h6=>?_) fun h6=>?_
 conv=>cbv
 have e:w3=C4 (⟨Ak,Aj,Am,Al,Ao,An⟩:Aa):=(by rw[hI,Qm ae (.inr (by rw[ad];exact List.eq_nil_of_length_eq_zero (by omega)))];simp)
 rw[hr]at e
 subst e
 exact hQ _ _ (.r rfl rfl (by rw[←ab,List.length_map];first|omega|(simp;omega)) (by rw[←ab,←ho]))
 conv=>cbv
 generalize af:Dj r3 i4 i5=r7
 refine .dd hP (Xi3 (by omega) af) ?_
 cases r7
 conv=>cbv
 have e:w3=C4 (⟨Ak,Aj,Am,Al,Ao,An⟩:Aa):=(by rw[hI,Qm ae (.inl af)];simp)
 rw[hr]at e
 subst e
 exact hQ _ _ (.r rfl rfl (by rw[←ab,List.length_map];first|omega|(simp;omega)) (by rw[←ab,←ho]))
 conv=>cbv
 have hg:=Qi af
 obtain⟨hh,g1,g2,g3,g4,g5⟩:=hg
 have hne:l4≠[]:=by intro e;rw[e]at ag;simp at ag;exact h6 ag
 have zr:=Jp (b:=r3)
 have rq:(As r3).records_=l4:=ad
 rw[rq]at zr
 refine .one i4 ab rfl fun ak z8 ao al=>?_
 conv=>cbv
 generalize ai:Im r3=r9
 refine .dd hP (Xcu (by omega) ai) ?_
 conv=>cbv
 refine .add fun am aj=>?_
 conv=>cbv
 exact .go [5] (am,r9,z8,ak) (hJ _ ⟨_,al,Cv,by rw[List.length_append];simp;omega,by rw[hI,show 16 - w3.length=(15 - w3.length)+1 by omega,Uq ae af (by rw[ad];exact hne),ad,List.map_cons,List.append_assoc,List.length_append,←Sc af ad,ai,←ag,←aj];simp only[List.length_singleton];rw[show 16 - (w3.length+1)=15 - w3.length by omega];rfl⟩ mlt)
 conv=>cbv
 have e:w3=C4 (⟨Ak,Aj,Am,Al,Ao,An⟩:Aa):=(by rw[hI,show 16 - w3.length=0 by omega];simp[I8])
 rw[hr]at e
 subst e
 exact hQ _ _ (.r rfl rfl (by rw[←ab,List.length_map];first|omega|(simp;omega)) (by rw[←ab,←ho]))
end
section
open Go Go.Proofs
set_option maxRecDepth 20000
set_option maxHeartbeats 4000000
def Xlk{α:Type}(f:α→Int)(l:List α):Int:=(l.map f).foldl (·+·) 0
theorem Xh0{α:Type}{f:α→Int}{l:List α}{k:Nat}(h:k<l.length):Xlk f (l.take (k+1))=Xlk f (l.take k)+f l[k]:=by unfold Xlk;rw[Rn h,List.foldl_append];rfl
def Rf{α:Type}[DecidableEq α](a b:List α):Bool:=decide (a=b)
end
section
open Go Go.Proofs
set_option maxRecDepth 20000
set_option maxHeartbeats 4000000
def XbL:List (Nat×TyRow):=[ty3,ty9,Xfz,We,Z1,Xal,Wn]
theorem XaG:Bl Tryz.prog XbL:=Bl.of (by kernel_rfl)
theorem N6:Setup Tryz.prog XbL:=⟨XaG,mixed⟩
def XdT(l:List Int)(x:Int):Int:=Wf (fun y=>decide (y=x)) l
def Li(l:List Int)(x:Int):Bool:=decide (x∈l)
def My(chain:List Int)(name:ByteArray):Bool:=decide ((Ay name).1=2∨((Ay name).1=1∧(Ay name).2∉chain))
def A9(d:Aa):List ByteArray:=(d.entries_.map fun e=>e.name_).filter (My (C4 d))
def Bb(name:ByteArray)(chain:List Int):Bool:=!My chain name
theorem XhV(name:ByteArray):(Ay name).1=0∨(Ay name).1=1∨(Ay name).1=2:=by
 unfold Ay
 split
 ·split
  ·exact .inr (.inl rfl)
  ·split
   ·exact .inr (.inr rfl)
   ·exact .inl rfl
 ·exact .inl rfl
variable {l:List Int} {xl:List (List D)} {x:Int} {o:Bool}
theorem M2{o:Int}(hl:l.map cI=xl)(hn:l.length<2^40)(hr:XdT l x=o):Fn Tryz.prog 231 [.d (.row 1 xl),I x] [] ⟨I o,[],[]⟩:=by
 refine Fn.go N6 Tryz.func231 fun P hP Q hQ=>?_
 conv=>cbv
 refine .go hl fun v1 ac=>?_
 conv=>cbv
 refine LoopW.lp (κ:=Int) N6 hP [] [0,1,7] (fun i8=>[(8,I i8)]) (fun i8=>[])
  (fun i8=>0≤i8∧i8≤l.length∧∀(j:Nat) (hj:j<l.length),j<i8.toNat→decide (l[j]=x)=false)
  (fun i8=>(l.length - i8).toNat) (0) ⟨by omega,by omega,fun j _ h=>by simp at h⟩ ⟨rfl,trivial⟩ rfl ?_
 rintro i8 J ⟨h0,h1,hb⟩ hJ
 conv=>cbv
 refine .lss (fun h2=>?_) fun h2=>?_
 conv=>cbv
 refine .go i8.toNat hl fun ab e3 aa=>?_
 conv=>cbv
 refine .eql (fun h4=>?_) fun h4=>?_
 conv=>cbv
 have e:i8=XdT l x:=(by exact Pp (p:=fun y=>decide (y=x)) h0 (by omega) (by rw[←aa];exact decide_eq_true h4.symm) hb)
 rw[hr]at e
 subst e
 exact hQ _ _ (.i rfl rfl)
 conv=>cbv
 refine .add fun v5 ad=>?_
 conv=>cbv
 exact .go [] (v5) (hJ _ ⟨by omega,by omega,fun j hj h=>if e:j=i8.toNat then by subst e;rw[←aa];exact decide_eq_false (Ne.symm h4)else hb j hj (by omega)⟩ mlt)
 conv=>cbv
 have e:(-1)=XdT l x:=(by exact J8 (p:=fun y=>decide (y=x)) fun j hj=>hb j hj (by omega))
 rw[hr]at e
 subst e
 exact hQ _ _ (.i rfl rfl)
theorem Lf(hl:l.map cI=xl)(hn:l.length<2^40)(hr:Li l x=o):Fn Tryz.prog 157 [.d (.row 1 xl),I x] [] ⟨B o,[],[]⟩:=by
 refine Fn.go N6 Tryz.func157 fun P hP Q hQ=>?_
 conv=>cbv
 generalize aa:XdT l x=r1
 refine .dd hP (M2 hl (by omega) aa) ?_
 conv=>cbv
 refine .geq (fun h2=>?_) fun h2=>?_
 conv=>cbv
 have e:true=Li l x:=(by unfold Li;symm;rw[decide_eq_true_eq];obtain⟨hi,hp⟩:=Tr (p:=fun y=>decide (y=x)) aa h2;have hp:=of_decide_eq_true hp;rw[←hp];exact List.getElem_mem hi)
 rw[hr]at e
 subst e
 exact hQ _ _ (.b rfl rfl)
 conv=>cbv
 have e:false=Li l x:=(by unfold Li;symm;rw[decide_eq_false_iff_not];intro hm;have:=XhO (p:=fun y=>decide (y=x)) aa (by omega) x hm;simp at this)
 rw[hr]at e
 subst e
 exact hQ _ _ (.b rfl rfl)
theorem O0{name:ByteArray}{chain:List Int}{xchain:List (List D)}(hchain:chain.map cI=xchain)(hs:name.size≤1000000000)(hc:chain.length<2^40)(hr:Bb name chain=o):Fn Tryz.prog 155 [S name,.ptr 0 0 0] [.box 34 [.d (.row 1 xchain)]] ⟨B o,[],[]⟩:=by
 refine Fn.goR N6 Tryz.func155 fun P hP Q hQ=>?_
 conv=>cbv
 rcases aa:Ay name with⟨ad,ac⟩
 refine .dd hP (X7 (by omega) aa) ?_
 conv=>cbv
 refine .eql (fun h2=>?_) fun h2=>?_
 conv=>cbv
 have e:true=Bb name chain:=(by unfold Bb My;rw[aa];dsimp only;rw[decide_eq_false (by omega)];rfl)
 rw[hr]at e
 subst e
 exact hQ _ _ (.of [] (.inl rfl) rfl rfl rfl rfl)
 conv=>cbv
 refine .eql (fun h3=>?_) fun h3=>?_
 conv=>cbv
 generalize ab:Li chain ac=r4
 refine .dd hP (Lf hchain (by omega) ab) ?_
 cases r4
 conv=>cbv
 have e:false=Bb name chain:=(by unfold Bb My;rw[aa];dsimp only;rw[decide_eq_true (.inr ⟨h3,of_decide_eq_false ab⟩)];rfl)
 rw[hr]at e
 subst e
 exact hQ _ _ (.of [] (.inl rfl) rfl rfl rfl rfl)
 conv=>cbv
 have e:true=Bb name chain:=(by unfold Bb My;rw[aa];dsimp only;rw[decide_eq_false (by rintro(h|⟨_,h⟩);omega;exact h (of_decide_eq_true ab))];rfl)
 rw[hr]at e
 subst e
 exact hQ _ _ (.of [] (.inl rfl) rfl rfl rfl rfl)
 conv=>cbv
 have e:false=Bb name chain:=(by have hk:=XhV name;rw[aa]at hk;dsimp only at hk;unfold Bb My;rw[aa];dsimp only;rw[decide_eq_true (.inl (by omega))];rfl)
 rw[hr]at e
 subst e
 exact hQ _ _ (.of [] (.inl rfl) rfl rfl rfl rfl)
theorem Xch{Ak:List Cj}{Bk:List (List D)}{Aj:List Ac}{Bg:List (List D)}{Am:List Ac}{Bf:List (List D)}{Al:List ByteArray}{Bi:List (List D)}{Ao:Int}{An:Int}{o:List ByteArray}{xo:List (List D)}(A1:Ak.map B3=Bk)(Ax:Aj.map Ad=Bg)(A6:Am.map Ad=Bf)(A5:Al.map cS=Bi)(hd:okD ⟨Ak,Aj,Am,Al,Ao,An⟩)(hr:A9 (⟨Ak,Aj,Am,Al,Ao,An⟩:Aa)=o)(ho:o.map cS=xo):Fn Tryz.prog 82 [.agg [.d (.row 3 Bk),.d (.row 2 Bg),.d (.row 2 Bf),.d (.row 1 Bi),I Ao,I An]] [] ⟨.d (.row 1 xo),[],[]⟩:=by
 refine Fn.go N6 Tryz.func82 fun P hP Q hQ=>?_
 conv=>cbv
 have bf:Aj.length≤1000000000:=hd.2.2.1
 have aw:∀e∈Aj,e.name_.size≤1000000000:=hd.2.2.2.1
 generalize ao:C4 (⟨Ak,Aj,Am,Al,Ao,An⟩:Aa)=l1
 generalize ap:l1.map cI=bg
 refine .dd hP (XcM A1 Ax A6 A5 hd ao ap) ?_
 conv=>cbv
 refine LoopW.lp (κ:=Int×(List (List D))×Nat) N6 hP [2] [1,4] (fun(i5,ag,ah)=>[(3,.ref 3 0 ah),(5,I i5)]) (fun(i5,ag,ah)=>[(3,.row 1 false ag)])
  (fun(i5,ag,ah)=>∃(w3:List ByteArray),w3.map cS=ag∧ah=w3.length∧0≤i5∧i5≤Aj.length∧w3=((Aj.take i5.toNat).map fun e=>e.name_).filter (My l1)∧w3.length≤i5.toNat)
  (fun(i5,ag,ah)=>Aj.length - i5.toNat) (0,[],0) ⟨[],rfl,rfl,by omega,by omega,rfl,by simp⟩ ⟨rfl,rfl,trivial⟩ rfl ?_
 rintro⟨i5,ag,ah⟩ J ⟨w3,aj,a6,h0,hle,hw,hwl⟩ hJ
 conv=>cbv
 refine .go Ax fun v2 bh=>?_
 conv=>cbv
 refine .lss (fun h3=>?_) fun h3=>?_
 conv=>cbv
 refine .go i5.toNat Ax fun ai ⟨aa,a7⟩ ac=>?_
 conv=>cbv
 have hsz4:aa.size≤1000000000:=by have:=aw _ (List.getElem_mem ai);rw[←ac]at this;exact this
 have hle1:=Ii ao
 rcases aq:Ay aa with⟨ab,ak⟩
 refine .dd hP (N1 (by omega) aq) ?_
 conv=>cbv
 have hl:My l1 aa=decide (ab=2∨(ab=1∧ak∉l1)):=by unfold My;rw[aq]
 refine .eql (fun h6=>?_) fun h6=>?_
 conv=>cbv
 refine .go i5.toNat Ax fun a8 ⟨ae,ba⟩ am=>?_
 conv=>cbv
 refine .one ae aj rfl fun ax z8 bb ay=>?_
 conv=>cbv
 refine .add fun v9 az=>?_
 conv=>cbv
 exact .go [5] (v9,z8,ax) (hJ _ ⟨_,ay,Cv,by omega,by omega,by(first|rw[show v9.toNat=i5.toNat+1 by omega]|rw[show al.toNat=i5.toNat+1 by omega]|rw[show v8.toNat=i5.toNat+1 by omega]);rw[hw,List.take_succ_eq_append_getElem ai,List.map_append,List.filter_append,←ac];simp only[List.map_cons,List.map_nil,List.filter_cons,List.filter_nil,hl];first|(guard_hyp h6:ab=2;rw[decide_eq_true (.inl h6)];try rw[if_pos rfl,show ae=aa from congrArg Ac.name_ (am.trans ac.symm)])|(guard_hyp h7:ab=1;guard_hyp ad:Jx l1 ak=false;rw[decide_eq_true (.inr ⟨h7,of_decide_eq_false ad⟩),if_pos rfl,show af=aa from congrArg Ac.name_ (an.trans ac.symm)])|(guard_hyp h7:ab=1;rw[decide_eq_false (by rintro(h|⟨_,h⟩);exact h6 h;exact h (of_decide_eq_true ad))];simp)|(rw[decide_eq_false (by rintro(h|⟨h,_⟩);exact h6 h;exact h7 h)];simp),by first|omega|(rw[List.length_append,List.length_singleton];omega)⟩ mlt)
 conv=>cbv
 refine .eql (fun h7=>?_) fun h7=>?_
 conv=>cbv
 generalize ad:Jx l1 ak=r8
 refine .dd hP (XdR ap (by omega) ad) ?_
 cases r8
 conv=>cbv
 refine .go i5.toNat Ax fun bc ⟨af,bd⟩ an=>?_
 conv=>cbv
 refine .one af aj rfl fun ar a1 a2 au=>?_
 conv=>cbv
 refine .add fun al be=>?_
 conv=>cbv
 exact .go [5] (al,a1,ar) (hJ _ ⟨_,au,Cv,by omega,by omega,by(first|rw[show v9.toNat=i5.toNat+1 by omega]|rw[show al.toNat=i5.toNat+1 by omega]|rw[show v8.toNat=i5.toNat+1 by omega]);rw[hw,List.take_succ_eq_append_getElem ai,List.map_append,List.filter_append,←ac];simp only[List.map_cons,List.map_nil,List.filter_cons,List.filter_nil,hl];first|(guard_hyp h6:ab=2;rw[decide_eq_true (.inl h6)];try rw[if_pos rfl,show ae=aa from congrArg Ac.name_ (am.trans ac.symm)])|(guard_hyp h7:ab=1;guard_hyp ad:Jx l1 ak=false;rw[decide_eq_true (.inr ⟨h7,of_decide_eq_false ad⟩),if_pos rfl,show af=aa from congrArg Ac.name_ (an.trans ac.symm)])|(guard_hyp h7:ab=1;rw[decide_eq_false (by rintro(h|⟨_,h⟩);exact h6 h;exact h (of_decide_eq_true ad))];simp)|(rw[decide_eq_false (by rintro(h|⟨h,_⟩);exact h6 h;exact h7 h)];simp),by first|omega|(rw[List.length_append,List.length_singleton];omega)⟩ mlt)
 conv=>cbv
 refine .add fun v9 az=>?_
 conv=>cbv
 exact .go [3] (v9,ag,ah) (hJ _ ⟨_,aj,Cv,by omega,by omega,by(first|rw[show v9.toNat=i5.toNat+1 by omega]|rw[show al.toNat=i5.toNat+1 by omega]|rw[show v8.toNat=i5.toNat+1 by omega]);rw[hw,List.take_succ_eq_append_getElem ai,List.map_append,List.filter_append,←ac];simp only[List.map_cons,List.map_nil,List.filter_cons,List.filter_nil,hl];first|(guard_hyp h6:ab=2;rw[decide_eq_true (.inl h6)];try rw[if_pos rfl,show ae=aa from congrArg Ac.name_ (am.trans ac.symm)])|(guard_hyp h7:ab=1;guard_hyp ad:Jx l1 ak=false;rw[decide_eq_true (.inr ⟨h7,of_decide_eq_false ad⟩),if_pos rfl,show af=aa from congrArg Ac.name_ (an.trans ac.symm)])|(guard_hyp h7:ab=1;rw[decide_eq_false (by rintro(h|⟨_,h⟩);exact h6 h;exact h (of_decide_eq_true ad))];simp)|(rw[decide_eq_false (by rintro(h|⟨h,_⟩);exact h6 h;exact h7 h)];simp),by first|omega|(rw[List.length_append,List.length_singleton];omega)⟩ mlt)
 conv=>cbv
 refine .add fun v8 bi=>?_
 conv=>cbv
 exact .go [3] (v8,ag,ah) (hJ _ ⟨_,aj,Cv,by omega,by omega,by(first|rw[show v9.toNat=i5.toNat+1 by omega]|rw[show al.toNat=i5.toNat+1 by omega]|rw[show v8.toNat=i5.toNat+1 by omega]);rw[hw,List.take_succ_eq_append_getElem ai,List.map_append,List.filter_append,←ac];simp only[List.map_cons,List.map_nil,List.filter_cons,List.filter_nil,hl];first|(guard_hyp h6:ab=2;rw[decide_eq_true (.inl h6)];try rw[if_pos rfl,show ae=aa from congrArg Ac.name_ (am.trans ac.symm)])|(guard_hyp h7:ab=1;guard_hyp ad:Jx l1 ak=false;rw[decide_eq_true (.inr ⟨h7,of_decide_eq_false ad⟩),if_pos rfl,show af=aa from congrArg Ac.name_ (an.trans ac.symm)])|(guard_hyp h7:ab=1;rw[decide_eq_false (by rintro(h|⟨_,h⟩);exact h6 h;exact h (of_decide_eq_true ad))];simp)|(rw[decide_eq_false (by rintro(h|⟨h,_⟩);exact h6 h;exact h7 h)];simp),by first|omega|(rw[List.length_append,List.length_singleton];omega)⟩ mlt)
 conv=>cbv
 have e:w3=A9 (⟨Ak,Aj,Am,Al,Ao,An⟩:Aa):=(by unfold A9;rw[ao,hw,List.take_of_length_le (by omega)])
 rw[hr]at e
 subst e
 exact hQ _ _ (.r rfl rfl (by rw[←aj,List.length_map];first|omega|(simp;omega)) (by rw[←aj,←ho]))
end
section
open Go Go.Proofs
set_option maxRecDepth 20000
set_option maxHeartbeats 4000000
def Xb6:List (Nat×TyRow):=[ty3,ty9,Xfz,We,Z1,Xal,ty96,Wn,XkB]
theorem Xbe:Bl Tryz.prog Xb6:=Bl.of (by kernel_rfl)
theorem H2:Setup Tryz.prog Xb6:=⟨Xbe,mixed⟩
theorem XkT{α:Type}{p:α→Bool}{l:List α}{i:Int}(e:Wf p l=i)(h:i≠-1):0≤i∧i<l.length∧l.take i.toNat=(l.take (i+1).toNat).filter (fun x=>!p x):=by
 have hb:=Xio e
 have h0:0≤i:=by omega
 obtain⟨hi,hp⟩:=Tr e h0
 refine⟨h0,hb.2,?_⟩
 rw[show(i+1).toNat=i.toNat+1 by omega,List.take_succ_eq_append_getElem hi,List.filter_append]
 have h1:(l.take i.toNat).filter (fun x=>!p x)=l.take i.toNat:=by
  rw[List.filter_eq_self]
  intro x hx
  obtain⟨j,hj,rfl⟩:=List.getElem_of_mem hx
  have aa:j<i.toNat:=by have:=hj;rw[List.length_take]at this;omega
  rw[List.getElem_take]
  have e2:l.findIdx p=i.toNat:=by
   unfold Wf at e
   split at e<;>omega
  have:=List.not_of_lt_findIdx (p:=p) (xs:=l) (i:=j) (by omega)
  simpa using this
 rw[h1]
 simp[hp]
theorem Xko{α:Type}{p:α→Bool}{l w:List α}{i j:Nat}(hj:j<l.length)(hij:i<j)(hl:w.length=l.length)(h1:w.take i=(l.take j).filter (fun x=>!p x))(h2:w.drop j=l.drop j)(hp:p l[j]=false):
  (w.set i l[j]).take (i+1)=(l.take (j+1)).filter (fun x=>!p x)∧(w.set i l[j]).drop (j+1)=l.drop (j+1):=by
 constructor
 ·rw[List.take_succ_eq_append_getElem (by rw[List.length_set];omega),List.take_set_of_le (Nat.le_refl i),h1,List.take_succ_eq_append_getElem hj,List.filter_append]
  simp[hp]
 ·rw[List.drop_set_of_lt (by omega),←List.drop_drop,←List.drop_drop,h2]
theorem Xkg{α:Type}{p:α→Bool}{l w:List α}{i j:Nat}(hj:j<l.length)(h1:w.take i=(l.take j).filter (fun x=>!p x))(h2:w.drop j=l.drop j)(hp:p l[j]=true):
  w.take i=(l.take (j+1)).filter (fun x=>!p x)∧w.drop (j+1)=l.drop (j+1):=by
 constructor
 ·rw[List.take_succ_eq_append_getElem hj,List.filter_append,h1]
  simp[hp]
 ·rw[←List.drop_drop,←List.drop_drop,h2]
theorem df_at{α:Type}{l w:List α}{j:Nat}(hj:j<w.length)(aa:j<l.length)(h2:w.drop j=l.drop j):w[j]=l[j]:=by
 have:=congrArg (·[0]?) h2
 simpa[hj,aa]using this
theorem Xlu{α:Type}{c:α→List D}{w o:List α}{z:α}{i n:Nat}{x:List (List D)}(hn:n=w.length - i)(hi:i≤w.length)(ho:w.take i=o)(h:(w.take i++(List.replicate n z++w.drop (i+n))).map c=x):i=o.length∧(o++List.replicate (w.length - o.length) z).map c=x:=by
 have h1:i=o.length:=by rw[←ho,List.length_take];omega
 refine⟨h1,?_⟩
 rw[←h,ho,List.drop_of_length_le (by omega),List.append_nil,hn,h1]
def D5(l:List ByteArray)(chain:List Int):Int:=Wf (fun x=>Bb x chain) l
variable {l o Al:List ByteArray} {xl xchain Bk Bg Bf Bi xo:List (List D)} {nl no:Nat} {chain:List Int} {Ak:List Cj} {Aj Am:List Ac} {Ao An:Int}
theorem Ln{o:Int}(hl:l.map cS=xl)(hnl:nl=l.length)(hchain:chain.map cI=xchain)(hn:l.length<2^40)(hc:chain.length<2^40)(hel:∀x∈l,x.size≤1000000000)(hr:D5 l chain=o):Fn Tryz.prog 228 [.ref 0 0 nl,.clo 155 [.ptr 1 0 0]] [.row 1 false xl,.box 34 [.d (.row 1 xchain)]] ⟨I o,[],[]⟩:=by
 refine Fn.goR H2 Tryz.func228 fun P hP Q hQ=>?_
 conv=>cbv
 refine .go fun v1 af=>?_
 conv=>cbv
 refine LoopW.lp (κ:=Int) H2 hP [] [0,1,7] (fun i8=>[(8,I i8)]) (fun i8=>[])
  (fun i8=>0≤i8∧i8≤l.length∧∀(j:Nat) (hj:j<l.length),j<i8.toNat→Bb l[j] chain=false)
  (fun i8=>(l.length - i8).toNat) (0) ⟨by omega,by omega,fun j _ h=>by simp at h⟩ ⟨rfl,trivial⟩ rfl ?_
 rintro i8 J ⟨h0,h1,hb⟩ hJ
 conv=>cbv
 refine .lss (fun h2=>?_) fun h2=>?_
 conv=>cbv
 refine .go i8.toNat fun p3 ac ad=>?_
 conv=>cbv
 refine .go hl fun ae e4 aa=>?_
 conv=>cbv
 subst ac
 generalize ab:Bb e4 chain=r5
 refine .bx [1] [] hP (O0 hchain (hel e4 (aa▸List.getElem_mem _)) hc ab) rfl rfl rfl rfl ?_
 cases r5
 conv=>cbv
 refine .add fun v6 ag=>?_
 conv=>cbv
 exact .go [] (v6) (hJ _ ⟨by omega,by omega,fun j hj h=>if e:j=i8.toNat then by subst e;rw[←aa];exact ab else hb j hj (by omega)⟩ mlt)
 conv=>cbv
 have e:i8=D5 l chain:=(by exact Pp (p:=fun x=>Bb x chain) h0 (by omega) (by rw[←aa];exact ab) hb)
 rw[hr]at e
 subst e
 exact hQ _ _ (.of [] (.inl rfl) rfl rfl rfl rfl)
 conv=>cbv
 have e:(-1)=D5 l chain:=(by exact J8 (p:=fun x=>Bb x chain) fun j hj=>hb j hj (by omega))
 rw[hr]at e
 subst e
 exact hQ _ _ (.of [] (.inl rfl) rfl rfl rfl rfl)
def D0(l:List ByteArray)(chain:List Int):List ByteArray:=l.filter (fun x=>!Bb x chain)
theorem K8{xf:List (List D)}(hl:l.map cS=xl)(hnl:nl=l.length)(hchain:chain.map cI=xchain)(hn:l.length<2^40)(hc:chain.length<2^40)(hel:∀x∈l,x.size≤1000000000)(hr:D0 l chain=o)(hf:(o++List.replicate (l.length - o.length) (tx [])).map cS=xf)(hno:no=o.length):Fn Tryz.prog 154 [.ref 0 0 nl,.clo 155 [.ptr 1 0 0]] [.row 1 false xl,.box 34 [.d (.row 1 xchain)]] ⟨.ref 0 0 no,[],[(0,.row 1 false xf)]⟩:=by
 refine Fn.goR H2 Tryz.func154 fun P hP Q hQ=>?_
 conv=>cbv
 generalize ad:D5 l chain=r1
 refine .bx [0,1] [] hP (Ln hl (by first|rfl|omega|(simp;omega)) hchain hn hc hel ad) rfl rfl rfl rfl ?_
 conv=>cbv
 refine .eql (fun h2=>?_) fun h2=>?_
 conv=>cbv
 have e:l=o:=by rw[←hr];unfold D0;symm;rw[List.filter_eq_self];intro x hx;rw[XhO (p:=fun x=>Bb x chain) ad (by omega) x hx];rfl
 subst e
 obtain rfl:xl=xf:=by rw[←hl,←hf];simp
 obtain rfl:nl=no:=by omega
 exact hQ _ _ (.of [] (.inl rfl) rfl rfl rfl rfl)
 conv=>cbv
 have hd:=XkT (p:=fun x=>Bb x chain) ad h2
 refine .add fun v3 aj=>?_
 conv=>cbv
 refine LoopW.lp (κ:=Int×Int×(List (List D))) H2 hP [] [0,1] (fun(i5,i6,aa)=>[(5,I i5),(6,I i6)]) (fun(i5,i6,aa)=>[(0,.row 1 false aa)])
  (fun(i5,i6,aa)=>∃(w0:List ByteArray),w0.map cS=aa∧(0≤i5∧i5<i6∧i6≤l.length)∧w0.length=l.length∧w0.take i5.toNat=(l.take i6.toNat).filter (fun x=>!Bb x chain)∧w0.drop i6.toNat=l.drop i6.toNat)
  (fun(i5,i6,aa)=>(l.length - i6).toNat) (r1,v3,xl) ⟨l,hl,by omega,rfl,by rw[hd.2.2,aj],rfl⟩ ⟨rfl,rfl,trivial⟩ rfl ?_
 rintro⟨i5,i6,aa⟩ J ⟨w0,ab,hb,hwl,hwt,hwd⟩ hJ
 conv=>cbv
 refine .go fun v4 aw=>?_
 conv=>cbv
 refine .lss (fun h5=>?_) fun h5=>?_
 conv=>cbv
 refine .go i6.toNat fun p6 ak ap=>?_
 conv=>cbv
 refine .go ab fun ag e7 al=>?_
 conv=>cbv
 subst ak
 have ac:e7=l[i6.toNat]:=al.trans (df_at ag (by omega) hwd)
 generalize ae:Bb e7 chain=r8
 refine .bx [1] [] hP (O0 hchain (hel e7 (by rw[ac];exact List.getElem_mem _)) hc ae) rfl rfl rfl rfl ?_
 cases r8
 conv=>cbv
 refine .go i5.toNat fun p9 am aq=>?_
 conv=>cbv
 refine .all (e7) ab rfl fun an ah=>?_
 conv=>cbv
 refine .add fun ai ar=>?_
 conv=>cbv
 refine .add fun af au=>?_
 conv=>cbv
 have hk:=Xko (i:=i5.toNat) (p:=fun x=>Bb x chain) (show i6.toNat<l.length by omega) (by omega) hwl hwt hwd (by rw[←ac];exact ae)
 rw[←ac]at hk
 subst am
 exact .go [] (ai,af,an) (hJ _ ⟨_,ah,by omega,by rw[List.length_set];exact hwl,by rw[show ai.toNat=i5.toNat+1 by omega,show af.toNat=i6.toNat+1 by omega];exact hk.1,by rw[show af.toNat=i6.toNat+1 by omega];exact hk.2⟩ mlt)
 conv=>cbv
 refine .add fun v9 ax=>?_
 conv=>cbv
 have hk:=Xkg (p:=fun x=>Bb x chain) (show i6.toNat<l.length by omega) hwt hwd (by rw[←ac];exact ae)
 exact .go [] (i5,v9,aa) (hJ _ ⟨_,ab,by omega,hwl,by rw[show v9.toNat=i6.toNat+1 by omega];exact hk.1,by rw[show v9.toNat=i6.toNat+1 by omega];exact hk.2⟩ mlt)
 conv=>cbv
 refine .lo fun on6 n6 hon6 ay=>?_
 conv=>cbv
 refine .go (tx []) hP ab Tryz.underlying26 (by kernel_rfl) rfl fun z7 ao=>?_
 conv=>cbv
 refine .hi fun on8 n8 hon8 az=>?_
 conv=>cbv
 have e:w0.take on6=o:=by rw[hon6,Nat.zero_add,hwt,List.take_of_length_le (by omega),←hr];rfl
 obtain⟨e1,e2⟩:=Xlu (by omega) (by omega) e ao
 rw[hwl,hf]at e2
 subst e2
 obtain rfl:n8=no:=by omega
 subst hon8
 exact hQ _ _ (.of [] (.inl rfl) rfl rfl rfl rfl)
def Ho(d:Aa):List ByteArray:=d.entries_.map fun e=>e.name_
theorem Xk4{o:List Int}(A1:Ak.map B3=Bk)(Ax:Aj.map Ad=Bg)(A6:Am.map Ad=Bf)(A5:Al.map cS=Bi)(hd:okD ⟨Ak,Aj,Am,Al,Ao,An⟩)(hr:C4 (⟨Ak,Aj,Am,Al,Ao,An⟩:Aa)=o)(ho:o.map cI=xo):Fn Tryz.prog 153 [.agg [.d (.row 3 Bk),.d (.row 2 Bg),.d (.row 2 Bf),.d (.row 1 Bi),I Ao,I An]] [] ⟨.d (.row 1 xo),[],[]⟩:=by
 refine Fn.go H2 Tryz.func153 fun P hP Q hQ=>?_
 conv=>cbv
 generalize an:Mr (⟨Ak,Aj,Am,Al,Ao,An⟩:Aa)=l1
 generalize ao:l1.map XjO=ba
 refine .dd hP (XgX A1 Ax A6 A5 hd an ao) ?_
 conv=>cbv
 refine .go ao fun v2 bb=>?_
 conv=>cbv
 refine LoopW.lp (κ:=Int×(List (List D))×Nat) H2 hP [2] [8,9] (fun(aa,ah,ai)=>[(3,.ref 3 0 ai),(10,I aa)]) (fun(aa,ah,ai)=>[(3,.row 1 false ah)])
  (fun(aa,ah,ai)=>∃(w3:List Int),w3.map cI=ah∧ai=w3.length∧0≤aa∧aa≤l1.length∧w3=(l1.take aa.toNat).map fun x=>x.base_)
  (fun(aa,ah,ai)=>(l1.length - aa).toNat) (0,[],0) ⟨[],rfl,rfl,by omega,by omega,by simp⟩ ⟨rfl,rfl,trivial⟩ rfl ?_
 rintro⟨aa,ah,ai⟩ J ⟨w3,ap,a6,h0,h1,hw⟩ hJ
 have a7:=Rq an
 have hwl:w3.length=aa.toNat:=by rw[hw,List.length_map,List.length_take];omega
 conv=>cbv
 refine .lss (fun h3=>?_) fun h3=>?_
 conv=>cbv
 refine .goX aa.toNat ao fun ay ⟨al,aq,⟨am,⟨ad,ae,af,ag⟩,ab,ac,aj,ak⟩⟩ fe4 az hfe4=>?_
 replace hfe4:[.sc (.int .i64 al),.sc (.string aq),.sc (.bool am),.sc (.int .i64 ad),.sc (.int .i64 ae),.sc (.int .i64 af),.sc (.int .i64 ag),.row 1 (ab.map cS),.row 1 (ac.map cI),.sc (.int .i64 aj),.sc (.bool ak)]=fe4:=hfe4
 generalize ar:ab.map cS=au at hfe4
 generalize aw:ac.map cI=ax at hfe4
 subst hfe4
 conv=>cbv
 refine .one al ap rfl fun a1 z5 a8 a2=>?_
 conv=>cbv
 refine .add fun v6 bc=>?_
 conv=>cbv
 exact .go [8] (v6,z5,a1) (hJ _ ⟨_,a2,Cv,by omega,by omega,by rw[hw,show v6.toNat=aa.toNat+1 by omega,Rn ay,←az]⟩ mlt)
 conv=>cbv
 have e:w3=C4 (⟨Ak,Aj,Am,Al,Ao,An⟩:Aa):=(by unfold C4;rw[an,hw,List.take_of_length_le (by omega)])
 rw[hr]at e
 subst e
 exact hQ _ _ (.r rfl rfl (by rw[←ap,List.length_map];first|omega|(simp;omega)) (by rw[←ap,←ho]))
theorem Xdy(A1:Ak.map B3=Bk)(Ax:Aj.map Ad=Bg)(A6:Am.map Ad=Bf)(A5:Al.map cS=Bi)(am:Aj.length≤1000000000)(hr:Ho (⟨Ak,Aj,Am,Al,Ao,An⟩:Aa)=o)(ho:o.map cS=xo):Fn Tryz.prog 92 [.agg [.d (.row 3 Bk),.d (.row 2 Bg),.d (.row 2 Bf),.d (.row 1 Bi),I Ao,I An]] [] ⟨.d (.row 1 xo),[],[]⟩:=by
 refine Fn.go H2 Tryz.func92 fun P hP Q hQ=>?_
 conv=>cbv
 refine .go Ax fun v1 an=>?_
 conv=>cbv
 refine LoopW.lp (κ:=Int×(List (List D))×Nat) H2 hP [2] [8,9] (fun(aa,ab,ac)=>[(3,.ref 3 0 ac),(10,I aa)]) (fun(aa,ab,ac)=>[(3,.row 1 false ab)])
  (fun(aa,ab,ac)=>∃(w3:List ByteArray),w3.map cS=ab∧ac=w3.length∧0≤aa∧aa≤Aj.length∧w3=(Aj.take aa.toNat).map (fun e=>e.name_)∧w3.length=aa.toNat)
  (fun(aa,ab,ac)=>Aj.length - aa.toNat) (0,[],0) ⟨[],rfl,rfl,by omega,by omega,rfl,rfl⟩ ⟨rfl,rfl,trivial⟩ rfl ?_
 rintro⟨aa,ab,ac⟩ J ⟨w3,ad,aj,h0,hle,hw,hwl⟩ hJ
 conv=>cbv
 refine .lss (fun h2=>?_) fun h2=>?_
 conv=>cbv
 refine .go aa.toNat Ax fun af ⟨ae,ak⟩ ag=>?_
 conv=>cbv
 refine .one ae ad rfl fun ah z4 al ai=>?_
 conv=>cbv
 refine .add fun v5 ao=>?_
 conv=>cbv
 exact .go [6] (v5,z4,ah) (hJ _ ⟨_,ai,Cv,by omega,by omega,by rw[hw,show v5.toNat=aa.toNat+1 by omega,List.take_succ_eq_append_getElem af,List.map_append,←ag];rfl,by rw[List.length_append,hwl];simp;omega⟩ mlt)
 conv=>cbv
 have e:w3=Ho (⟨Ak,Aj,Am,Al,Ao,An⟩:Aa):=(by unfold Ho;rw[hw,List.take_of_length_le (by omega)])
 rw[hr]at e
 subst e
 exact hQ _ _ (.r rfl rfl (by rw[←ad,List.length_map];first|omega|(simp;omega)) (by rw[←ad,←ho]))
theorem XbY(A1:Ak.map B3=Bk)(Ax:Aj.map Ad=Bg)(A6:Am.map Ad=Bf)(A5:Al.map cS=Bi)(am:Aj.length≤1000000000)(hr:Ho (⟨Ak,Aj,Am,Al,Ao,An⟩:Aa)=o)(ho:o.map cS=xo)(hno:no=o.length):Fn Tryz.prog 92 [.agg [.d (.row 3 Bk),.d (.row 2 Bg),.d (.row 2 Bf),.d (.row 1 Bi),I Ao,I An]] [] ⟨.ref 0 0 no,[.row 1 false xo],[]⟩:=by
 refine Fn.goR H2 Tryz.func92 fun P hP Q hQ=>?_
 conv=>cbv
 refine .go Ax fun v1 an=>?_
 conv=>cbv
 refine LoopW.lp (κ:=Int×(List (List D))×Nat) H2 hP [2] [8,9] (fun(aa,ab,ac)=>[(3,.ref 3 0 ac),(10,I aa)]) (fun(aa,ab,ac)=>[(3,.row 1 false ab)])
  (fun(aa,ab,ac)=>∃(w3:List ByteArray),w3.map cS=ab∧ac=w3.length∧0≤aa∧aa≤Aj.length∧w3=(Aj.take aa.toNat).map (fun e=>e.name_)∧w3.length=aa.toNat)
  (fun(aa,ab,ac)=>Aj.length - aa.toNat) (0,[],0) ⟨[],rfl,rfl,by omega,by omega,rfl,rfl⟩ ⟨rfl,rfl,trivial⟩ rfl ?_
 rintro⟨aa,ab,ac⟩ J ⟨w3,ae,aj,h0,hle,hw,hwl⟩ hJ
 conv=>cbv
 refine .lss (fun h2=>?_) fun h2=>?_
 conv=>cbv
 refine .go aa.toNat Ax fun af ⟨ad,ak⟩ ag=>?_
 conv=>cbv
 refine .one ad ae rfl fun ah z4 al ai=>?_
 conv=>cbv
 refine .add fun v5 ao=>?_
 conv=>cbv
 exact .go [6] (v5,z4,ah) (hJ _ ⟨_,ai,Cv,by omega,by omega,by rw[hw,show v5.toNat=aa.toNat+1 by omega,List.take_succ_eq_append_getElem af,List.map_append,←ag];rfl,by rw[List.length_append,hwl];simp;omega⟩ mlt)
 conv=>cbv
 have e:w3=Ho (⟨Ak,Aj,Am,Al,Ao,An⟩:Aa):=(by unfold Ho;rw[hw,List.take_of_length_le (by omega)])
 rw[hr]at e
 subst e
 obtain rfl:ab=xo:=by rw[←ae,←ho]
 obtain rfl:ac=no:=by first|omega|(rw[hno];simp;done)|(rw[hno];simp;omega)
 exact hQ _ _ (.of [3] (.inl rfl) rfl rfl rfl rfl)
theorem XbG(A1:Ak.map B3=Bk)(Ax:Aj.map Ad=Bg)(A6:Am.map Ad=Bf)(A5:Al.map cS=Bi)(hd:okD ⟨Ak,Aj,Am,Al,Ao,An⟩)(hr:A9 (⟨Ak,Aj,Am,Al,Ao,An⟩:Aa)=o)(ho:o.map cS=xo):Fn Tryz.prog 78 [.agg [.d (.row 3 Bk),.d (.row 2 Bg),.d (.row 2 Bf),.d (.row 1 Bi),I Ao,I An]] [] ⟨.d (.row 1 xo),[],[]⟩:=by
 refine Fn.go H2 Tryz.func78 fun P hP Q hQ=>?_
 conv=>cbv
 have ah:Aj.length≤1000000000:=hd.2.2.1
 have ai:∀e∈Aj,e.name_.size≤1000000000:=hd.2.2.2.1
 generalize ab:C4 (⟨Ak,Aj,Am,Al,Ao,An⟩:Aa)=l1
 generalize ae:l1.map cI=al
 refine .dd hP (Xk4 A1 Ax A6 A5 hd ab ae) ?_
 conv=>cbv
 generalize af:Ho (⟨Ak,Aj,Am,Al,Ao,An⟩:Aa)=l2
 generalize ac:l2.map cS=am
 obtain⟨nl2,hnl2⟩:∃m,m=l2.length:=⟨_,rfl⟩
 refine .ddA hP (XbY A1 Ax A6 A5 ah af ac hnl2) rfl rfl rfl (ac▸Tt (fun _=>rfl) l2) ?_
 conv=>cbv
 have aj:=Ii ab
 have aa:l2=Aj.map (fun e=>e.name_):=af.symm
 have ak:l2.length=Aj.length:=by rw[aa,List.length_map]
 have hel:∀x∈l2,x.size≤1000000000:=by rw[aa];intro x hx;obtain⟨y,hy,rfl⟩:=List.mem_map.1 hx;exact ai y hy
 generalize ag:D0 l2 l1=l3
 generalize ad:(l3++List.replicate (l2.length - l3.length) (tx [])).map cS=an
 obtain⟨nl3,hnl3⟩:∃m,m=l3.length:=⟨_,rfl⟩
 refine .bx [4,3] [] hP (K8 ac (by first|rfl|omega|(simp;omega)) ae (by omega) (by omega) hel ag ad hnl3) rfl rfl rfl rfl ?_
 conv=>cbv
 have e:l3=A9 (⟨Ak,Aj,Am,Al,Ao,An⟩:Aa):=by
  rw[←ag,aa]
  unfold A9 D0 Bb
  rw[ab]
  simp only[Bool.not_not]
 rw[hr]at e
 subst e
 exact hQ _ _ (.rs rfl rfl (by rw[←ad,hnl3];simp) (by rw[←ad,←ho,hnl3];simp))
theorem V9{d:Aa}{l:List ByteArray}(hd:okD d)(e:A9 d=l):l.length≤1000000000:=by
 rw[←e]
 unfold A9
 have:=List.length_filter_le (My (C4 d)) (d.entries_.map fun e=>e.name_)
 rw[List.length_map]at this
 have:=hd.2.2.1
 omega
end
section
open Go Go.Proofs
set_option maxRecDepth 20000
set_option maxHeartbeats 4000000
def Xby:List (Nat×TyRow):=[ty3,ty4,ty9,We,XiF,ty92]
theorem XbF:Bl Tryz.prog Xby:=Bl.of (by kernel_rfl)
theorem Xe6:Setup Tryz.prog Xby:=⟨XbF,mixed⟩
def B9(b:ByteArray)(v:Int):ByteArray:=
 if(As b).ok_=true∧(0≤v∧v≤2)then(if 0<v then A7 ⟨v,(As b).head_.stride_,(As b).head_.base_,(As b).head_.link_⟩ (As b).records_ else A7 (As b).head_ (As b).records_)else tx []
theorem Pu{b:ByteArray}{v:Int}{o:ByteArray}(e:B9 b v=o):o.size≤200000:=by
 rw[←e]
 unfold B9
 split
 ·split
  ·exact Dt rfl
  ·exact Dt rfl
 ·simp[A3]
variable {b o:ByteArray} {version:Int}
theorem XfV(hn:b.size<2^40)(hr:B9 b version=o):Fn Tryz.prog 125 [S b,I version] [] ⟨S o,[],[]⟩:=by
 refine Fn.go Xe6 Tryz.func125 fun P hP Q hQ=>?_
 conv=>cbv
 rcases ag:As b with⟨am,⟨af,aa,ab,ac⟩,ae,ak,ap,aq⟩
 generalize ad:ae.map cS=an
 generalize aj:ak.map cI=ao
 refine .dd hP (Xt (by omega) ag ad aj) ?_
 conv=>cbv
 have zl:=Jp (b:=b)
 rw[ag]at zl
 simp only[]at zl
 cases am
 conv=>cbv
 have e:(tx [])=B9 b version:=(by unfold B9;rw[ag];simp only[];rw[if_neg];rintro⟨q,_⟩;cases q)
 rw[hr]at e
 subst e
 exact hQ _ _ (.s rfl rfl)
 conv=>cbv
 refine .neq (fun h2=>?_) fun h2=>?_
 conv=>cbv
 generalize al:Ce version=r3
 refine .dd hP (J7 al) ?_
 cases r3
 simp only[Ce,decide_eq_true_eq,decide_eq_false_iff_not]at al
 conv=>cbv
 have e:(tx [])=B9 b version:=(by unfold B9;rw[ag];simp only[];rw[if_neg];rintro⟨_,q⟩;omega)
 rw[hr]at e
 subst e
 exact hQ _ _ (.s rfl rfl)
 simp only[Ce,decide_eq_true_eq,decide_eq_false_iff_not]at al
 conv=>cbv
 refine .neq (fun h4=>?_) fun h4=>?_
 conv=>cbv
 generalize ah:A7 (⟨version,aa,ab,ac⟩:A0) ae=r5
 have zr5:=Dt ah
 refine .dd hP (Om ad (by omega) ah) ?_
 conv=>cbv
 have e:r5=B9 b version:=(by unfold B9;rw[ag];simp only[];rw[if_pos ⟨trivial,by omega⟩,if_pos (by omega)];exact ah.symm)
 rw[hr]at e
 subst e
 exact hQ _ _ (.s rfl rfl)
 conv=>cbv
 generalize ah:A7 (⟨af,aa,ab,ac⟩:A0) ae=r5
 have zr5:=Dt ah
 refine .dd hP (Om ad (by omega) ah) ?_
 conv=>cbv
 have e:r5=B9 b version:=(by exact absurd h4 h2)
 rw[hr]at e
 subst e
 exact hQ _ _ (.s rfl rfl)
 conv=>cbv
 refine .neq (fun h3=>?_) fun h3=>?_
 conv=>cbv
 generalize ai:A7 (⟨version,aa,ab,ac⟩:A0) ae=r4
 have zr4:=Dt ai
 refine .dd hP (Om ad (by omega) ai) ?_
 conv=>cbv
 have e:r4=B9 b version:=(by exact absurd h2 h3)
 rw[hr]at e
 subst e
 exact hQ _ _ (.s rfl rfl)
 conv=>cbv
 generalize ai:A7 (⟨af,aa,ab,ac⟩:A0) ae=r4
 have zr4:=Dt ai
 refine .dd hP (Om ad (by omega) ai) ?_
 conv=>cbv
 have e:r4=B9 b version:=(by unfold B9;rw[ag];simp only[];rw[if_pos ⟨trivial,by omega⟩,if_neg (by omega)];exact ai.symm)
 rw[hr]at e
 subst e
 exact hQ _ _ (.s rfl rfl)
theorem Xff(hn:b.size<2^40)(hr:B9 b version=o):Fn Tryz.prog 114 [S b,I version] [] ⟨S o,[],[]⟩:=by
 refine Fn.go Xe6 Tryz.func114 fun P hP Q hQ=>?_
 conv=>cbv
 rcases ag:As b with⟨al,⟨ah,aa,ab,ac⟩,ae,aj,ao,ap⟩
 generalize ad:ae.map cS=am
 generalize ai:aj.map cI=an
 refine .dd hP (Lp (by omega) ag ad ai) ?_
 conv=>cbv
 have zl:=Jp (b:=b)
 rw[ag]at zl
 simp only[]at zl
 cases al
 conv=>cbv
 have e:(tx [])=B9 b version:=(by unfold B9;rw[ag];simp only[];rw[if_neg];rintro⟨q,_⟩;cases q)
 rw[hr]at e
 subst e
 exact hQ _ _ (.s rfl rfl)
 conv=>cbv
 generalize ak:Av version 0 2=r2
 refine .dd hP (Cz ak) ?_
 cases r2
 simp only[Av,decide_eq_true_eq,decide_eq_false_iff_not]at ak
 conv=>cbv
 have e:(tx [])=B9 b version:=(by unfold B9;rw[ag];simp only[];rw[if_neg];rintro⟨_,q⟩;omega)
 rw[hr]at e
 subst e
 exact hQ _ _ (.s rfl rfl)
 simp only[Av,decide_eq_true_eq,decide_eq_false_iff_not]at ak
 conv=>cbv
 refine .gtr (fun h3=>?_) fun h3=>?_
 conv=>cbv
 generalize af:A7 (⟨version,aa,ab,ac⟩:A0) ae=r4
 have zr4:=Dt af
 refine .dd hP (Js ad (by omega) af) ?_
 conv=>cbv
 have e:r4=B9 b version:=(by unfold B9;rw[ag];simp only[];rw[if_pos ⟨trivial,by omega⟩,if_pos (by omega)];exact af.symm)
 rw[hr]at e
 subst e
 exact hQ _ _ (.s rfl rfl)
 conv=>cbv
 generalize af:A7 (⟨ah,aa,ab,ac⟩:A0) ae=r4
 have zr4:=Dt af
 refine .dd hP (Js ad (by omega) af) ?_
 conv=>cbv
 have e:r4=B9 b version:=(by unfold B9;rw[ag];simp only[];rw[if_pos ⟨trivial,by omega⟩,if_neg (by omega)];exact af.symm)
 rw[hr]at e
 subst e
 exact hQ _ _ (.s rfl rfl)
end
end Go.Proofs.YtjbmpmmffjgedaaGreatDoor.Ab
