/- Contracts of library functions at this program, laid by the kit's shelf in plain words. No conditions. -/
import Derived.Shelf.Strings.Builder1
import Derived.Shelf.Strings.Builder2
import Derived.Shelf.Strings.BuilderF
import Derived.Shelf.Strings.BuilderK
import Derived.Shelf.Strings.Builder2Cap
import Derived.Shelf.Strconv.Atoi
import Derived.Shelf.Strconv.Itoa0
import Derived.Shelf.Strconv.Itoa1
import Derived.Shelf.LaysM
import Derived.Shelf.Strconv.Itoa2
import Derived.Shelf.Strconv.Itoa3
import Derived.Shelf.Strconv.Itoa4
import Derived.Shelf.Strconv.AtoiErrFast
import Derived.Shelf.Strconv.ParseIntEmpty
import Derived.Shelf.Strconv.AtoiFail
import Derived.Shelf.Strconv.Clone
import Derived.Shelf.Strconv.SyntaxError
import Derived.Shelf.LaysC
import Derived.Shelf.Strconv.ToError
import Derived.Shelf.Strconv.Lower
import Derived.Shelf.Strconv.ParseUint10
import Derived.Shelf.Strconv.ParseUint10Empty
import Derived.Shelf.Strconv.ParseUint10Any
import Derived.Shelf.Strconv.ParseInt10
import Derived.Shelf.Strconv.AtoiLong
import Derived.Shelf.Strconv.AtoiInnerAll
import Derived.Shelf.Strconv.RangeError
import Derived.Shelf.Strconv.ToErrorRange
import Derived.Shelf.Strconv.AtoiAll
import Derived.Shelf.Strings.Search1
import Derived.Shelf.Strings.Search2
import Derived.Shelf.Strings.Cut
import Derived.Shelf.Strings.Shaped
import Derived.Shelf.Strings.Prefix
import Derived.Shelf.Bits.Mul64
import Derived.Shelf.Strings.Repeat
import Derived.Shelf.Strings.BuilderCap
import Derived.Shelf.Slices.Equal
import Derived.Ground.Names2Prog
import Derived.Shelf.Slices.Clone
import Derived.Test.YtgdmjbcllgmepaaGreatDoorProg
import Derived.Test.YtgdmjbcllgmepaaGreatDoorRbch09
import Derived.Below
import Derived.ProofKit
import Derived.Test.YtgdmjbcllgmepaaGreatDoorRbZ9
import Derived.Lib.AtoiErrMem
import Derived.Lib.SlicesS
set_option linter.unusedVariables false
set_option linter.unusedSimpArgs false
namespace Go.Proofs.YtgdmjbcllgmepaaGreatDoor.Ab
section
open Go.Proofs
open Go.Shelf
def Tryz.lays172_ren:Go.Shelf.Ren:=⟨fun|172=>305|244=>331|245=>324|247=>354|279=>346|280=>347|281=>348|282=>349|287=>323|316=>362|171=>216|205=>363|321=>344|322=>345|243=>279|246=>314|283=>335|284=>336|285=>337|286=>338|129=>357|317=>356|318=>358|319=>359|320=>360|337=>367|338=>368|n=>n,fun|9=>9|3=>3|75=>221|76=>222|4=>4|5=>5|167=>273|37=>135|0=>0|85=>279|2=>2|168=>275|53=>228|175=>229|46=>196|210=>287|127=>249|145=>294|143=>292|21=>21|171=>262|173=>265|212=>282|51=>260|20=>20|213=>283|232=>295|233=>296|80=>225|n=>n,fun|15=>2|16=>3|17=>1|18=>4|19=>5|n=>n⟩
def Tryz.laysM246_ren:Go.Shelf.Ren:=⟨fun|246=>314|283=>335|284=>336|285=>337|286=>338|129=>357|317=>356|318=>358|319=>359|320=>360|337=>367|338=>368|n=>n,fun|2=>2|3=>3|9=>9|4=>4|171=>262|0=>0|53=>228|37=>135|5=>5|173=>265|212=>282|51=>260|20=>20|213=>283|46=>196|232=>295|233=>296|n=>n,fun|17=>1|18=>4|19=>5|n=>n⟩
def Tryz.laysM243_ren:Go.Shelf.Ren:=⟨fun|243=>279|246=>314|283=>335|284=>336|285=>337|286=>338|129=>357|317=>356|318=>358|319=>359|320=>360|337=>367|338=>368|n=>n,fun|3=>3|9=>9|2=>2|4=>4|171=>262|0=>0|53=>228|37=>135|5=>5|173=>265|212=>282|51=>260|20=>20|213=>283|46=>196|232=>295|233=>296|n=>n,fun|17=>1|18=>4|19=>5|n=>n⟩
def Tryz.laysM171_ren:Go.Shelf.Ren:=⟨fun|171=>216|243=>279|246=>314|283=>335|284=>336|285=>337|286=>338|129=>357|317=>356|318=>358|319=>359|320=>360|337=>367|338=>368|n=>n,fun|3=>3|9=>9|2=>2|4=>4|171=>262|0=>0|53=>228|37=>135|5=>5|173=>265|212=>282|51=>260|20=>20|213=>283|46=>196|232=>295|233=>296|n=>n,fun|17=>1|18=>4|19=>5|n=>n⟩
theorem Tryz.laysM171:Go.Proofs.LaysM.n171 Tryz.prog Tryz.laysM171_ren:={
 mixed:=by kernel_rfl
 f129:=Tryz.func357.trans (congrArg some (by kernel_rfl))
 f171:=Tryz.func216.trans (congrArg some (by kernel_rfl))
 f243:=Tryz.func279.trans (congrArg some (by kernel_rfl))
 f246:=Tryz.func314.trans (congrArg some (by kernel_rfl))
 f283:=Tryz.func335.trans (congrArg some (by kernel_rfl))
 f284:=Tryz.func336.trans (congrArg some (by kernel_rfl))
 f285:=Tryz.func337.trans (congrArg some (by kernel_rfl))
 f286:=Tryz.func338.trans (congrArg some (by kernel_rfl))
 f317:=Tryz.func356.trans (congrArg some (by kernel_rfl))
 f318:=Tryz.func358.trans (congrArg some (by kernel_rfl))
 f319:=Tryz.func359.trans (congrArg some (by kernel_rfl))
 f320:=Tryz.func360.trans (congrArg some (by kernel_rfl))
 f337:=Tryz.func367.trans (congrArg some (by kernel_rfl))
 f338:=Tryz.func368.trans (congrArg some (by kernel_rfl))
 t0:=Tryz.underlying0
 a0:=Tryz.isAgg0
 z0:=Tryz.sizeOf0
 v0:=Tryz.zeroValue0
 t2:=Tryz.underlying2
 a2:=Tryz.isAgg2
 z2:=Tryz.sizeOf2
 v2:=Tryz.zeroValue2
 t3:=Tryz.underlying3
 a3:=Tryz.isAgg3
 z3:=Tryz.sizeOf3
 v3:=Tryz.zeroValue3
 t4:=Tryz.underlying4
 a4:=Tryz.isAgg4
 z4:=Tryz.sizeOf4
 v4:=Tryz.zeroValue4
 t5:=Tryz.underlying5
 a5:=Tryz.isAgg5
 z5:=Tryz.sizeOf5
 v5:=Tryz.zeroValue5
 t9:=Tryz.underlying9
 a9:=Tryz.isAgg9
 z9:=Tryz.sizeOf9
 v9:=Tryz.zeroValue9
 t20:=Tryz.underlying20
 a20:=Tryz.isAgg20
 z20:=Tryz.sizeOf20
 v20:=Tryz.zeroValue20
 t37:=Tryz.underlying135
 a37:=Tryz.isAgg135
 z37:=Tryz.sizeOf135
 v37:=Tryz.zeroValue135
 t46:=Tryz.underlying196
 a46:=Tryz.isAgg196
 z46:=Tryz.sizeOf196
 v46:=Tryz.zeroValue196
 t51:=Tryz.underlying260
 a51:=Tryz.isAgg260
 z51:=Tryz.sizeOf260
 v51:=Tryz.zeroValue260
 t53:=Tryz.underlying228
 a53:=Tryz.isAgg228
 z53:=Tryz.sizeOf228
 v53:=Tryz.zeroValue228
 t171:=Tryz.underlying262
 a171:=Tryz.isAgg262
 z171:=Tryz.sizeOf262
 v171:=Tryz.zeroValue262
 t173:=Tryz.underlying265
 a173:=Tryz.isAgg265
 z173:=Tryz.sizeOf265
 v173:=Tryz.zeroValue265
 t212:=Tryz.underlying282
 a212:=Tryz.isAgg282
 z212:=Tryz.sizeOf282
 v212:=Tryz.zeroValue282
 t213:=Tryz.underlying283
 a213:=Tryz.isAgg283
 z213:=Tryz.sizeOf283
 t232:=Tryz.underlying295
 a232:=Tryz.isAgg295
 z232:=Tryz.sizeOf295
 v232:=Tryz.zeroValue295
 t233:=Tryz.underlying296
 a233:=Tryz.isAgg296
 z233:=Tryz.sizeOf296
 v233:=Tryz.zeroValue296
 g17:=by kernel_rfl
 g18:=by kernel_rfl
 g19:=by kernel_rfl
 i0:=by kernel_rfl
 i2:=by kernel_rfl
 i3:=by kernel_rfl
 i4:=by kernel_rfl
 i5:=by kernel_rfl
 i9:=by kernel_rfl
 i20:=by kernel_rfl
 i37:=by kernel_rfl
 i46:=by kernel_rfl
 i51:=by kernel_rfl
 i53:=by kernel_rfl
 i171:=by kernel_rfl
 i173:=by kernel_rfl
 i212:=by kernel_rfl
 i232:=by kernel_rfl
 i233:=by kernel_rfl
 m17:=by kernel_rfl
 m18:=by kernel_rfl
 m19:=by kernel_rfl}
open Go.RowKit Go.Sort Go.Lib in
theorem Tryz.strconv_Itoa(n:Int)(h0: -9223372036854775808≤n)(h1:n≤9223372036854775807)(w:World)(htab:Lib.TabIs Tryz.prog w "internal/strconv.uint64pow10" .u64 Lib.pow10Tab):
  Calls Tryz.prog 216 #[.int .i64 n] w fun e w'=>e= .returned (.string ⟨(Lib.itoa n).toArray⟩)∧∃k os,w'=grow (w.drewN k) os:=Any.strconv_Itoa Tryz.laysM171 n h0 h1 w htab
def Tryz.laysC245_ren:Go.Shelf.Ren:=⟨fun|245=>324|279=>346|280=>347|281=>348|282=>349|316=>362|171=>216|205=>363|243=>279|246=>314|283=>335|284=>336|285=>337|286=>338|129=>357|317=>356|318=>358|319=>359|320=>360|337=>367|338=>368|n=>n,fun|9=>9|3=>3|75=>221|167=>273|4=>4|168=>275|210=>287|37=>135|0=>0|127=>249|145=>294|143=>292|2=>2|171=>262|53=>228|5=>5|173=>265|212=>282|51=>260|20=>20|213=>283|46=>196|232=>295|233=>296|80=>225|n=>n,fun|15=>2|16=>3|17=>1|18=>4|19=>5|n=>n⟩
theorem Tryz.laysC245:Go.Proofs.LaysC.n245 Tryz.prog Tryz.laysC245_ren:={
 mixed:=by kernel_rfl
 f129:=Tryz.func357.trans (congrArg some (by kernel_rfl))
 f171:=Tryz.func216.trans (congrArg some (by kernel_rfl))
 f205:=Tryz.func363.trans (congrArg some (by kernel_rfl))
 f243:=Tryz.func279.trans (congrArg some (by kernel_rfl))
 f245:=Tryz.func324.trans (congrArg some (by kernel_rfl))
 f246:=Tryz.func314.trans (congrArg some (by kernel_rfl))
 f279:=Tryz.func346.trans (congrArg some (by kernel_rfl))
 f280:=Tryz.func347.trans (congrArg some (by kernel_rfl))
 f281:=Tryz.func348.trans (congrArg some (by kernel_rfl))
 f282:=Tryz.func349.trans (congrArg some (by kernel_rfl))
 f283:=Tryz.func335.trans (congrArg some (by kernel_rfl))
 f284:=Tryz.func336.trans (congrArg some (by kernel_rfl))
 f285:=Tryz.func337.trans (congrArg some (by kernel_rfl))
 f286:=Tryz.func338.trans (congrArg some (by kernel_rfl))
 f316:=Tryz.func362.trans (congrArg some (by kernel_rfl))
 f317:=Tryz.func356.trans (congrArg some (by kernel_rfl))
 f318:=Tryz.func358.trans (congrArg some (by kernel_rfl))
 f319:=Tryz.func359.trans (congrArg some (by kernel_rfl))
 f320:=Tryz.func360.trans (congrArg some (by kernel_rfl))
 f337:=Tryz.func367.trans (congrArg some (by kernel_rfl))
 f338:=Tryz.func368.trans (congrArg some (by kernel_rfl))
 t0:=Tryz.underlying0
 a0:=Tryz.isAgg0
 z0:=Tryz.sizeOf0
 v0:=Tryz.zeroValue0
 t2:=Tryz.underlying2
 a2:=Tryz.isAgg2
 z2:=Tryz.sizeOf2
 v2:=Tryz.zeroValue2
 t3:=Tryz.underlying3
 a3:=Tryz.isAgg3
 z3:=Tryz.sizeOf3
 v3:=Tryz.zeroValue3
 t4:=Tryz.underlying4
 a4:=Tryz.isAgg4
 z4:=Tryz.sizeOf4
 v4:=Tryz.zeroValue4
 t5:=Tryz.underlying5
 a5:=Tryz.isAgg5
 z5:=Tryz.sizeOf5
 v5:=Tryz.zeroValue5
 t9:=Tryz.underlying9
 a9:=Tryz.isAgg9
 z9:=Tryz.sizeOf9
 v9:=Tryz.zeroValue9
 t20:=Tryz.underlying20
 a20:=Tryz.isAgg20
 z20:=Tryz.sizeOf20
 v20:=Tryz.zeroValue20
 t37:=Tryz.underlying135
 a37:=Tryz.isAgg135
 z37:=Tryz.sizeOf135
 v37:=Tryz.zeroValue135
 t46:=Tryz.underlying196
 a46:=Tryz.isAgg196
 z46:=Tryz.sizeOf196
 v46:=Tryz.zeroValue196
 t51:=Tryz.underlying260
 a51:=Tryz.isAgg260
 z51:=Tryz.sizeOf260
 v51:=Tryz.zeroValue260
 t53:=Tryz.underlying228
 a53:=Tryz.isAgg228
 z53:=Tryz.sizeOf228
 v53:=Tryz.zeroValue228
 t75:=Tryz.underlying221
 a75:=Tryz.isAgg221
 z75:=Tryz.sizeOf221
 v75:=Tryz.zeroValue221
 t127:=Tryz.underlying249
 a127:=Tryz.isAgg249
 z127:=Tryz.sizeOf249
 v127:=Tryz.zeroValue249
 t143:=Tryz.underlying292
 a143:=Tryz.isAgg292
 z143:=Tryz.sizeOf292
 v143:=Tryz.zeroValue292
 t145:=Tryz.underlying294
 a145:=Tryz.isAgg294
 z145:=Tryz.sizeOf294
 v145:=Tryz.zeroValue294
 t167:=Tryz.underlying273
 a167:=Tryz.isAgg273
 z167:=Tryz.sizeOf273
 v167:=Tryz.zeroValue273
 t168:=Tryz.underlying275
 a168:=Tryz.isAgg275
 z168:=Tryz.sizeOf275
 v168:=Tryz.zeroValue275
 t171:=Tryz.underlying262
 a171:=Tryz.isAgg262
 z171:=Tryz.sizeOf262
 v171:=Tryz.zeroValue262
 t173:=Tryz.underlying265
 a173:=Tryz.isAgg265
 z173:=Tryz.sizeOf265
 v173:=Tryz.zeroValue265
 t210:=Tryz.underlying287
 a210:=Tryz.isAgg287
 z210:=Tryz.sizeOf287
 v210:=Tryz.zeroValue287
 t212:=Tryz.underlying282
 a212:=Tryz.isAgg282
 z212:=Tryz.sizeOf282
 v212:=Tryz.zeroValue282
 t213:=Tryz.underlying283
 a213:=Tryz.isAgg283
 z213:=Tryz.sizeOf283
 t232:=Tryz.underlying295
 a232:=Tryz.isAgg295
 z232:=Tryz.sizeOf295
 v232:=Tryz.zeroValue295
 t233:=Tryz.underlying296
 a233:=Tryz.isAgg296
 z233:=Tryz.sizeOf296
 v233:=Tryz.zeroValue296
 g15:=by kernel_rfl
 g16:=by kernel_rfl
 g17:=by kernel_rfl
 g18:=by kernel_rfl
 g19:=by kernel_rfl
 t80:=Tryz.underlying225
 a80:=Tryz.isAgg225
 z80:=Tryz.sizeOf225
 v80:=Tryz.zeroValue225
 i0:=by kernel_rfl
 i2:=by kernel_rfl
 i3:=by kernel_rfl
 i4:=by kernel_rfl
 i5:=by kernel_rfl
 i9:=by kernel_rfl
 i20:=by kernel_rfl
 i37:=by kernel_rfl
 i46:=by kernel_rfl
 i51:=by kernel_rfl
 i53:=by kernel_rfl
 i75:=by kernel_rfl
 i80:=by kernel_rfl
 i127:=by kernel_rfl
 i143:=by kernel_rfl
 i145:=by kernel_rfl
 i167:=by kernel_rfl
 i168:=by kernel_rfl
 i171:=by kernel_rfl
 i173:=by kernel_rfl
 i210:=by kernel_rfl
 i212:=by kernel_rfl
 i232:=by kernel_rfl
 i233:=by kernel_rfl
 m15:=by kernel_rfl
 m16:=by kernel_rfl
 m17:=by kernel_rfl
 m18:=by kernel_rfl
 m19:=by kernel_rfl
 c0:=by kernel_rfl
 c2:=by kernel_rfl
 c3:=by kernel_rfl
 c4:=by kernel_rfl
 c5:=by kernel_rfl
 c9:=by kernel_rfl
 c20:=by kernel_rfl
 c37:=by kernel_rfl
 c46:=by kernel_rfl
 c51:=by kernel_rfl
 c53:=by kernel_rfl
 c75:=by kernel_rfl
 c80:=by kernel_rfl
 c127:=by kernel_rfl
 c143:=by kernel_rfl
 c145:=by kernel_rfl
 c167:=by kernel_rfl
 c168:=by kernel_rfl
 c171:=by kernel_rfl
 c173:=by kernel_rfl
 c210:=by kernel_rfl
 c212:=by kernel_rfl
 c213:=by kernel_rfl
 c232:=by kernel_rfl
 c233:=by kernel_rfl}
open Go.RowKit in
theorem Tryz.strconv_toError_syntax(fn s:ByteArray)(base bits:Int)(ev:Value)(w:World)(hlim:s.size≤281474976710656)(hv:w.cell? ⟨2,0,none⟩=some ev)(hev:ev= .nilIface∨∃te pe,ev= .iface te pe):
  Calls Tryz.prog 324 #[.string fn,.string s,.int .i64 base,.int .i64 bits,.iface 273 (.int .i64 2)] w fun e w'=>∃N,e= .returned (.iface 275 (.pointer (some ⟨N,0,none⟩)))∧w.heap.size≤N∧w'.heap[N]? =some (.cells #[.string fn,.string s,ev] 287 (0,0))∧Below w.heap.size w w':=Any.strconv_toError_syntax Tryz.laysC245 fn s base bits ev w hlim hv hev
def Tryz.lays287_ren:Go.Shelf.Ren:=⟨fun|287=>323|321=>344|322=>345|n=>n,fun|9=>9|3=>3|53=>228|75=>221|4=>4|167=>273|5=>5|46=>196|37=>135|0=>0|21=>21|80=>225|n=>n,fun|n=>n⟩
theorem Tryz.lays287:Go.Proofs.Lays.n287 Tryz.prog Tryz.lays287_ren:={
 mixed:=by kernel_rfl
 f287:=Tryz.func323.trans (congrArg some (by kernel_rfl))
 f321:=Tryz.func344.trans (congrArg some (by kernel_rfl))
 f322:=Tryz.func345.trans (congrArg some (by kernel_rfl))
 t0:=Tryz.underlying0
 a0:=Tryz.isAgg0
 z0:=Tryz.sizeOf0
 v0:=Tryz.zeroValue0
 t3:=Tryz.underlying3
 a3:=Tryz.isAgg3
 z3:=Tryz.sizeOf3
 v3:=Tryz.zeroValue3
 t4:=Tryz.underlying4
 a4:=Tryz.isAgg4
 z4:=Tryz.sizeOf4
 v4:=Tryz.zeroValue4
 t5:=Tryz.underlying5
 a5:=Tryz.isAgg5
 z5:=Tryz.sizeOf5
 v5:=Tryz.zeroValue5
 t9:=Tryz.underlying9
 a9:=Tryz.isAgg9
 z9:=Tryz.sizeOf9
 v9:=Tryz.zeroValue9
 t21:=Tryz.underlying21
 a21:=Tryz.isAgg21
 z21:=Tryz.sizeOf21
 v21:=Tryz.zeroValue21
 t37:=Tryz.underlying135
 a37:=Tryz.isAgg135
 z37:=Tryz.sizeOf135
 v37:=Tryz.zeroValue135
 t46:=Tryz.underlying196
 a46:=Tryz.isAgg196
 z46:=Tryz.sizeOf196
 v46:=Tryz.zeroValue196
 t53:=Tryz.underlying228
 a53:=Tryz.isAgg228
 z53:=Tryz.sizeOf228
 v53:=Tryz.zeroValue228
 t75:=Tryz.underlying221
 a75:=Tryz.isAgg221
 z75:=Tryz.sizeOf221
 v75:=Tryz.zeroValue221
 t167:=Tryz.underlying273
 a167:=Tryz.isAgg273
 z167:=Tryz.sizeOf273
 v167:=Tryz.zeroValue273}
def Tryz.laysC172_ren:Go.Shelf.Ren:=⟨fun|172=>305|244=>331|245=>324|247=>354|279=>346|280=>347|281=>348|282=>349|287=>323|316=>362|171=>216|205=>363|321=>344|322=>345|243=>279|246=>314|283=>335|284=>336|285=>337|286=>338|129=>357|317=>356|318=>358|319=>359|320=>360|337=>367|338=>368|n=>n,fun|9=>9|3=>3|75=>221|76=>222|4=>4|5=>5|167=>273|37=>135|0=>0|85=>279|2=>2|168=>275|53=>228|175=>229|46=>196|210=>287|127=>249|145=>294|143=>292|21=>21|171=>262|173=>265|212=>282|51=>260|20=>20|213=>283|232=>295|233=>296|80=>225|n=>n,fun|15=>2|16=>3|17=>1|18=>4|19=>5|n=>n⟩
theorem Tryz.laysC172:Go.Proofs.LaysC.n172 Tryz.prog Tryz.laysC172_ren:={
 mixed:=by kernel_rfl
 f129:=Tryz.func357.trans (congrArg some (by kernel_rfl))
 f171:=Tryz.func216.trans (congrArg some (by kernel_rfl))
 f172:=Tryz.func305.trans (congrArg some (by kernel_rfl))
 f205:=Tryz.func363.trans (congrArg some (by kernel_rfl))
 f243:=Tryz.func279.trans (congrArg some (by kernel_rfl))
 f244:=Tryz.func331.trans (congrArg some (by kernel_rfl))
 f245:=Tryz.func324.trans (congrArg some (by kernel_rfl))
 f246:=Tryz.func314.trans (congrArg some (by kernel_rfl))
 f247:=Tryz.func354.trans (congrArg some (by kernel_rfl))
 f279:=Tryz.func346.trans (congrArg some (by kernel_rfl))
 f280:=Tryz.func347.trans (congrArg some (by kernel_rfl))
 f281:=Tryz.func348.trans (congrArg some (by kernel_rfl))
 f282:=Tryz.func349.trans (congrArg some (by kernel_rfl))
 f283:=Tryz.func335.trans (congrArg some (by kernel_rfl))
 f284:=Tryz.func336.trans (congrArg some (by kernel_rfl))
 f285:=Tryz.func337.trans (congrArg some (by kernel_rfl))
 f286:=Tryz.func338.trans (congrArg some (by kernel_rfl))
 f287:=Tryz.func323.trans (congrArg some (by kernel_rfl))
 f316:=Tryz.func362.trans (congrArg some (by kernel_rfl))
 f317:=Tryz.func356.trans (congrArg some (by kernel_rfl))
 f318:=Tryz.func358.trans (congrArg some (by kernel_rfl))
 f319:=Tryz.func359.trans (congrArg some (by kernel_rfl))
 f320:=Tryz.func360.trans (congrArg some (by kernel_rfl))
 f321:=Tryz.func344.trans (congrArg some (by kernel_rfl))
 f322:=Tryz.func345.trans (congrArg some (by kernel_rfl))
 f337:=Tryz.func367.trans (congrArg some (by kernel_rfl))
 f338:=Tryz.func368.trans (congrArg some (by kernel_rfl))
 t0:=Tryz.underlying0
 a0:=Tryz.isAgg0
 z0:=Tryz.sizeOf0
 v0:=Tryz.zeroValue0
 t2:=Tryz.underlying2
 a2:=Tryz.isAgg2
 z2:=Tryz.sizeOf2
 v2:=Tryz.zeroValue2
 t3:=Tryz.underlying3
 a3:=Tryz.isAgg3
 z3:=Tryz.sizeOf3
 v3:=Tryz.zeroValue3
 t4:=Tryz.underlying4
 a4:=Tryz.isAgg4
 z4:=Tryz.sizeOf4
 v4:=Tryz.zeroValue4
 t5:=Tryz.underlying5
 a5:=Tryz.isAgg5
 z5:=Tryz.sizeOf5
 v5:=Tryz.zeroValue5
 t9:=Tryz.underlying9
 a9:=Tryz.isAgg9
 z9:=Tryz.sizeOf9
 v9:=Tryz.zeroValue9
 t20:=Tryz.underlying20
 a20:=Tryz.isAgg20
 z20:=Tryz.sizeOf20
 v20:=Tryz.zeroValue20
 t21:=Tryz.underlying21
 a21:=Tryz.isAgg21
 z21:=Tryz.sizeOf21
 v21:=Tryz.zeroValue21
 t37:=Tryz.underlying135
 a37:=Tryz.isAgg135
 z37:=Tryz.sizeOf135
 v37:=Tryz.zeroValue135
 t46:=Tryz.underlying196
 a46:=Tryz.isAgg196
 z46:=Tryz.sizeOf196
 v46:=Tryz.zeroValue196
 t51:=Tryz.underlying260
 a51:=Tryz.isAgg260
 z51:=Tryz.sizeOf260
 v51:=Tryz.zeroValue260
 t53:=Tryz.underlying228
 a53:=Tryz.isAgg228
 z53:=Tryz.sizeOf228
 v53:=Tryz.zeroValue228
 t75:=Tryz.underlying221
 a75:=Tryz.isAgg221
 z75:=Tryz.sizeOf221
 v75:=Tryz.zeroValue221
 t76:=Tryz.underlying222
 a76:=Tryz.isAgg222
 z76:=Tryz.sizeOf222
 v76:=Tryz.zeroValue222
 t85:=Tryz.underlying279
 a85:=Tryz.isAgg279
 z85:=Tryz.sizeOf279
 v85:=Tryz.zeroValue279
 t127:=Tryz.underlying249
 a127:=Tryz.isAgg249
 z127:=Tryz.sizeOf249
 v127:=Tryz.zeroValue249
 t143:=Tryz.underlying292
 a143:=Tryz.isAgg292
 z143:=Tryz.sizeOf292
 v143:=Tryz.zeroValue292
 t145:=Tryz.underlying294
 a145:=Tryz.isAgg294
 z145:=Tryz.sizeOf294
 v145:=Tryz.zeroValue294
 t167:=Tryz.underlying273
 a167:=Tryz.isAgg273
 z167:=Tryz.sizeOf273
 v167:=Tryz.zeroValue273
 t168:=Tryz.underlying275
 a168:=Tryz.isAgg275
 z168:=Tryz.sizeOf275
 v168:=Tryz.zeroValue275
 t171:=Tryz.underlying262
 a171:=Tryz.isAgg262
 z171:=Tryz.sizeOf262
 v171:=Tryz.zeroValue262
 t173:=Tryz.underlying265
 a173:=Tryz.isAgg265
 z173:=Tryz.sizeOf265
 v173:=Tryz.zeroValue265
 t175:=Tryz.underlying229
 a175:=Tryz.isAgg229
 z175:=Tryz.sizeOf229
 v175:=Tryz.zeroValue229
 t210:=Tryz.underlying287
 a210:=Tryz.isAgg287
 z210:=Tryz.sizeOf287
 v210:=Tryz.zeroValue287
 t212:=Tryz.underlying282
 a212:=Tryz.isAgg282
 z212:=Tryz.sizeOf282
 v212:=Tryz.zeroValue282
 t213:=Tryz.underlying283
 a213:=Tryz.isAgg283
 z213:=Tryz.sizeOf283
 t232:=Tryz.underlying295
 a232:=Tryz.isAgg295
 z232:=Tryz.sizeOf295
 v232:=Tryz.zeroValue295
 t233:=Tryz.underlying296
 a233:=Tryz.isAgg296
 z233:=Tryz.sizeOf296
 v233:=Tryz.zeroValue296
 g15:=by kernel_rfl
 g16:=by kernel_rfl
 g17:=by kernel_rfl
 g18:=by kernel_rfl
 g19:=by kernel_rfl
 t80:=Tryz.underlying225
 a80:=Tryz.isAgg225
 z80:=Tryz.sizeOf225
 v80:=Tryz.zeroValue225
 i0:=by kernel_rfl
 i2:=by kernel_rfl
 i3:=by kernel_rfl
 i4:=by kernel_rfl
 i5:=by kernel_rfl
 i9:=by kernel_rfl
 i20:=by kernel_rfl
 i21:=by kernel_rfl
 i37:=by kernel_rfl
 i46:=by kernel_rfl
 i51:=by kernel_rfl
 i53:=by kernel_rfl
 i75:=by kernel_rfl
 i76:=by kernel_rfl
 i80:=by kernel_rfl
 i85:=by kernel_rfl
 i127:=by kernel_rfl
 i143:=by kernel_rfl
 i145:=by kernel_rfl
 i167:=by kernel_rfl
 i168:=by kernel_rfl
 i171:=by kernel_rfl
 i173:=by kernel_rfl
 i175:=by kernel_rfl
 i210:=by kernel_rfl
 i212:=by kernel_rfl
 i232:=by kernel_rfl
 i233:=by kernel_rfl
 m15:=by kernel_rfl
 m16:=by kernel_rfl
 m17:=by kernel_rfl
 m18:=by kernel_rfl
 m19:=by kernel_rfl
 c0:=by kernel_rfl
 c2:=by kernel_rfl
 c3:=by kernel_rfl
 c4:=by kernel_rfl
 c5:=by kernel_rfl
 c9:=by kernel_rfl
 c20:=by kernel_rfl
 c21:=by kernel_rfl
 c37:=by kernel_rfl
 c46:=by kernel_rfl
 c51:=by kernel_rfl
 c53:=by kernel_rfl
 c75:=by kernel_rfl
 c76:=by kernel_rfl
 c80:=by kernel_rfl
 c85:=by kernel_rfl
 c127:=by kernel_rfl
 c143:=by kernel_rfl
 c145:=by kernel_rfl
 c167:=by kernel_rfl
 c168:=by kernel_rfl
 c171:=by kernel_rfl
 c173:=by kernel_rfl
 c175:=by kernel_rfl
 c210:=by kernel_rfl
 c212:=by kernel_rfl
 c213:=by kernel_rfl
 c232:=by kernel_rfl
 c233:=by kernel_rfl}
open Go.RowKit in
theorem Tryz.strconv_Atoi_ok(s:ByteArray)(hmax:s.size≤9223372036854775806)(v:Int)(h:Lib.atoiAll s.data.toList= .ok v)(w:World):
  Calls Tryz.prog 305 #[.string s] w fun e w'=>e= .returned (.tuple #[.int .i64 v,.nilIface])∧(w'=w∨∃t,w'=Lib.bytesWorld w 5 t):=Any.strconv_Atoi_ok Tryz.laysC172 s hmax v h w
open Go.RowKit in
theorem Tryz.strconv_Atoi_syntax(s:ByteArray)(hlim:s.size≤281474976710656)(h:Lib.atoiAll s.data.toList=(Lib.atoiAll []))(ev:Value)(w:World)(hv:w.cell? ⟨2,0,none⟩=some ev)(hev:ev= .nilIface∨∃te pe,ev= .iface te pe):
  Calls Tryz.prog 305 #[.string s] w fun e w'=>∃N,e= .returned (.tuple #[.int .i64 (0),.iface 275 (.pointer (some ⟨N,0,none⟩))])∧w.heap.size≤N∧w'.heap[N]? =some (.cells #[.string ⟨#[65,116,111,105]⟩,.string s,ev] 287 (0,0))∧Below w.heap.size w w':=Any.strconv_Atoi_syntax Tryz.laysC172 s hlim h ev w hv hev
open Go.RowKit in
theorem Tryz.strconv_Atoi_range(s:ByteArray)(hlim:s.size≤281474976710656)(h:Lib.atoiAll s.data.toList= .range)(ev:Value)(w:World)(hv:w.cell? ⟨3,0,none⟩=some ev)(hev:ev= .nilIface∨∃te pe,ev= .iface te pe):
  Calls Tryz.prog 305 #[.string s] w fun e w'=>∃N,e= .returned (.tuple #[.int .i64 (Lib.atoiSat s.data.toList),.iface 275 (.pointer (some ⟨N,0,none⟩))])∧w.heap.size≤N∧w'.heap[N]? =some (.cells #[.string ⟨#[65,116,111,105]⟩,.string s,ev] 287 (0,0))∧Below w.heap.size w w':=Any.strconv_Atoi_range Tryz.laysC172 s hlim h ev w hv hev
def Tryz.lays219_ren:Go.Shelf.Ren:=⟨fun|219=>330|217=>350|225=>351|224=>352|267=>353|266=>364|314=>365|n=>n,fun|9=>9|3=>3|4=>4|5=>5|46=>196|146=>267|51=>260|n=>n,fun|1=>0|n=>n⟩
theorem Tryz.lays219:Go.Proofs.Lays.n219 Tryz.prog Tryz.lays219_ren:={
 mixed:=by kernel_rfl
 f217:=Tryz.func350.trans (congrArg some (by kernel_rfl))
 f219:=Tryz.func330.trans (congrArg some (by kernel_rfl))
 f224:=Tryz.func352.trans (congrArg some (by kernel_rfl))
 f225:=Tryz.func351.trans (congrArg some (by kernel_rfl))
 f266:=Tryz.func364.trans (congrArg some (by kernel_rfl))
 f267:=Tryz.func353.trans (congrArg some (by kernel_rfl))
 f314:=Tryz.func365.trans (congrArg some (by kernel_rfl))
 t3:=Tryz.underlying3
 a3:=Tryz.isAgg3
 z3:=Tryz.sizeOf3
 v3:=Tryz.zeroValue3
 t4:=Tryz.underlying4
 a4:=Tryz.isAgg4
 z4:=Tryz.sizeOf4
 v4:=Tryz.zeroValue4
 t5:=Tryz.underlying5
 a5:=Tryz.isAgg5
 z5:=Tryz.sizeOf5
 v5:=Tryz.zeroValue5
 t9:=Tryz.underlying9
 a9:=Tryz.isAgg9
 z9:=Tryz.sizeOf9
 v9:=Tryz.zeroValue9
 t46:=Tryz.underlying196
 a46:=Tryz.isAgg196
 z46:=Tryz.sizeOf196
 v46:=Tryz.zeroValue196
 t51:=Tryz.underlying260
 a51:=Tryz.isAgg260
 z51:=Tryz.sizeOf260
 v51:=Tryz.zeroValue260
 t146:=Tryz.underlying267
 a146:=Tryz.isAgg267
 z146:=Tryz.sizeOf267
 v146:=Tryz.zeroValue267
 g1:=by kernel_rfl}
open Go.RowKit Go.Lib in
theorem Tryz.stringslite_Index_one(s:ByteArray)(c:UInt8)(w:World):
  Calls Tryz.prog 330 #[.string s,.string ⟨#[c]⟩] w fun e w'=>e= .returned (.int .i64 (Lib.indexByte s.data.toList c))∧w'=w:=Any.stringslite_Index_one Tryz.lays219 s c w
def Tryz.lays105_ren:Go.Shelf.Ren:=⟨fun|105=>267|212=>315|99=>316|165=>317|166=>271|170=>272|169=>273|263=>339|264=>340|206=>341|240=>319|241=>342|276=>343|277=>361|n=>n,fun|9=>9|3=>3|4=>4|20=>20|0=>0|46=>196|109=>244|5=>5|72=>219|76=>222|51=>260|146=>267|53=>228|148=>269|70=>217|37=>135|75=>221|127=>249|164=>271|80=>225|n=>n,fun|n=>n⟩
theorem Tryz.lays105:Go.Proofs.Lays.n105 Tryz.prog Tryz.lays105_ren:={
 mixed:=by kernel_rfl
 f99:=Tryz.func316.trans (congrArg some (by kernel_rfl))
 f105:=Tryz.func267.trans (congrArg some (by kernel_rfl))
 f165:=Tryz.func317.trans (congrArg some (by kernel_rfl))
 f166:=Tryz.func271.trans (congrArg some (by kernel_rfl))
 f169:=Tryz.func273.trans (congrArg some (by kernel_rfl))
 f170:=Tryz.func272.trans (congrArg some (by kernel_rfl))
 f206:=Tryz.func341.trans (congrArg some (by kernel_rfl))
 f212:=Tryz.func315.trans (congrArg some (by kernel_rfl))
 f240:=Tryz.func319.trans (congrArg some (by kernel_rfl))
 f241:=Tryz.func342.trans (congrArg some (by kernel_rfl))
 f263:=Tryz.func339.trans (congrArg some (by kernel_rfl))
 f264:=Tryz.func340.trans (congrArg some (by kernel_rfl))
 f276:=Tryz.func343.trans (congrArg some (by kernel_rfl))
 f277:=Tryz.func361.trans (congrArg some (by kernel_rfl))
 t0:=Tryz.underlying0
 a0:=Tryz.isAgg0
 z0:=Tryz.sizeOf0
 v0:=Tryz.zeroValue0
 t3:=Tryz.underlying3
 a3:=Tryz.isAgg3
 z3:=Tryz.sizeOf3
 v3:=Tryz.zeroValue3
 t4:=Tryz.underlying4
 a4:=Tryz.isAgg4
 z4:=Tryz.sizeOf4
 v4:=Tryz.zeroValue4
 t5:=Tryz.underlying5
 a5:=Tryz.isAgg5
 z5:=Tryz.sizeOf5
 v5:=Tryz.zeroValue5
 t9:=Tryz.underlying9
 a9:=Tryz.isAgg9
 z9:=Tryz.sizeOf9
 v9:=Tryz.zeroValue9
 t20:=Tryz.underlying20
 a20:=Tryz.isAgg20
 z20:=Tryz.sizeOf20
 v20:=Tryz.zeroValue20
 t37:=Tryz.underlying135
 a37:=Tryz.isAgg135
 z37:=Tryz.sizeOf135
 v37:=Tryz.zeroValue135
 t46:=Tryz.underlying196
 a46:=Tryz.isAgg196
 z46:=Tryz.sizeOf196
 v46:=Tryz.zeroValue196
 t51:=Tryz.underlying260
 a51:=Tryz.isAgg260
 z51:=Tryz.sizeOf260
 v51:=Tryz.zeroValue260
 t53:=Tryz.underlying228
 a53:=Tryz.isAgg228
 z53:=Tryz.sizeOf228
 v53:=Tryz.zeroValue228
 t70:=Tryz.underlying217
 a70:=Tryz.isAgg217
 z70:=Tryz.sizeOf217
 v70:=Tryz.zeroValue217
 t72:=Tryz.underlying219
 a72:=Tryz.isAgg219
 z72:=Tryz.sizeOf219
 v72:=Tryz.zeroValue219
 t75:=Tryz.underlying221
 a75:=Tryz.isAgg221
 z75:=Tryz.sizeOf221
 v75:=Tryz.zeroValue221
 t76:=Tryz.underlying222
 a76:=Tryz.isAgg222
 z76:=Tryz.sizeOf222
 v76:=Tryz.zeroValue222
 t109:=Tryz.underlying244
 a109:=Tryz.isAgg244
 z109:=Tryz.sizeOf244
 v109:=Tryz.zeroValue244
 t127:=Tryz.underlying249
 a127:=Tryz.isAgg249
 z127:=Tryz.sizeOf249
 v127:=Tryz.zeroValue249
 t146:=Tryz.underlying267
 a146:=Tryz.isAgg267
 z146:=Tryz.sizeOf267
 v146:=Tryz.zeroValue267
 t148:=Tryz.underlying269
 a148:=Tryz.isAgg269
 z148:=Tryz.sizeOf269
 v148:=Tryz.zeroValue269
 t164:=Tryz.underlying271
 a164:=Tryz.isAgg271
 z164:=Tryz.sizeOf271
 v164:=Tryz.zeroValue271}
theorem Tryz.Builder_Extra_105:Builder.Extra Tryz.prog Tryz.lays105_ren:={
 sizeBuilder:=by kernel_rfl
 liesBuilder:=by kernel_rfl
 t5:=Tryz.underlying5
 a5:=Tryz.isAgg5
 z5:=Tryz.sizeOf5
 v5:=Tryz.zeroValue5
 infoByte:=by kernel_rfl
 cellsByte:=by kernel_rfl
 sizeByte:=by kernel_rfl
 neB5:=by decide}
open Go.RowKit Go.Lib in
theorem Tryz.strings_Repeat(s:ByteArray)(c:Nat)(w:World)(hc:c≤9223372036854775807)(hlen:s.size*c≤140737488355328):
  Calls Tryz.prog 267 #[.string s,.int .i64 c] w fun e w'=>e= .returned (.string ⟨(Lib.repeatL s.data.toList c).toArray⟩)∧Below w.heap.size w w':=Any.strings_Repeat Tryz.lays105 Tryz.Builder_Extra_105 s c w hc hlen
end
section
open Go Go.Proofs
set_option maxRecDepth 20000
set_option maxHeartbeats 4000000
def Xfs:List (Nat×TyRow):=[ty2,ty3,ty4,ty5,ty9,XgG,XlT,Xmd]
theorem Xdm:B9 Tryz.prog Xfs:=B9.of (by kernel_rfl)
theorem Ol:Setup Tryz.prog Xfs:=⟨Xdm,mixed⟩
def dig(n:Nat):UInt8:=if n% 16<10 then UInt8.ofNat (48+n% 16)else UInt8.ofNat (87+n% 16)
def Xao:Nat→Nat→List UInt8
 |0,_=>[]
 |k+1,n=>Xao k (n/16)++[dig n]
def Xc7(n:Nat):List UInt8:=if h:n<16 then[dig n]else Xc7 (n/16)++[dig n]
termination_by n
decreasing_by omega
theorem Sj{n:Nat}(h:n<16):Xc7 n=[dig n]:=by rw[Xc7,dif_pos h]
theorem Xa4{n:Nat}(h:¬n<16):Xc7 n=Xc7 (n/16)++[dig n]:=by rw[Xc7,dif_neg h]
theorem XjT:dig 0=48:=rfl
theorem XbO:∀(k:Nat),Xao k 0=List.replicate k 48
 |0=>rfl
 |k+1=>by rw[Xao,Nat.zero_div,XbO k,XjT,List.replicate_succ']
theorem Rh:∀(k n:Nat),(Xao k n).length=k
 |0,_=>rfl
 |k+1,n=>by rw[Xao,List.length_append,Rh];rfl
theorem Xks:∀(k n:Nat),n<16^ (k+1)→Xao (k+1) n=List.replicate (k+1 - (Xc7 n).length) 48++Xc7 n∧1≤(Xc7 n).length∧(Xc7 n).length≤k+1
 |0,n,h=>by
  have h:n<16:=by simpa using h
  rw[Sj h]
  simp[Xao]
 |k+1,n,h=>by
  by_cases hn:n<16
  ·rw[Sj hn,Xao,Nat.div_eq_of_lt hn,XbO]
   simp
  ·have h2:n/16<16^ (k+1):=by rw[Nat.pow_succ]at h;omega
   obtain⟨i1,i2,i3⟩:=Xks k (n/16) h2
   rw[Xa4 hn,Xao,i1,List.length_append,List.length_singleton,List.append_assoc]
   refine⟨?_,by omega,by omega⟩
   congr 2
   omega
def As(n:Int):ByteArray:=if 0≤n∧n≤1000000000 then tx (115::(Xao 8 n.toNat++[46,115,101,103]))else tx []
theorem Hf{n:Int}{o:ByteArray}(e:As n=o):o.size≤13:=by
 rw[←e]
 unfold As
 split
 ·rw[Bz,List.length_cons,List.length_append,Rh];simp
 ·simp[Bz]
theorem digL:∀(j:Nat) (h:j<(⟨⟨[48,49,50,51,52,53,54,55,56,57,97,98,99,100,101,102]⟩⟩:ByteArray).size),(⟨⟨[48,49,50,51,52,53,54,55,56,57,97,98,99,100,101,102]⟩⟩:ByteArray)[j]=dig j:=by
 have key:∀j:Fin 16,(⟨⟨[48,49,50,51,52,53,54,55,56,57,97,98,99,100,101,102]⟩⟩:ByteArray)[j.val]'j.isLt=dig j.val:=by decide
 intro j h
 exact key ⟨j,h⟩
theorem Xef(n:Nat):dig (n% 16)=dig n:=by unfold dig;rw[Nat.mod_mod]
theorem and15(a:Int):Sa .and .i64 a 15=a% 16:=I5 (k:=4) (by omega)
theorem XmE{x:Nat}(h:x<18446744073709551616):Sa .and .u64 (x:Int) 15=((x% 16:Nat):Int):=by
 show IntKind.u64.wrap ((BitVec.ofInt 64 (x:Int)&&&BitVec.ofInt 64 ((15:Nat):Int)).toNat:Int)=_
 rw[BitVec.toNat_and,Ld (by omega),Ld (by omega),Gs,show(15:Nat)=2^4 - 1 from rfl,Nat.and_two_pow_sub_one_eq_mod]
 omega
theorem digF:∀(j:Nat) (hj:j<16) (h:j<(⟨⟨[48,49,50,51,52,53,54,55,56,57,97,98,99,100,101,102,103,104,105,106,107,108,109,110,111,112,113,114,115,116,117,118,119,120,121,122]⟩⟩:ByteArray).size),(⟨⟨[48,49,50,51,52,53,54,55,56,57,97,98,99,100,101,102,103,104,105,106,107,108,109,110,111,112,113,114,115,116,117,118,119,120,121,122]⟩⟩:ByteArray)[j]=dig j:=by
 have key:∀j:Fin 16,(⟨⟨[48,49,50,51,52,53,54,55,56,57,97,98,99,100,101,102,103,104,105,106,107,108,109,110,111,112,113,114,115,116,117,118,119,120,121,122]⟩⟩:ByteArray)[j.val]'(Nat.lt_of_lt_of_le j.isLt (by decide))=dig j.val:=by decide
 intro j hj h
 exact key ⟨j,hj⟩
theorem Xir{v:Int}{n:Nat}(h:v=((dig n).toNat:Int)):[D.sc (.int .u8 v)]=cB (dig n):=by rw[h];rfl
theorem XeT{α:Type}{l:List α}{p:Nat}{x:α}(h:p<l.length):(l.set p x).drop p=x::l.drop (p+1):=by
 rw[List.drop_eq_getElem_cons (by rw[List.length_set];exact h),List.getElem_set_self]
 congr 1
 rw[List.drop_set_of_lt (by omega)]
def Jr:Bool:=true
def P0(_:Int):Int:=4
def My(u:Int):List UInt8×ByteArray:=([],tx (Xc7 u.toNat))
def Hr(n:Int):ByteArray:=tx (Xc7 n.toNat)
def Vg(n:Int):ByteArray:=tx (List.replicate n.toNat 48)
theorem tz64{w:World}(h:Lib.TabIs Tryz.prog w "math/bits.deBruijn64tab" .u8 Ti):Calls Tryz.prog 368 #[.int .u64 16] w fun e w'=>e= .returned (.int .i64 4)∧w'=w:=by
 have hq:IntKind.u64.wrap (bits BinOp.and IntKind.u64 16 (IntKind.u64.wrap (-16))*285870213051353865)/288230376151711744=15:=by decide+kernel
 have hc:w.cell? ⟨5,15,none⟩=some (.int .u8 4):=h.cell gn5 15 (by decide)
 go_enter Tryz.func368,Tryz.ntmps368
 go_wp2
 go_ret
 exact⟨rfl,rfl⟩
theorem tz{w:World}(h:Lib.TabIs Tryz.prog w "math/bits.deBruijn64tab" .u8 Ti):Calls Tryz.prog 360 #[.int .u64 16] w fun e w'=>e= .returned (.int .i64 4)∧w'=w:=by
 go_enter Tryz.func360,Tryz.ntmps360
 go_wp2_with (first
  |(go_at_call 368;refine(tz64 h).mono ?_;rintro e w' ⟨rfl,rfl⟩)
  |go_in)
 go_ret
 exact⟨rfl,rfl⟩
variable {o:ByteArray} {n:Int}
theorem Ls{x o:Int}(hx:x=16)(hr:P0 x=o):Fn Tryz.prog 360 [.d (.sc (.int .u64 x))] [] ⟨I o,[],[]⟩:=by
 refine⟨Et Tryz.func360 rfl rfl,CallOk.ofCallsG fun E vs hS hG hA=>?_⟩
 obtain⟨u,rfl,h1⟩:=XjI hA
 rw[Pt h1,hx]
 refine(tz (Xlx hG)).mono ?_
 rintro e w' ⟨rfl,rfl⟩
 exact⟨_,rfl,⟨rfl,rfl,rfl,Nat.le_refl _,fun _ _=>rfl⟩,by rw[←hr];exact .sc _ rfl⟩
theorem H1(hr:As n=o):Fn Tryz.prog 157 [I n] [] ⟨S o,[],[]⟩:=by
 refine Fn.go Ol Tryz.func157 fun P hP Q hQ=>?_
 conv=>cbv
 generalize ac:Bh n 0 1000000000=r1
 refine .dd hP (Do ac) ?_
 cases r1
 simp only[Bh,decide_eq_true_eq,decide_eq_false_iff_not]at ac
 conv=>cbv
 have e:(tx [])=As n:=(by unfold As;rw[if_neg (by omega)])
 rw[hr]at e
 subst e
 exact hQ _ _ (.s rfl rfl)
 simp only[Bh,decide_eq_true_eq,decide_eq_false_iff_not]at ac
 conv=>cbv
 refine LoopW.lp (κ:=Int×(List (List D))×Nat) Ol hP [0] [0] (fun(i4,aa,ab)=>[(3,.ref 1 0 ab),(4,I i4)]) (fun(i4,aa,ab)=>[(1,.row 1 false aa)])
  (fun(i4,aa,ab)=>∃(w1:List UInt8),w1.map cB=aa∧ab=w1.length∧-1≤i4∧i4≤7∧w1=Xao (7 - i4).toNat (n.toNat/16^ (i4+1).toNat))
  (fun(i4,aa,ab)=>(i4+1).toNat) (7,[],0) ⟨[],rfl,rfl,by omega,by omega,rfl⟩ ⟨rfl,rfl,trivial⟩ rfl ?_
 rintro⟨i4,aa,ab⟩ J ⟨w1,ad,an,h0,h1,hw⟩ hJ
 have hwl:w1.length=(7 - i4).toNat:=by rw[hw,Rh]
 have hsz:(⟨⟨[48,49,50,51,52,53,54,55,56,57,97,98,99,100,101,102]⟩⟩:ByteArray).size=16:=rfl
 conv=>cbv
 refine .geq (fun h2=>?_) fun h2=>?_
 conv=>cbv
 refine .mul fun v3 ap=>?_
 conv=>cbv
 refine .go fun v4 af=>?_
 conv=>cbv
 have e4:v4=v3:=by rw[af,Gs];omega
 refine .shr fun v5 ag=>?_
 conv=>cbv
 refine .and fun v6 ah=>?_
 conv=>cbv
 have e5:v5=((n.toNat/16^i4.toNat:Nat):Int):=by
  have e2:(2:Int)^v4.toNat=((16^i4.toNat:Nat):Int):=by
   rw[show v4.toNat=4*i4.toNat by omega,Int.pow_mul,Int.natCast_pow]
   rfl
  rw[ag,e2,Int.natCast_ediv,Int.toNat_of_nonneg (by omega)]
 have e6:v6=((n.toNat/16^i4.toNat% 16:Nat):Int):=by rw[ah,and15,e5];omega
 have aq:n.toNat/16^i4.toNat% 16<16:=Nat.mod_lt _ (by omega)
 refine .go v6.toNat fun hjv7 v7 ai bv7=>?_
 conv=>cbv
 have e7:[D.sc (.int .u8 v7)]=cB (dig (n.toNat/16^i4.toNat)):=Xir (by rw[ai,digL,e6,Int.toNat_natCast,Xef])
 refine .one (dig (n.toNat/16^i4.toNat)) ad e7 fun aj z8 ao ak=>?_
 conv=>cbv
 refine .sub fun v9 ar=>?_
 conv=>cbv
 exact .go [3] (v9,z8,aj) (hJ _ ⟨_,ak,Hg,by omega,by omega,by rw[hw,show(7 - v9).toNat=(7 - i4).toNat+1 by omega,Xao,show(v9+1).toNat=i4.toNat by omega,Nat.div_div_eq_div_mul,←Nat.pow_succ,show(i4+1).toNat=i4.toNat+1 by omega]⟩ mlt)
 conv=>cbv
 refine .go ad fun s3 ae=>?_
 conv=>cbv
 have au:s3.size=w1.length:=by rw[ae,Bz]
 refine .litL 1 fun s4 al aw=>?_
 conv=>cbv
 refine .litR 4 fun s5 am ax=>?_
 conv=>cbv
 have e:s5=As n:=(by unfold As;rw[if_pos (by omega),am,al,ae,hw,show i4= -1 by omega];show tx [115]++tx _++tx [46,115,101,103]=_;rw[Dw,Dw];simp)
 rw[hr]at e
 subst e
 exact hQ _ _ (.s rfl rfl)
theorem Il{o:Bool}(hr:Jr=o):Fn Tryz.prog 359 [I 16] [] ⟨B o,[],[]⟩:=by
 refine Fn.go Ol Tryz.func359 fun P hP Q hQ=>?_
 conv=>cbv
 refine .sub fun v1 aa=>?_
 conv=>cbv
 refine .and fun v2 ab=>?_
 conv=>cbv
 refine .eql (fun h3=>?_) fun h3=>?_
 conv=>cbv
 have e:true=Jr:=(by rfl)
 rw[hr]at e
 subst e
 exact hQ _ _ (.b rfl rfl)
 conv=>cbv
 have e:false=Jr:=(by exfalso;apply h3;rw[ab,aa];rfl)
 rw[hr]at e
 subst e
 exact hQ _ _ (.b rfl rfl)
theorem Jc{u:Int}{oa:List UInt8}{xoa:List (List D)}{ob:ByteArray}(hu:0≤u∧u<4294967296)(hr:My u=(oa,ob))(hoa:oa.map cB=xoa):Fn Tryz.prog 338 [.d (.row 1 []),.d (.sc (.int .u64 u)),I 16,B false,B false] [] ⟨.tup [.d (.row 1 xoa),S ob],[],[]⟩:=by
 refine Fn.go Ol Tryz.func338 fun P hP Q hQ=>?_
 conv=>cbv
 refine .lss (fun h1=>?_) fun h1=>?_
 omega
 conv=>cbv
 refine .eql (fun h2=>?_) fun h2=>?_
 omega
 conv=>cbv
 refine .gtr (fun h3=>?_) fun h3=>?_
 omega
 conv=>cbv
 refine .go 65 hP (by kernel_rfl) fun z4 ay=>?_
 conv=>cbv
 generalize ai:Jr=r5
 refine .dd hP (Il ai) ?_
 cases r5
 cases ai
 conv=>cbv
 refine .go fun v6 az=>?_
 conv=>cbv
 generalize aj:P0 v6=r7
 refine .dd hP (Ls (by rw[az,Gs];rfl) aj) ?_
 conv=>cbv
 refine .go fun v8 a1=>?_
 conv=>cbv
 refine .go fun v9 a2=>?_
 conv=>cbv
 refine .go fun bj ak=>?_
 conv=>cbv
 refine .subW fun a6 al=>?_
 conv=>cbv
 refine LoopW.lp (κ:=Int×Int×(List (List D))) Ol hP [] [0,3,4,10,11,12,14,15,16] (fun(i1,aa,ab)=>[(1,.d (.sc (.int .u64 i1))),(13,I aa)]) (fun(i1,aa,ab)=>[(1,.row 1 false ab)])
  (fun(i1,aa,ab)=>∃(w1:List UInt8),w1.map cB=ab∧∃k:Nat,i1=((u.toNat/16^k:Nat):Int)∧aa=65 - (k:Int)∧k≤7∧w1.length=65∧Xc7 u.toNat=Xc7 (u.toNat/16^k)++w1.drop (65 - k))
  (fun(i1,aa,ab)=>(aa).toNat) (u,65,z4) ⟨(List.replicate 65 (0:UInt8)),ay,0,by simp;omega,rfl,by omega,by simp,by simp⟩ ⟨rfl,rfl,trivial⟩ rfl ?_
 rintro⟨i1,aa,ab⟩ J ⟨w1,am,k,af,bf,hk,hwl,hx⟩ hJ
 have e7:r7=4:=aj.symm
 have e8:v8=4:=by rw[a1,Gs,e7];rfl
 have e9:v9=16:=by rw[a2,Gs];rfl
 have a7:a6=15:=by rw[al,ak,Gs,Gs];rfl
 have hlt:u.toNat/16^k≤u.toNat:=Nat.div_le_self _ _
 have a8:16≤u.toNat/16^k→k<7:=by
  intro h
  rcases Nat.lt_or_ge k 7 with h7|h7
  ·exact h7
  ·obtain rfl:k=7:=by omega
   omega
 have hnx:u.toNat/16^ (k+1)=u.toNat/16^k/16:=by rw[Nat.pow_succ,←Nat.div_div_eq_div_mul]
 generalize hq:u.toNat/16^k=q at*
 conv=>cbv
 refine .geq (fun h12=>?_) fun h12=>?_
 conv=>cbv
 refine .sub fun ag an=>?_
 conv=>cbv
 refine .and fun ac ad=>?_
 conv=>cbv
 have h7:=a8 (by omega)
 have ah:ac=((q% 16:Nat):Int):=by rw[ad,a7,af,XmE (by omega)]
 have bg:q% 16<16:=Nat.mod_lt _ (by omega)
 refine .go ac.toNat (hj:=by show ac.toNat<36;omega) fun hjv15 ba ao bv15=>?_
 conv=>cbv
 refine .go hP Tryz.underlying283 (by kernel_rfl) fun ap bh=>?_
 conv=>cbv
 have bb:[D.sc (.int .u8 ba)]=cB (dig q):=Xir (by rw[ao,digF _ (by omega),ah,Int.toNat_natCast,Xef])
 refine .all (dig q) am bb fun bc aq=>?_
 conv=>cbv
 refine .shrW fun bd ar=>?_
 conv=>cbv
 exact .go [] (bd,ag,bc) (hJ _ ⟨_,aq,k+1,by rw[ar,e8,af,Int.fdiv_eq_ediv_of_nonneg _ (by decide),hnx];show(q:Int)/16=_;omega,by omega,by omega,by rw[List.length_set];exact hwl,by rw[hx,Xa4 (show¬q<16 by omega),List.append_assoc,hnx,show 65 - (k+1)=ap by omega,XeT (by omega),show ap+1=65 - k by omega];rfl⟩ mlt)
 conv=>cbv
 refine .sub fun ag an=>?_
 conv=>cbv
 refine .go i1.toNat (hj:=by show i1.toNat<36;omega) fun hjv14 ac ad bv14=>?_
 conv=>cbv
 refine .go hP Tryz.underlying283 (by kernel_rfl) fun au bi=>?_
 conv=>cbv
 have ah:[D.sc (.int .u8 ac)]=cB (dig q):=Xir (by rw[ad,digF _ (by omega),af,Int.toNat_natCast])
 refine .all (dig q) am ah fun bk ae=>?_
 conv=>cbv
 refine .lo hP ae Tryz.underlying283 (by kernel_rfl) fun on17 bl hon17 aw=>?_
 conv=>cbv
 refine .off ae fun be ax=>?_
 conv=>cbv
 have e:([],be)=My u:=(by unfold My;rw[ax,hx,Sj (show q<16 by omega),hon17,aw,show ag.toNat=au by omega,XeT (by omega),show au+1=65 - k by omega,List.take_of_length_le (by simp;omega)];rfl)
 rw[hr]at e
 simp only[Prod.mk.injEq]at e
 obtain⟨rfl,rfl⟩:=e
 refine hQ _ _ ?_
 exact .many (.inl rfl) rfl rfl (.ref rfl rfl (by rw[←hoa];rfl) (.d rfl rfl (.nil)))
theorem Jv(hn:0≤n∧n≤1000000000)(hr:Hr n=o):Fn Tryz.prog 314 [I n,I 16] [] ⟨S o,[],[]⟩:=by
 refine Fn.go Ol Tryz.func314 fun P hP Q hQ=>?_
 conv=>cbv
 refine .eql (fun h1=>?_) fun h1=>?_
 omega
 conv=>cbv
 refine .go fun v2 aa=>?_
 conv=>cbv
 refine .lss (fun h3=>?_) fun h3=>?_
 omega
 conv=>cbv
 rcases ab:My v2 with⟨ad,ae⟩
 generalize ac:ad.map cB=af
 refine .dd hP (Jc (by rw[aa,Gs];omega) ab ac) ?_
 conv=>cbv
 have e:ae=Hr n:=(by have e2:v2=n:=(by rw[aa,Gs];omega);unfold Hr;rw[←e2];exact(congrArg Prod.snd ab).symm)
 rw[hr]at e
 subst e
 exact hQ _ _ (.s rfl rfl)
theorem Qn(hn:0≤n∧n≤1000000000)(hr:Hr n=o):Fn Tryz.prog 266 [I n,I 16] [] ⟨S o,[],[]⟩:=by
 refine Fn.go Ol Tryz.func266 fun P hP Q hQ=>?_
 conv=>cbv
 generalize aa:Hr n=r1
 refine .dd hP (Jv hn aa) ?_
 conv=>cbv
 have e:r1=Hr n:=(by exact aa.symm)
 rw[hr]at e
 subst e
 exact hQ _ _ (.s rfl rfl)
theorem T1{c:Int}(hc:0≤c∧c≤8)(hr:Vg c=o):Fn Tryz.prog 267 [S (tx [48]),I c] [] ⟨S o,[],[]⟩:=by
 refine⟨Et Tryz.func267 rfl rfl,CallOk.ofCalls fun E vs hS hA=>?_⟩
 obtain⟨u,v,rfl,h1,h2⟩:=Xmx hA
 rw[Pt h1,Pt h2]
 obtain⟨k,rfl⟩:=Int.eq_ofNat_of_zero_le hc.1
 refine(Tryz.strings_Repeat (tx [48]) k E.w (by omega) (by rw[Bz];simp;omega)).mono ?_
 rintro e w' ⟨rfl,hb⟩
 refine⟨_,rfl,hb,?_⟩
 have:(⟨(Lib.repeatL (tx [48]).data.toList k).toArray⟩:ByteArray)=o:=by
  rw[←hr]
  unfold Vg tx
  congr 2
  rw[Int.toNat_natCast]
  have key:∀k,Lib.repeatL (tx [48]).data.toList k=List.replicate k 48:=by
   intro k
   induction k with
   |zero=>rfl
   |succ k ih=>show[48]++Lib.repeatL _ k=_;rw[ih];rfl
  exact key k
 rw[this]
 exact .sc _ rfl
theorem Gt(hr:As n=o):Fn Tryz.prog 203 [I n] [] ⟨S o,[],[]⟩:=by
 refine Fn.go Ol Tryz.func203 fun P hP Q hQ=>?_
 conv=>cbv
 generalize aa:Bq n=r1
 refine .dd hP (Fq aa) ?_
 cases r1
 simp only[Bq,decide_eq_true_eq,decide_eq_false_iff_not]at aa
 conv=>cbv
 have e:(tx [])=As n:=(by unfold As;rw[if_neg (by omega)])
 rw[hr]at e
 subst e
 exact hQ _ _ (.s rfl rfl)
 simp only[Bq,decide_eq_true_eq,decide_eq_false_iff_not]at aa
 conv=>cbv
 generalize ab:Hr n=r2
 refine .dd hP (Qn aa ab) ?_
 conv=>cbv
 obtain⟨p1,p2,p3⟩:=Xks 7 n.toNat (by omega)
 have z2:r2.size=(Xc7 n.toNat).length:=by rw[←ab];exact Bz
 refine .go fun v3 ag=>?_
 conv=>cbv
 refine .sub fun v4 ah=>?_
 conv=>cbv
 generalize ac:Vg v4=r5
 refine .dd hP (T1 (by omega) ac) ?_
 conv=>cbv
 have z5:r5.size=v4.toNat:=by rw[←ac];unfold Vg;rw[Bz,List.length_replicate]
 refine .litL 1 fun s6 ad ai=>?_
 conv=>cbv
 refine .go fun s7 ae aj=>?_
 conv=>cbv
 refine .litR 4 fun s8 af ak=>?_
 conv=>cbv
 have e:s8=As n:=(by unfold As;rw[if_pos (by omega),af,ae,ad,←ac,←ab,p1];unfold Vg Hr;show tx [115]++tx _++tx _++tx [46,115,101,103]=_;rw[Dw,Dw,Dw,show v4.toNat=7+1 - (Xc7 n.toNat).length by omega];simp)
 rw[hr]at e
 subst e
 exact hQ _ _ (.s rfl rfl)
end
section
open Go Go.Proofs
set_option maxRecDepth 20000
set_option maxHeartbeats 4000000
def XbD:List (Nat×TyRow):=[ty3,ty5,ty9,XgK]
theorem Xb5:B9 Tryz.prog XbD:=B9.of (by kernel_rfl)
theorem O1:Setup Tryz.prog XbD:=⟨Xb5,mixed⟩
open Go.RowKit
theorem CallOk.callsV{P:Program}{f:FuncId}{as0:List AV}{val:Value}(h:CallOk P f as0 [] ⟨.d (.sc val),[],[]⟩){w:World}(hG:Globs.ok w fun b=>b<w.heap.size){vs:Array Value}
  (hA:Xdo (Bx w (fun b=>b<w.heap.size) (fun _=>none) [] []) as0 vs):Calls P f vs w fun e w'=>e= .returned val∧Below w.heap.size w w':=by
 have hM:Mem (Fz w (fun b=>b<w.heap.size) (fun _=>none) []) (Bx w (fun b=>b<w.heap.size) (fun _=>none) [] []):={
  os:=rfl
  output:=rfl
  tape:=rfl
  size:=Nat.le_refl _
  keep:=fun _ _ _=>rfl
  shape:=fun _ _ h=>h
  s0:=fun _ h=>h
  slt:=fun _ h=>h
  glob:=hG
  snew:=fun _ h=>.inl h
  blt:=fun r b h=>absurd h (Nat.not_lt_zero r)
  bown:=fun r R b h=>absurd h (Nat.not_lt_zero r)
  bkeep:=fun r R h=>absurd h (Nat.not_lt_zero r)
  inj:=fun r r' R R' b h=>absurd h (Nat.not_lt_zero r)
  roots:=fun r R h=>absurd h (Nat.not_lt_zero r)}
 refine(h _ _ _ _ hM hA).mono ?_
 rintro e w' ⟨v,E',rfl,rfl,o⟩
 refine⟨?_,⟨o.mem.os,o.mem.tape,o.mem.output,o.mem.size,fun b hb=>o.mem.keep b hb (fun hn=>?_)⟩⟩
 ·have:=o.rel
  have h2:=Pt this
  rw[h2]
 ·obtain⟨r,R,h1,-⟩:=hn
  simp at h1
theorem De{w w':World}(hG:Globs.ok w fun b=>b<w.heap.size)(hb:Below w.heap.size w w'):Globs.ok w' fun b=>b<w'.heap.size:=
 Globs.step (fun b h=>Nat.lt_of_lt_of_le h hb.size) (fun b h=>hb.block b h) hG
theorem Xg4{w:World}(hG:Globs.ok w fun b=>b<w.heap.size)(n:Int):Calls Tryz.prog 203 #[.int .i64 n] w fun e w'=>e= .returned (.string (As n))∧Below w.heap.size w w':=by
 refine(Gt (n:=n) rfl).ok.callsV hG ⟨rfl,?_⟩
 intro j y hy
 match j,hy with
 |0,hy=>cases hy;exact .d _ _ (.sc _ rfl)
def Cg(n:Int):ByteArray:=if 0≤n∧n≤1000000000 then As n++tx [46,116,109,112]else tx []
theorem Xej{n:Int}{o:ByteArray}(e:Cg n=o):o.size≤17:=by
 rw[←e]
 unfold Cg
 split
 ·rw[ByteArray.size_append]
  have:=Hf (n:=n) rfl
  have:(tx [46,116,109,112]).size=4:=rfl
  omega
 ·simp[Bz]
def Ii(c:UInt8):Nat:=if 48≤c.toNat∧c.toNat≤57 then c.toNat - 48 else if 97≤c.toNat∧c.toNat≤102 then c.toNat - 87 else 16
def Fs:Nat→List UInt8→Option Nat
 |acc,[]=>some acc
 |acc,c::l=>if Ii c<16 then Fs (16*acc+Ii c) l else none
theorem Qi:∀(l:List UInt8) (acc:Nat) (c:UInt8),Fs acc (l++[c])=(Fs acc l).bind fun a=>if Ii c<16 then some (16*a+Ii c)else none
 |[],acc,c=>by
  show(if Ii c<16 then Fs _ []else none)=_
  rfl
 |b::l,acc,c=>by
  rw[List.cons_append,Fs,Fs]
  split
  ·exact Qi l _ c
  ·rfl
theorem Vn:∀(l m:List UInt8) (acc:Nat),Fs acc l=none→Fs acc (l++m)=none
 |[],m,acc,h=>by cases h
 |b::l,m,acc,h=>by
  rw[Fs]at h
  rw[List.cons_append,Fs]
  split
  ·rename_i hb;rw[if_pos hb]at h;exact Vn l m _ h
  ·rfl
theorem Xf6(n:Nat):Ii (dig n)=n% 16:=by
 have key:∀i:Fin 16,Ii (dig i.val)=i.val:=by decide
 have:=key ⟨n% 16,Nat.mod_lt _ (by omega)⟩
 rw[Xef]at this
 exact this
theorem Xz:∀(k n:Nat),n<16^k→Fs 0 (Xao k n)=some n
 |0,n,h=>by
  have:n=0:=by simpa using h
  subst this;rfl
 |k+1,n,h=>by
  rw[Xao,Qi,Xz k (n/16) (by rw[Nat.pow_succ]at h;omega),Option.bind_some,Xf6,if_pos (Nat.mod_lt _ (by omega))]
  congr 1
  omega
def mid(name:ByteArray):List UInt8:=(name.data.toList.drop 1).take 8
def Bu(name:ByteArray):Int×Int:=
 match Fs 0 (mid name)with
 |some n=>if name.size=13∧As (n:Int)=name then(1,(n:Int))else if name.size=17∧Cg (n:Int)=name then(2,(n:Int))else(0,0)
 |none=>(0,0)
theorem XiR{n:Int}(h:0≤n∧n≤1000000000):As n=tx (115::(Xao 8 n.toNat++[46,115,101,103])):=if_pos h
theorem Xlj{n:Int}(h:0≤n∧n≤1000000000):(As n).size=13:=by
 rw[XiR h,Bz,List.length_cons,List.length_append,Rh];rfl
theorem Xkm{n:Int}(h:0≤n∧n≤1000000000):(Cg n).size=17:=by
 unfold Cg
 rw[if_pos h,ByteArray.size_append,Xlj h];rfl
theorem XlS{n:Int}{l:List UInt8}:mid (tx (115::(Xao 8 n.toNat++l)))=Xao 8 n.toNat:=by
 unfold mid tx
 show((115::(Xao 8 n.toNat++l)).drop 1).take 8=_
 rw[List.drop_succ_cons,List.drop_zero,List.take_left' (Rh 8 n.toNat)]
theorem Xky{n:Int}{l:List UInt8}(h:0≤n∧n≤1000000000):Fs 0 (mid (tx (115::(Xao 8 n.toNat++l))))=some n.toNat:=by
 rw[XlS,Xz 8 n.toNat (by omega)]
theorem Xey{n:Int}(h:0≤n∧n≤1000000000):Bu (As n)=(1,n):=by
 have hh:Fs 0 (mid (As n))=some n.toNat:=by rw[XiR h];exact Xky h
 unfold Bu
 rw[hh]
 dsimp only
 rw[Int.toNat_of_nonneg h.1,if_pos ⟨Xlj h,rfl⟩]
theorem Xa8{n:Int}(h:0≤n∧n≤1000000000):Bu (Cg n)=(2,n):=by
 have hh:Fs 0 (mid (Cg n))=some n.toNat:=by
  unfold Cg
  rw[if_pos h,XiR h,Dw,List.cons_append,List.append_assoc];exact Xky h
 unfold Bu
 rw[hh]
 dsimp only
 rw[Int.toNat_of_nonneg h.1,if_neg (by rw[Xkm h];simp),if_pos ⟨Xkm h,rfl⟩]
theorem Xd8{n:Int}{name:ByteArray}(e:As n=name)(h:name.size≠0):0≤n∧n≤1000000000:=by
 rcases Decidable.em (0≤n∧n≤1000000000)with h1|h1
 ·exact h1
 ·exfalso;apply h;rw[←e];unfold As;rw[if_neg h1];rfl
theorem Xe7{n:Int}{name:ByteArray}(e:Cg n=name)(h:name.size≠0):0≤n∧n≤1000000000:=by
 rcases Decidable.em (0≤n∧n≤1000000000)with h1|h1
 ·exact h1
 ·exfalso;apply h;rw[←e];unfold Cg;rw[if_neg h1];rfl
theorem S6{name:ByteArray}(h:∀n,Fs 0 (mid name)=some n→As (n:Int)≠name∧Cg (n:Int)≠name):Bu name=(0,0):=by
 unfold Bu
 split
 ·rename_i n hn
  rw[if_neg (fun hh=>(h n hn).1 hh.2),if_neg (fun hh=>(h n hn).2 hh.2)]
 ·rfl
theorem Xch{name:ByteArray}(h:¬(13≤name.size∧name.size≤17)):Bu name=(0,0):=by
 unfold Bu
 split
 ·rw[if_neg (fun hh=>h (by omega)),if_neg (fun hh=>h (by omega))]
 ·rfl
theorem Xbe{name:ByteArray}(h:Fs 0 (mid name)=none):Bu name=(0,0):=by
 unfold Bu
 rw[h]
theorem Xj3{c:UInt8}(h:Ii c<16):Fk c=Ii c:=by
 have key:∀i:Fin 256,Ii (UInt8.ofNat i.val)<16→Fk (UInt8.ofNat i.val)=Ii (UInt8.ofNat i.val):=by decide+kernel
 have e:UInt8.ofNat c.toNat=c:=by simp
 have:=key ⟨c.toNat,c.toNat_lt⟩
 rw[e]at this
 exact this h
theorem Xas:∀(l:List UInt8) (acc n:Nat),Fs acc l=some n→Gk acc l=some n
 |[],acc,n,h=>h
 |c::l,acc,n,h=>by
  rw[Fs]at h
  split at h
  ·rename_i hc
   rw[Gk,Xj3 hc,if_pos hc]
   exact Xas l _ n h
  ·cases h
theorem Yg:∀(l:List UInt8) (acc n:Nat),Gk acc l=some n→n<(acc+1)*16^l.length
 |[],acc,n,h=>by cases h;simp
 |c::l,acc,n,h=>by
  rw[Gk]at h
  split at h
  ·have:=Yg l _ n h
   rw[List.length_cons,Nat.pow_succ]
   refine Nat.lt_of_lt_of_le this ?_
   have h2:(16*acc+Fk c+1)*16^l.length≤(16*(acc+1))*16^l.length:=Nat.mul_le_mul_right _ (by omega)
   refine Nat.le_trans h2 (Nat.le_of_eq ?_)
   rw[Nat.mul_comm 16 (acc+1),Nat.mul_assoc,Nat.mul_comm 16]
  ·cases h
theorem CallOk.ofCallsT{P:Program}{f:FuncId}{as0:List AV}{v1 v2:Value}(o1:v1.oneCell'=true)(o2:v2.oneCell'=true)(h:∀(E:Env) (vs:Array Value),(∀b,E.S b→b<E.w.heap.size)→Globs.ok E.w E.S→Xdo E as0 vs→Calls P f vs E.w fun e w'=>e= .returned (.tuple #[v1,v2])∧Below E.w.heap.size E.w w'):CallOk P f as0 [] ⟨.tup [.d (.sc v1),.d (.sc v2)],[],[]⟩:=by
 intro w S β vs hM hA
 refine(h (Bx w S β [] []) vs hM.slt hM.glob hA).mono ?_
 rintro e w' ⟨he,hb⟩
 have hb:Below w.heap.size w w':=hb
 have st:Step (Bx w S β [] []) {Bx w S β [] []with w:=w'}:=⟨fun r R hR=>⟨R,hR,.inr rfl⟩,fun _ h=>h,fun _ _=>rfl,fun _ h=>h,fun b hS=>hb.block b (hM.slt b hS),fun b s hs=>M9 hb hs⟩
 refine⟨.tuple #[v1,v2],{Bx w S β [] []with w:=w'},he,rfl,?_,st,?_,?_,hb.size,.tup _ _ rfl ?_⟩
 ·exact{
   os:=hb.os.trans hM.os
   output:=hb.output.trans hM.output
   tape:=hb.tape.trans hM.tape
   size:=hb.size
   keep:=fun b hlt hn=>hb.block b hlt
   shape:=fun b s hs=>M9 hb hs
   s0:=hM.s0
   slt:=fun b hS=>Nat.lt_of_lt_of_le (hM.slt b hS) hb.size
   glob:=Globs.step st.S st.heap hM.glob
   snew:=hM.snew
   blt:=fun r b hp hβ=>absurd hp (Nat.not_lt_zero r)
   bown:=fun r R b hp=>absurd hp (Nat.not_lt_zero r)
   bkeep:=fun r R hlt hp=>absurd hp (Nat.not_lt_zero r)
   inj:=fun r r' R R' b hp=>absurd hp (Nat.not_lt_zero r)
   roots:=fun r R hp=>absurd hp (Nat.not_lt_zero r)}
 ·rfl
 ·intro r
  constructor
  ·exact fun h=>.inl h
  ·rintro(h|⟨_,h⟩)
   ·exact h
   ·exact absurd h (by simp)
 ·intro j y hy
  match j,hy with
  |0,hy=>cases hy;exact .d _ _ (.sc _ o1)
  |1,hy=>cases hy;exact .d _ _ (.sc _ o2)
variable {n:Int} {o:ByteArray}
theorem Yo(hr:Cg n=o):Fn Tryz.prog 202 [I n] [] ⟨S o,[],[]⟩:=by
 refine Fn.go O1 Tryz.func202 fun P hP Q hQ=>?_
 conv=>cbv
 generalize aa:Bq n=r1
 refine .dd hP (Fq aa) ?_
 cases r1
 simp only[Bq,decide_eq_true_eq,decide_eq_false_iff_not]at aa
 conv=>cbv
 have e:(tx [])=Cg n:=(by unfold Cg;rw[if_neg (by omega)])
 rw[hr]at e
 subst e
 exact hQ _ _ (.s rfl rfl)
 simp only[Bq,decide_eq_true_eq,decide_eq_false_iff_not]at aa
 conv=>cbv
 generalize ab:As n=r2
 refine .dd hP (Gt ab) ?_
 conv=>cbv
 have ad:=Hf (n:=n) (by assumption)
 refine .litR 4 fun s3 ac ae=>?_
 conv=>cbv
 have e:s3=Cg n:=(by unfold Cg;rw[if_pos (by omega),ac,←ab];rfl)
 rw[hr]at e
 subst e
 exact hQ _ _ (.s rfl rfl)
theorem Xb(hr:Cg n=o):Fn Tryz.prog 189 [I n] [] ⟨S o,[],[]⟩:=by
 refine Fn.go O1 Tryz.func189 fun P hP Q hQ=>?_
 conv=>cbv
 generalize aa:As n=r1
 refine .dd hP (H1 aa) ?_
 conv=>cbv
 refine .eql (fun h2=>?_) fun h2=>?_
 conv=>cbv
 have e:(tx [])=Cg n:=(by unfold Cg;rw[if_neg];intro hh;have:=Xlj hh;rw[aa,h2]at this;cases this)
 rw[hr]at e
 subst e
 exact hQ _ _ (.s rfl rfl)
 conv=>cbv
 have ac:=Hf aa
 refine .litR 4 fun s3 ab ad=>?_
 conv=>cbv
 have e:s3=Cg n:=(by unfold Cg;rw[if_pos,ab,←aa];rfl;exact Xd8 aa (fun h0=>h2 (by apply ByteArray.ext;exact Array.eq_empty_of_size_eq_zero h0)))
 rw[hr]at e
 subst e
 exact hQ _ _ (.s rfl rfl)
theorem XkV{name:ByteArray}{k:Nat}(h:k+1<name.size)(hk:k<8):(mid name)[k]? =some name[k+1]:=by
 have h':k+1<name.data.toList.length:=by rw[Array.length_toList];exact h
 unfold mid
 rw[List.getElem?_take_of_lt hk,List.getElem?_drop,Nat.add_comm 1 k,List.getElem?_eq_getElem h']
 rfl
theorem XhH{name:ByteArray}(h:9≤name.size):(mid name).length=8:=by
 have h':name.data.toList.length=name.size:=by rw[Array.length_toList];rfl
 unfold mid
 rw[List.length_take,List.length_drop,h']
 omega
theorem Xj0{name:ByteArray}{k n:Nat}(h:k+1<name.size)(hk:k<8)(e:Fs 0 ((mid name).take k)=some n):
  Fs 0 ((mid name).take (k+1))=if Ii name[k+1]<16 then some (16*n+Ii name[k+1])else none:=by
 rw[List.take_add_one,XkV h hk]
 show Fs 0 ((mid name).take k++[name[k+1]])=_
 rw[Qi,e]
 rfl
theorem XkX{name:ByteArray}{k:Nat}(e:Fs 0 ((mid name).take k)=none):Fs 0 (mid name)=none:=by
 rw[←List.take_append_drop k (mid name)]
 exact Vn _ _ _ e
theorem Xjf{c:UInt8}(h:48≤c.toNat∧c.toNat≤57):Ii c=c.toNat - 48:=if_pos h
theorem XiZ{c:UInt8}(h:¬(48≤c.toNat∧c.toNat≤57))(h2:97≤c.toNat∧c.toNat≤102):Ii c=c.toNat - 87:=by unfold Ii;rw[if_neg h,if_pos h2]
theorem Xjk{c:UInt8}(h:¬(48≤c.toNat∧c.toNat≤57))(h2:¬(97≤c.toNat∧c.toNat≤102)):Ii c=16:=by unfold Ii;rw[if_neg h,if_neg h2]
theorem pow16{k:Nat}(h:k≤7):16^k*16≤4294967296:=by
 have:=Nat.pow_le_pow_right (n:=16) (by decide) (show k+1≤8 by omega)
 rw[Nat.pow_succ]at this
 exact this
def Lm(l:List Int)(n:Int):Bool:=decide (n∈l)
theorem XjL{l:List Int}{xl:List (List D)}{o:Bool}(hl:l.map cI=xl)(hn:l.length<2^40)(hr:Lm l n=o):Fn Tryz.prog 141 [.d (.row 1 xl),I n] [] ⟨B o,[],[]⟩:=by
 refine Fn.go O1 Tryz.func141 fun P hP Q hQ=>?_
 conv=>cbv
 refine LoopW.lp (κ:=Int) O1 hP [] [0,1] (fun i5=>[(5,I i5)]) (fun i5=>[])
  (fun i5=>0≤i5∧i5≤l.length∧∀(j:Nat) (hj:j<l.length),j<i5.toNat→l[j]≠n)
  (fun i5=>(l.length - i5).toNat) (0) ⟨by omega,by omega,fun j _ h=>by simp at h⟩ ⟨rfl,trivial⟩ rfl ?_
 rintro i5 J ⟨h0,h1,hb⟩ hJ
 conv=>cbv
 refine .go hl fun v1 ad=>?_
 conv=>cbv
 refine .lss (fun h2=>?_) fun h2=>?_
 conv=>cbv
 refine .go i5.toNat hl fun aa e3 ab=>?_
 conv=>cbv
 refine .eql (fun h4=>?_) fun h4=>?_
 conv=>cbv
 have e:true=Lm l n:=(by unfold Lm;symm;rw[decide_eq_true_eq,←h4,ab];exact List.getElem_mem aa)
 rw[hr]at e
 subst e
 exact hQ _ _ (.b rfl rfl)
 conv=>cbv
 refine .add fun v5 ae=>?_
 conv=>cbv
 exact .go [] (v5) (hJ _ ⟨by omega,by omega,fun j hj h=>if e:j=i5.toNat then by subst e;rw[←ab];exact h4 else hb j hj (by omega)⟩ mlt)
 conv=>cbv
 have e:false=Lm l n:=(by unfold Lm;symm;rw[decide_eq_false_iff_not];intro hm;obtain⟨j,hj,ac⟩:=List.getElem_of_mem hm;exact hb j hj (by omega) ac)
 rw[hr]at e
 subst e
 exact hQ _ _ (.b rfl rfl)
theorem Tc{name:ByteArray}{oa:Int}{ob:Int}(hs:name.size≤1000000000)(hr:Bu name=(oa,ob)):Fn Tryz.prog 140 [S name] [] ⟨.tup [I oa,I ob],[],[]⟩:=by
 refine Fn.go O1 Tryz.func140 fun P hP Q hQ=>?_
 conv=>cbv
 refine .go fun v1 al=>?_
 conv=>cbv
 generalize ae:Bh v1 13 17=r2
 refine .dd hP (Do ae) ?_
 cases r2
 simp only[Bh,decide_eq_true_eq,decide_eq_false_iff_not]at ae
 conv=>cbv
 have e:(0,0)=Bu name:=(by exact(Xch (by omega)).symm)
 rw[hr]at e
 simp only[Prod.mk.injEq]at e
 obtain⟨rfl,rfl⟩:=e
 refine hQ _ _ ?_
 exact .many (.inl rfl) rfl rfl (.d rfl rfl (.d rfl rfl (.nil)))
 simp only[Bh,decide_eq_true_eq,decide_eq_false_iff_not]at ae
 conv=>cbv
 refine LoopW.lp (κ:=Int×Int) O1 hP [] [0] (fun(i4,i5)=>[(4,I i4),(5,I i5)]) (fun(i4,i5)=>[])
  (fun(i4,i5)=>1≤i5∧i5≤9∧0≤i4∧i4.toNat<16^ (i5 - 1).toNat∧Fs 0 ((mid name).take (i5 - 1).toNat)=some i4.toNat)
  (fun(i4,i5)=>(9 - i5).toNat) (0,1) ⟨by omega,by omega,by omega,by simp,rfl⟩ ⟨rfl,rfl,trivial⟩ rfl ?_
 rintro⟨i4,i5⟩ J ⟨h0,h1,h2,h3_,he⟩ hJ
 conv=>cbv
 refine .lss (fun h3=>?_) fun h3=>?_
 conv=>cbv
 refine .go i5.toNat fun hjv4 v4 ah bv4=>?_
 conv=>cbv
 have hp:=pow16 (k:=(i5 - 1).toNat) (by omega)
 have hc:v4=(name[(i5 - 1).toNat+1].toNat:Int):=by rw[ah];congr 2;congr 1;omega
 have hstep:=Xj0 (name:=name) (k:=(i5 - 1).toNat) (by omega) (by omega) he
 have am:=name[(i5 - 1).toNat+1].toNat_lt
 refine .id fun v5 an=>?_
 conv=>cbv
 generalize aa:Bh v5 48 57=r6
 refine .dd hP (Do aa) ?_
 cases r6
 simp only[Bh,decide_eq_true_eq,decide_eq_false_iff_not]at aa
 conv=>cbv
 generalize af:Bh v5 97 102=r7
 refine .dd hP (Do af) ?_
 cases r7
 simp only[Bh,decide_eq_true_eq,decide_eq_false_iff_not]at af
 conv=>cbv
 have e:(0,0)=Bu name:=(by exact(Xbe (XkX (k:=(i5 - 1).toNat+1) (by rw[hstep,Xjk (by omega) (by omega)];rfl))).symm)
 rw[hr]at e
 simp only[Prod.mk.injEq]at e
 obtain⟨rfl,rfl⟩:=e
 refine hQ _ _ ?_
 exact .many (.inl rfl) rfl rfl (.d rfl rfl (.d rfl rfl (.nil)))
 simp only[Bh,decide_eq_true_eq,decide_eq_false_iff_not]at af
 conv=>cbv
 have hval:=XiZ (c:=name[(i5 - 1).toNat+1]) (by omega) (by omega)
 refine .mul fun v8 ai=>?_
 conv=>cbv
 refine .add fun v9 aj=>?_
 conv=>cbv
 refine .sub fun ab ag=>?_
 conv=>cbv
 refine .add fun ac ak=>?_
 conv=>cbv
 exact .go [] (ab,ac) (hJ _ ⟨by omega,by omega,by omega,by first|(rw[show(ac - 1).toNat=(i5 - 1).toNat+1 by omega,Nat.pow_succ];omega)|(rw[show(ab - 1).toNat=(i5 - 1).toNat+1 by omega,Nat.pow_succ];omega),by first|(rw[show(ac - 1).toNat=(i5 - 1).toNat+1 by omega,hstep,hval,if_pos (by omega)];congr 1;omega)|(rw[show(ab - 1).toNat=(i5 - 1).toNat+1 by omega,hstep,hval,if_pos (by omega)];congr 1;omega)⟩ mlt)
 simp only[Bh,decide_eq_true_eq,decide_eq_false_iff_not]at aa
 conv=>cbv
 have hval:=Xjf (c:=name[(i5 - 1).toNat+1]) (by omega)
 refine .mul fun v7 ao=>?_
 conv=>cbv
 refine .add fun v8 ai=>?_
 conv=>cbv
 refine .sub fun v9 aj=>?_
 conv=>cbv
 refine .add fun ab ag=>?_
 conv=>cbv
 exact .go [] (v9,ab) (hJ _ ⟨by omega,by omega,by omega,by first|(rw[show(ac - 1).toNat=(i5 - 1).toNat+1 by omega,Nat.pow_succ];omega)|(rw[show(ab - 1).toNat=(i5 - 1).toNat+1 by omega,Nat.pow_succ];omega),by first|(rw[show(ac - 1).toNat=(i5 - 1).toNat+1 by omega,hstep,hval,if_pos (by omega)];congr 1;omega)|(rw[show(ab - 1).toNat=(i5 - 1).toNat+1 by omega,hstep,hval,if_pos (by omega)];congr 1;omega)⟩ mlt)
 conv=>cbv
 generalize ad:As i4=r4
 refine .dd hP (H1 ad) ?_
 conv=>cbv
 refine .eql (fun h5=>?_) fun h5=>?_
 conv=>cbv
 have e:(1,i4)=Bu name:=(by have:=Xey (Xd8 (ad.trans h5) (by omega));rw[ad,h5]at this;exact this.symm)
 rw[hr]at e
 simp only[Prod.mk.injEq]at e
 obtain⟨rfl,rfl⟩:=e
 refine hQ _ _ ?_
 exact .many (.inl rfl) rfl rfl (.d rfl rfl (.d rfl rfl (.nil)))
 conv=>cbv
 generalize aa:Cg i4=r6
 refine .dd hP (Xb aa) ?_
 conv=>cbv
 refine .eql (fun h7=>?_) fun h7=>?_
 conv=>cbv
 have e:(2,i4)=Bu name:=(by have:=Xa8 (Xe7 (aa.trans h7) (by omega));rw[aa,h7]at this;exact this.symm)
 rw[hr]at e
 simp only[Prod.mk.injEq]at e
 obtain⟨rfl,rfl⟩:=e
 refine hQ _ _ ?_
 exact .many (.inl rfl) rfl rfl (.d rfl rfl (.d rfl rfl (.nil)))
 conv=>cbv
 have e:(0,0)=Bu name:=(by refine(S6 fun n hn=>?_).symm;rw[show(i5 - 1).toNat=8 by omega,List.take_of_length_le (by rw[XhH (by omega)];omega),hn]at he;cases he;rw[Int.toNat_of_nonneg h2,ad,aa];exact⟨h5,h7⟩)
 rw[hr]at e
 simp only[Prod.mk.injEq]at e
 obtain⟨rfl,rfl⟩:=e
 refine hQ _ _ ?_
 exact .many (.inl rfl) rfl rfl (.d rfl rfl (.d rfl rfl (.nil)))
end
section
open Go Go.Proofs
set_option maxRecDepth 20000
set_option maxHeartbeats 4000000
open Go.RowKit
theorem puPub(t:ByteArray)(h8:t.size=8){w:World}(hi:G4 w 2):Calls Tryz.prog 282 #[.string t,.int .i64 16,.int .i64 32] w fun e w'=>
  (match Gk 0 t.data.toList with|some n=>e= .returned (.tuple #[.int .u64 n,.nilIface])|none=>∃x T p,e= .returned (.tuple #[.int .u64 x,.iface T p]))∧Below w.heap.size w w':=by
 obtain⟨ev,h1,h2⟩:=hi
 have hp:=fun w=>pu16 Tryz.lays287 t (by omega) (by omega) w
 have hlt:2<w.heap.size:=Lib.lt_of_cell h1
 have hbel:Below w.heap.size w (Lib.bytesWorld w (Tryz.lays287_ren.t 5) t):=Lib.bytesWorld_below _ _ _
 cases hh:Gk 0 t.data.toList with
 |some n=>
  rw[hh]at hp
  replace hp:∀w,Calls Tryz.prog 323 #[.string t,.int .i64 16,.int .i64 32] w fun e w'=>e= .returned (.tuple #[.int .u64 n,.nilIface])∧w'=Lib.bytesWorld w (Tryz.lays287_ren.t 5) t:=hp
  go_enter Tryz.func282,Tryz.ntmps282
  go_wp2_with (go_at_call 323;refine(hp _).mono ?_;rintro e w' ⟨rfl,rfl⟩)
  go_ret2
  exact⟨rfl,hbel⟩
 |none=>
  rw[hh]at hp
  replace hp:∀w,Calls Tryz.prog 323 #[.string t,.int .i64 16,.int .i64 32] w fun e w'=>e= .returned (.tuple #[.int .u64 0,.iface 273 (.int .i64 2)])∧w'=Lib.bytesWorld w (Tryz.lays287_ren.t 5) t:=hp
  go_enter Tryz.func282,Tryz.ntmps282
  go_wp2_with (first
   |(go_at_call 323;refine(hp _).mono ?_;rintro e w' ⟨rfl,rfl⟩)
   |(go_at_call 324;refine(Tryz.strconv_toError_syntax _ t _ _ ev _ (by omega) ((hbel.cell hlt).trans h1) h2).mono ?_;rintro e w' ⟨N,rfl,-,-,hb2⟩))
  go_ret2
  exact⟨⟨_,_,_,rfl⟩,hbel.trans (hb2.mono hbel.size)⟩
theorem Xfq{a b:ByteArray}(h:¬a=b):(a.toList==b.toList)=false:=by
 rw[Bool.eq_false_iff]
 exact fun hh=>h ((Lib.bytes_beq_iff _ _).1 hh)
theorem Ou{w:World}(hG:Globs.ok w fun b=>b<w.heap.size){n:Int}{o:ByteArray}(hr:As n=o):Calls Tryz.prog 203 #[.int .i64 n] w fun e w'=>e= .returned (.string o)∧Below w.heap.size w w':=by
 rw[←hr];exact Xg4 hG n
theorem Ph{w:World}(hG:Globs.ok w fun b=>b<w.heap.size){n:Int}{o:ByteArray}(hr:Cg n=o):Calls Tryz.prog 202 #[.int .i64 n] w fun e w'=>e= .returned (.string o)∧Below w.heap.size w w':=by
 refine(Yo (n:=n) hr).ok.callsV hG ⟨rfl,?_⟩
 intro j y hy
 match j,hy with
 |0,hy=>cases hy;exact .d _ _ (.sc _ rfl)
theorem Kb{w:World}(hG:Globs.ok w fun b=>b<w.heap.size){n:Int}{o:Bool}(hr:Bq n=o):Calls Tryz.prog 173 #[.int .i64 n] w fun e w'=>e= .returned (.bool o)∧Below w.heap.size w w':=by
 refine(Fq (n:=n) hr).ok.callsV hG ⟨rfl,?_⟩
 intro j y hy
 match j,hy with
 |0,hy=>cases hy;exact .d _ _ (.sc _ rfl)
theorem XdI{name:ByteArray}(h:9≤name.size):(name.extract 1 9).size=8∧(name.extract 1 9).data.toList=mid name:=by
 have h':9≤name.data.size:=h
 constructor
 ·rw[ByteArray.size_extract];omega
 ·unfold mid
  rw[ByteArray.data_extract,Array.toList_extract,List.extract_eq_take_drop]
set_option maxHeartbeats 1000000 in
set_option maxRecDepth 100000 in
theorem W6{name:ByteArray}(hs:name.size≤1000000000){w:World}(hG:Globs.ok w fun b=>b<w.heap.size):Calls Tryz.prog 219 #[.string name] w fun e w'=>
  e= .returned (.tuple #[.int .i64 (Bu name).1,.int .i64 (Bu name).2])∧Below w.heap.size w w':=by
 by_cases h9:name.size<9
 ·rw[Xch (by omega)]
  go_enter Tryz.func219,Tryz.ntmps219
  go_wp2
  go_ret2
  exact⟨rfl,Below.refl _ _⟩
 obtain⟨hx8,hxl⟩:=XdI (name:=name) (by omega)
 have hpu:=fun(w:World) (hi:G4 w 2)=>puPub (name.extract 1 9) hx8 hi
 rw[hxl]at hpu
 have hG3:∀{w:World},(Globs.ok w fun b=>b<w.heap.size)→G4 w 2:=fun h=>Xh2 h
 cases hh:Gk 0 (mid name)with
 |none=>
  simp only[hh]at hpu
  rw[Xbe (by
   cases h:Fs 0 (mid name)with
   |none=>rfl
   |some n=>rw[Xas _ _ _ h]at hh;cases hh)]
  go_enter Tryz.func219,Tryz.ntmps219
  go_wp2_with (go_at_call 282;refine(hpu _ (hG3 hG)).mono ?_;rintro e w' ⟨⟨x,T,p,rfl⟩,hb⟩)
  go_ret2
  exact⟨rfl,hb⟩
 |some m=>
  simp only[hh]at hpu
  have hm:m<4294967296:=by
   have:=Yg _ _ _ hh
   rw[XhH (by omega)]at this
   omega
  have hmn:∀n,Fs 0 (mid name)=some n→n=m:=fun n hn=>by
   have:=Xas _ _ _ hn
   rw[hh]at this
   exact(Option.some.inj this).symm
  obtain⟨M,hM⟩:∃M:Int,M=(m:Int):=⟨_,rfl⟩
  have hM0:0≤M:=by omega
  have hM1:M<4294967296:=by omega
  simp only[←hM]at hpu
  by_cases hnum:M≤1000000000
  ·have hrn:Bq M=true:=decide_eq_true ⟨hM0,hnum⟩
   obtain⟨sg,hsg⟩:∃s,As M=s:=⟨_,rfl⟩
   obtain⟨tp,htp⟩:∃s,Cg M=s:=⟨_,rfl⟩
   by_cases hse:name=sg
   ·have hR:Bu name=(1,M):=by rw[hse,←hsg];exact Xey ⟨hM0,hnum⟩
    rw[hR]
    dsimp only
    clear hmn hh hxl hR hM
    subst hse
    go_enter Tryz.func219,Tryz.ntmps219
    go_wp2_with (first
     |(go_at_call 282;refine(hpu _ (hG3 hG)).mono ?_;rintro e w1 ⟨rfl,aa⟩;have hG1:=De hG aa)
     |(go_at_call 173;refine(Kb hG1 hrn).mono ?_;rintro e w2 ⟨rfl,hb2⟩;have hG2:=De hG1 hb2)
     |(go_at_call 203;refine(Ou hG2 hsg).mono ?_;rintro e w3 ⟨rfl,ab⟩;have hG3_:=De hG2 ab)
     |(go_at_call 202;refine(Ph hG3_ htp).mono ?_;rintro e w4 ⟨rfl,ac⟩))
    go_ret2
    exact⟨rfl,(aa.trans (hb2.mono aa.size)).trans (ab.mono (aa.trans (hb2.mono aa.size)).size)⟩
   ·by_cases hte:name=tp
    ·have hR:Bu name=(2,M):=by rw[hte,←htp];exact Xa8 ⟨hM0,hnum⟩
     rw[hR]
     dsimp only
     clear hmn hh hxl hR hM
     subst hte
     have ad:=Xfq hse
     go_enter Tryz.func219,Tryz.ntmps219
     go_wp2_with (first
      |(go_at_call 282;refine(hpu _ (hG3 hG)).mono ?_;rintro e w1 ⟨rfl,aa⟩;have hG1:=De hG aa)
      |(go_at_call 173;refine(Kb hG1 hrn).mono ?_;rintro e w2 ⟨rfl,hb2⟩;have hG2:=De hG1 hb2)
      |(go_at_call 203;refine(Ou hG2 hsg).mono ?_;rintro e w3 ⟨rfl,ab⟩;have hG3_:=De hG2 ab)
      |(go_at_call 202;refine(Ph hG3_ htp).mono ?_;rintro e w4 ⟨rfl,ac⟩))
     go_ret2
     exact⟨rfl,((aa.trans (hb2.mono aa.size)).trans (ab.mono (aa.trans (hb2.mono aa.size)).size)).trans (ac.mono ((aa.trans (hb2.mono aa.size)).trans (ab.mono (aa.trans (hb2.mono aa.size)).size)).size)⟩
    ·have hR:Bu name=(0,0):=S6 fun n hn=>by
      rw[hmn n hn,←hM,hsg,htp]
      exact⟨fun e=>hse e.symm,fun e=>hte e.symm⟩
     rw[hR]
     dsimp only
     clear hmn hh hxl hR hM
     have ad:=Xfq hse
     have ae:=Xfq hte
     go_enter Tryz.func219,Tryz.ntmps219
     go_wp2_with (first
      |(go_at_call 282;refine(hpu _ (hG3 hG)).mono ?_;rintro e w1 ⟨rfl,aa⟩;have hG1:=De hG aa)
      |(go_at_call 173;refine(Kb hG1 hrn).mono ?_;rintro e w2 ⟨rfl,hb2⟩;have hG2:=De hG1 hb2)
      |(go_at_call 203;refine(Ou hG2 hsg).mono ?_;rintro e w3 ⟨rfl,ab⟩;have hG3_:=De hG2 ab)
      |(go_at_call 202;refine(Ph hG3_ htp).mono ?_;rintro e w4 ⟨rfl,ac⟩))
     go_ret2
     exact⟨rfl,((aa.trans (hb2.mono aa.size)).trans (ab.mono (aa.trans (hb2.mono aa.size)).size)).trans (ac.mono ((aa.trans (hb2.mono aa.size)).trans (ab.mono (aa.trans (hb2.mono aa.size)).size)).size)⟩
  ·have hrn:Bq M=false:=decide_eq_false fun h=>hnum h.2
   obtain⟨sg,hsg⟩:∃s,As M=s:=⟨_,rfl⟩
   obtain⟨tp,htp⟩:∃s,Cg M=s:=⟨_,rfl⟩
   have hR:Bu name=(0,0):=S6 fun n hn=>by
    rw[hmn n hn,←hM]
    exact⟨fun e=>hnum (Xd8 e (by omega)).2,fun e=>hnum (Xe7 e (by omega)).2⟩
   rw[hR]
   dsimp only
   clear hmn hh hxl hR hM
   go_enter Tryz.func219,Tryz.ntmps219
   go_wp2_with (first
    |(go_at_call 282;refine(hpu _ (hG3 hG)).mono ?_;rintro e w1 ⟨rfl,aa⟩;have hG1:=De hG aa)
    |(go_at_call 173;refine(Kb hG1 hrn).mono ?_;rintro e w2 ⟨rfl,hb2⟩;have hG2:=De hG1 hb2)
    |(go_at_call 203;refine(Ou hG2 hsg).mono ?_;rintro e w3 ⟨rfl,ab⟩;have hG3_:=De hG2 ab)
    |(go_at_call 202;refine(Ph hG3_ htp).mono ?_;rintro e w4 ⟨rfl,ac⟩))
   go_ret2
   exact⟨rfl,aa.trans (hb2.mono aa.size)⟩
theorem X9{name:ByteArray}{oa ob:Int}(hs:name.size≤1000000000)(hr:Bu name=(oa,ob)):Fn Tryz.prog 219 [S name] [] ⟨.tup [I oa,I ob],[],[]⟩:=by
 refine⟨Et Tryz.func219 rfl rfl,CallOk.ofCallsT rfl rfl fun E vs hS hG hA=>?_⟩
 obtain⟨u,rfl,h1⟩:=XjI hA
 rw[Pt h1]
 have h2:=W6 hs (Globs.step hS (fun _ _=>rfl) hG)
 rw[hr]at h2
 exact h2
end
section
open Go Go.Proofs
set_option maxRecDepth 20000
set_option maxHeartbeats 4000000
def Xfm:List (Nat×TyRow):=[ty3,ty9,Xcn,XgK,Zr,Xdg,XkY,XkQ,Xk7]
theorem Xdk:B9 Tryz.prog Xfm:=B9.of (by kernel_rfl)
theorem F1:Setup Tryz.prog Xfm:=⟨Xdk,mixed⟩
def Dl(d:Aa)(base:Int):ByteArray:=(Gr d (As base)).1
def Dy(b:ByteArray)(base link:Int):Bool:=(Cm b).2&&decide ((Cm b).1.base_=base)&&decide ((Cm b).1.link_=link)
def Ie(link:Int)(r:ByteArray):Int:=Ge link (Bd r.size 4++r)
def Gf(link:Int)(l:List ByteArray):Int:=l.foldl Ie link
def Dk(b:ByteArray):List ByteArray:=(Bs b).records_
def Iq(b:ByteArray):Int:=Gf (Bs b).head_.link_ (Bs b).records_
def Jl(d:Aa):Nat→Int→Int→List So
 |0,_,_=>[]
 |k+1,base,sum=>if Dy (Dl d base) base sum=true∧Dk (Dl d base)≠[]then
   ⟨base,Dl d base,Bs (Dl d base)⟩::Jl d k (base+(Dk (Dl d base)).length) (Gf sum (Dk (Dl d base)))else[]
def Li(d:Aa):List So:=Jl d 16 0 0
def Ex(d:Aa):List Int:=(Li d).map (·.base_)
def Pz(d:Aa):List ByteArray:=(Li d).flatMap fun x=>x.scan_.records_
theorem Ka{d:Aa}{b:Int}{t:ByteArray}(hd:okD d)(e:Dl d b=t):t.size≤1000000000:=by
 rw[←e]
 exact Xd1 (ok:=(Gr d (As b)).2) hd rfl
theorem Wj{t:ByteArray}{b s:Int}(h:Dy t b s=true):∃hh,Cm t=(hh,true)∧hh.base_=b∧hh.link_=s∧0≤b∧b≤1000000000:=by
 unfold Dy at h
 simp only[Bool.and_eq_true,decide_eq_true_eq]at h
 rcases e:Cm t with⟨hh,ok⟩
 rw[e]at h
 obtain⟨⟨h1,h2⟩,h3⟩:=h
 simp only[]at h1 h2 h3
 subst h1
 have h4:=(Hm e).2.2
 obtain⟨v,st,bs,lk⟩:=hh
 have h5:=If h4
 exact⟨_,rfl,h2,h3,by simp only[]at h2;omega,by simp only[]at h2;omega⟩
theorem XhK{t:ByteArray}{hh:Ca}(e:Cm t=(hh,true)):(Bs t).head_=hh∧(Bs t).ok_=true:=by unfold Bs;rw[e];exact⟨rfl,rfl⟩
theorem W2{t:ByteArray}{b s:Int}(h:Dy t b s=true):Iq t=Gf s (Dk t):=by
 obtain⟨hh,h1,h2,h3,_⟩:=Wj h
 unfold Iq Dk
 rw[(XhK h1).1,h3]
theorem Sn{t:ByteArray}{b s:Int}{l:List ByteArray}(h:Dy t b s=true)(e:Dk t=l):Iq t=Gf s l:=by rw[W2 h,e]
theorem Qu{d:Aa}{k:Nat}{b s:Int}{t:ByteArray}(h1:Dl d b=t)(h2:Dy t b s=false∨Dk t=[]):Jl d k b s=[]:=by
 cases k with
 |zero=>rfl
 |succ k=>
  rw[Jl,h1,if_neg]
  rintro⟨h3,h4⟩
  rcases h2 with h2|h2
  ·rw[h2]at h3;cases h3
  ·exact h4 h2
theorem Wi{d:Aa}{k:Nat}{b s:Int}{t:ByteArray}(h1:Dl d b=t)(h2:Dy t b s=true)(h3:Dk t≠[]):Jl d (k+1) b s=⟨b,t,Bs t⟩::Jl d k (b+(Dk t).length) (Gf s (Dk t)):=by
 rw[Jl,h1,if_pos ⟨h2,h3⟩]
theorem Sv{d:Aa}:∀{k:Nat} {b s:Int},(Jl d k b s).length≤k
 |0,_,_=>Nat.le_refl _
 |k+1,b,s=>by
  rw[Jl]
  split
  ·rw[List.length_cons];exact Nat.succ_le_succ Sv
  ·exact Nat.zero_le _
theorem Xx{d:Aa}:∀{k:Nat} {b s:Int},∀x∈Jl d k b s,x.text_=Dl d x.base_∧x.scan_=Bs (Dl d x.base_)∧∃s',Dy (Dl d x.base_) x.base_ s'=true
 |0,_,_,x,hx=>by simp[Jl]at hx
 |k+1,b,s,x,hx=>by
  rw[Jl]at hx
  split at hx
  ·rename_i h
   rw[List.mem_cons]at hx
   rcases hx with rfl|hx
   ·exact⟨rfl,rfl,s,h.1⟩
   ·exact Xx x hx
  ·simp at hx
theorem O4{d:Aa}{l:List So}(e:Li d=l):l.length≤16:=by rw[←e];exact Sv
theorem J7{d:Aa}{l:List Int}(e:Ex d=l):l.length≤16:=by rw[←e];unfold Ex;rw[List.length_map];exact Sv
theorem Sf{d:Aa}{l:List So}(e:Li d=l){x:So}(hx:x∈l):x.text_=Dl d x.base_∧x.scan_=Bs (Dl d x.base_)∧∃s',Dy (Dl d x.base_) x.base_ s'=true:=by rw[←e]at hx;exact Xx x hx
theorem XaY{d:Aa}{α:Type}(f:So→α)(g:Int→α)(h:∀x,x.text_=Dl d x.base_→x.scan_=Bs (Dl d x.base_)→f x=g x.base_):(Li d).map f=(Ex d).map g:=by
 unfold Ex
 rw[List.map_map]
 refine List.map_congr_left fun x hx=>?_
 obtain⟨h1,h2,_⟩:=Sf rfl hx
 exact h x h1 h2
theorem Xdb{d:Aa}:Pz d=(Ex d).flatMap fun b=>Dk (Dl d b):=by
 unfold Pz
 rw[List.flatMap_def,List.flatMap_def]
 congr 1
 exact XaY _ _ fun x h1 h2=>by rw[h2];rfl
theorem Xew:∀(k:Nat) {h:Ca} {b:ByteArray} {n:Nat} {p:Int},(b.size - p).toNat≤k→0≤p∧p≤b.size→∀r∈(Ir h b n p).1,r.size≤60
 |k,h,b,n,p,hk,hp=>by
  cases hm:Em h.version_ (h.base_+n) b p
  ·rcases hf:Bf h.version_ (h.base_+n) b p with⟨r,q,ok⟩
   cases ok
   ·rw[Pl hm hf];simp
   ·have h2:=H0 hf
    rw[Pc hm hf]
    cases k with
    |zero=>omega
    |succ k=>
     have ih:=Xew k (h:=h) (b:=b) (n:=n+1) (p:=q) (by omega) (by omega)
     intro x hx
     rcases List.mem_cons.1 hx with rfl|hx
     ·omega
     ·exact ih x hx
  ·rw[Pf hm];simp
theorem Xeu{b:ByteArray}:∀r∈(Bs b).records_,r.size≤60:=by
 unfold Bs
 split
 ·rename_i h e
  have h2:=Hm e
  exact Xew _ (h:=h) (b:=b) (n:=0) (p:=24) (Nat.le_refl _) (by omega)
 ·simp
theorem Z4{α β:Type}{f:α→β}{l:List α}{k:Nat}(h:k<l.length):(l.take (k+1)).map f=(l.take k).map f++[f l[k]]:=by rw[List.take_succ_eq_append_getElem h,List.map_append];rfl
theorem L0{α β:Type}{f:α→List β}{l:List α}{k:Nat}(h:k<l.length):(l.take (k+1)).flatMap f=(l.take k).flatMap f++f l[k]:=by rw[List.take_succ_eq_append_getElem h,List.flatMap_append];simp
variable {Ae:List Bk} {Bo Bl Bj Bn xo:List (List D)} {Ag Ah:List Ad} {Af:List ByteArray} {Ao An base o link:Int} {b r:ByteArray}
theorem XjB{o:ByteArray}(Aj:Ae.map Bg=Bo)(Am:Ag.map Ac=Bl)(At:Ah.map Ac=Bj)(Ap:Af.map cS=Bn)(hd:okD ⟨Ae,Ag,Ah,Af,Ao,An⟩)(hr:Dl (⟨Ae,Ag,Ah,Af,Ao,An⟩:Aa) base=o):Fn Tryz.prog 198 [.agg [.d (.row 3 Bo),.d (.row 2 Bl),.d (.row 2 Bj),.d (.row 1 Bn),I Ao,I An],I base] [] ⟨S o,[],[]⟩:=by
 refine Fn.go F1 Tryz.func198 fun P hP Q hQ=>?_
 conv=>cbv
 generalize aa:As base=r1
 refine .dd hP (Gt aa) ?_
 conv=>cbv
 rcases ab:Gr (⟨Ae,Ag,Ah,Af,Ao,An⟩:Aa) r1 with⟨ac,ad⟩
 refine .dd hP (XfZ Aj Am At Ap hd ab) ?_
 conv=>cbv
 have e:ac=Dl (⟨Ae,Ag,Ah,Af,Ao,An⟩:Aa) base:=(by unfold Dl;rw[aa,ab])
 rw[hr]at e
 subst e
 exact hQ _ _ (.s rfl rfl)
theorem Y6{o:ByteArray}(Aj:Ae.map Bg=Bo)(Am:Ag.map Ac=Bl)(At:Ah.map Ac=Bj)(Ap:Af.map cS=Bn)(hd:okD ⟨Ae,Ag,Ah,Af,Ao,An⟩)(hr:Dl (⟨Ae,Ag,Ah,Af,Ao,An⟩:Aa) base=o):Fn Tryz.prog 99 [.agg [.d (.row 3 Bo),.d (.row 2 Bl),.d (.row 2 Bj),.d (.row 1 Bn),I Ao,I An],I base] [] ⟨S o,[],[]⟩:=by
 refine Fn.go F1 Tryz.func99 fun P hP Q hQ=>?_
 conv=>cbv
 generalize aa:As base=r1
 refine .dd hP (H1 aa) ?_
 conv=>cbv
 rcases ab:Gr (⟨Ae,Ag,Ah,Af,Ao,An⟩:Aa) r1 with⟨ac,ad⟩
 refine .dd hP (XgB Aj Am At Ap hd ab) ?_
 conv=>cbv
 have e:ac=Dl (⟨Ae,Ag,Ah,Af,Ao,An⟩:Aa) base:=(by unfold Dl;rw[aa,ab])
 rw[hr]at e
 subst e
 exact hQ _ _ (.s rfl rfl)
theorem XjF{o:Bool}(hs:b.size<2^47)(hr:Dy b base link=o):Fn Tryz.prog 200 [S b,I base,I link] [] ⟨B o,[],[]⟩:=by
 refine Fn.go F1 Tryz.func200 fun P hP Q hQ=>?_
 conv=>cbv
 rcases aa:Cm b with⟨⟨ab,ac,ad,ae⟩,af⟩
 refine .dd hP (Xq (by omega) aa) ?_
 conv=>cbv
 cases af
 conv=>cbv
 have e:false=Dy b base link:=(by unfold Dy;rw[aa];rfl)
 rw[hr]at e
 subst e
 exact hQ _ _ (.b rfl rfl)
 conv=>cbv
 refine .eql (fun h2=>?_) fun h2=>?_
 conv=>cbv
 refine .eql (fun h3=>?_) fun h3=>?_
 conv=>cbv
 have e:true=Dy b base link:=(by unfold Dy;rw[aa];simp[h2,h3])
 rw[hr]at e
 subst e
 exact hQ _ _ (.b rfl rfl)
 conv=>cbv
 have e:false=Dy b base link:=(by unfold Dy;rw[aa];simp[h2,h3])
 rw[hr]at e
 subst e
 exact hQ _ _ (.b rfl rfl)
 conv=>cbv
 have e:false=Dy b base link:=(by unfold Dy;rw[aa];simp[h2])
 rw[hr]at e
 subst e
 exact hQ _ _ (.b rfl rfl)
theorem Xgi(hb:r.size<2^40)(hr:Ie link r=o):Fn Tryz.prog 265 [I link,S r] [] ⟨I o,[],[]⟩:=by
 refine Fn.go F1 Tryz.func265 fun P hP Q hQ=>?_
 conv=>cbv
 refine .go fun v1 ac=>?_
 conv=>cbv
 generalize aa:Bd v1 4=r2
 have zr2:=Cj aa
 refine .dd hP (Fu (by omega) aa) ?_
 conv=>cbv
 refine .go fun s3 ad ae=>?_
 conv=>cbv
 generalize ab:Ge link s3=r4
 have zr4:=Pb ab
 refine .dd hP (XbQ (by omega) ab) ?_
 conv=>cbv
 have e:r4=Ie link r:=(by subst_vars;rfl)
 rw[hr]at e
 subst e
 exact hQ _ _ (.i rfl rfl)
theorem Xj5{o:Bool}(hs:b.size<2^47)(hr:Dy b base link=o):Fn Tryz.prog 184 [S b,I base,I link] [] ⟨B o,[],[]⟩:=by
 refine Fn.go F1 Tryz.func184 fun P hP Q hQ=>?_
 conv=>cbv
 rcases aa:Cm b with⟨⟨ab,ac,ad,ae⟩,af⟩
 refine .dd hP (Xi (by omega) aa) ?_
 conv=>cbv
 cases af
 conv=>cbv
 have e:false=Dy b base link:=(by unfold Dy;rw[aa];rfl)
 rw[hr]at e
 subst e
 exact hQ _ _ (.b rfl rfl)
 conv=>cbv
 refine .eql (fun h2=>?_) fun h2=>?_
 conv=>cbv
 refine .eql (fun h3=>?_) fun h3=>?_
 conv=>cbv
 have e:true=Dy b base link:=(by unfold Dy;rw[aa];simp[h2,h3])
 rw[hr]at e
 subst e
 exact hQ _ _ (.b rfl rfl)
 conv=>cbv
 have e:false=Dy b base link:=(by unfold Dy;rw[aa];simp[h2,h3])
 rw[hr]at e
 subst e
 exact hQ _ _ (.b rfl rfl)
 conv=>cbv
 have e:false=Dy b base link:=(by unfold Dy;rw[aa];simp[h2])
 rw[hr]at e
 subst e
 exact hQ _ _ (.b rfl rfl)
theorem Xgg(hb:r.size<2^40)(hr:Ie link r=o):Fn Tryz.prog 255 [I link,S r] [] ⟨I o,[],[]⟩:=by
 refine Fn.go F1 Tryz.func255 fun P hP Q hQ=>?_
 conv=>cbv
 refine .go fun v1 ac=>?_
 conv=>cbv
 generalize aa:Bd v1 4=r2
 have zr2:=Cj aa
 refine .dd hP (Fc (by omega) aa) ?_
 conv=>cbv
 refine .go fun s3 ad ae=>?_
 conv=>cbv
 generalize ab:Ge link s3=r4
 have zr4:=Pb ab
 refine .dd hP (Xcz (by omega) ab) ?_
 conv=>cbv
 have e:r4=Ie link r:=(by subst_vars;rfl)
 rw[hr]at e
 subst e
 exact hQ _ _ (.i rfl rfl)
theorem XhW{l:List ByteArray}{xl:List (List D)}(hl:l.map cS=xl)(hn:l.length<2^40)(hb:∀r∈l,r.size≤60)(hr:Gf link l=o):Fn Tryz.prog 201 [I link,.d (.row 1 xl)] [] ⟨I o,[],[]⟩:=by
 refine Fn.go F1 Tryz.func201 fun P hP Q hQ=>?_
 conv=>cbv
 refine .go hl fun v1 ad=>?_
 conv=>cbv
 refine LoopW.lp (κ:=Int×Int) F1 hP [] [7,8] (fun(i0,i9)=>[(0,I i0),(9,I i9)]) (fun(i0,i9)=>[])
  (fun(i0,i9)=>0≤i9∧i9≤l.length∧i0=Gf link (l.take i9.toNat))
  (fun(i0,i9)=>(l.length - i9).toNat) (link,0) ⟨by omega,by omega,rfl⟩ ⟨rfl,rfl,trivial⟩ rfl ?_
 rintro⟨i0,i9⟩ J ⟨h0,h1,hx⟩ hJ
 conv=>cbv
 refine .lss (fun h2=>?_) fun h2=>?_
 conv=>cbv
 refine .go i9.toNat hl fun aa e3 ab=>?_
 conv=>cbv
 have zb:=hb e3 (ab▸List.getElem_mem _)
 generalize ac:Ie i0 e3=r4
 refine .dd hP (Xgi (by omega) ac) ?_
 conv=>cbv
 refine .add fun v5 ae=>?_
 conv=>cbv
 exact .go [] (r4,v5) (hJ _ ⟨by omega,by omega,by rw[show v5.toNat=i9.toNat+1 by omega,List.take_succ_eq_append_getElem aa,Gf,List.foldl_append,←ab];show r4=Ie (Gf link (l.take i9.toNat)) e3;rw[←hx,ac]⟩ mlt)
 conv=>cbv
 have e:i0=Gf link l:=(by rw[hx,List.take_of_length_le (by omega)])
 rw[hr]at e
 subst e
 exact hQ _ _ (.i rfl rfl)
theorem V5{o:List ByteArray}(hs:b.size<2^47)(hr:Dk b=o)(ho:o.map cS=xo):Fn Tryz.prog 138 [S b] [] ⟨.d (.row 1 xo),[],[]⟩:=by
 refine Fn.go F1 Tryz.func138 fun P hP Q hQ=>?_
 conv=>cbv
 rcases ai:Bs b with⟨an,⟨ae,af,ag,ah⟩,ab,ad,al,am⟩
 generalize aa:ab.map cS=aj
 generalize ac:ad.map cI=ak
 refine .dd hP (Sk (by omega) ai aa ac) ?_
 conv=>cbv
 have e:ab=Dk b:=(by unfold Dk;rw[ai])
 rw[hr]at e
 subst e
 exact hQ _ _ (.d rfl (by rw[←aa,←ho]))
theorem XdZ(hs:b.size<2^40)(hr:Iq b=o):Fn Tryz.prog 185 [S b] [] ⟨I o,[],[]⟩:=by
 refine Fn.go F1 Tryz.func185 fun P hP Q hQ=>?_
 conv=>cbv
 rcases ae:Bs b with⟨aq,⟨ag,ah,ai,aa⟩,ab,af,ao,ap⟩
 generalize ac:ab.map cS=am
 generalize ad:af.map cI=an
 refine .dd hP (Sk (by omega) ae ac ad) ?_
 conv=>cbv
 refine LoopW.lp (κ:=Int×Int) F1 hP [] [3] (fun(i4,i5)=>[(4,I i4),(5,I i5)]) (fun(i4,i5)=>[])
  (fun(i4,i5)=>0≤i5∧i5≤ab.length∧i4=Gf aa (ab.take i5.toNat))
  (fun(i4,i5)=>(ab.length - i5).toNat) (aa,0) ⟨by omega,by omega,rfl⟩ ⟨rfl,rfl,trivial⟩ rfl ?_
 rintro⟨i4,i5⟩ J ⟨h0,h1,hx⟩ hJ
 have zs:=Xeu (b:=b)
 have zl:=Io (b:=b)
 rw[ae]at zs zl
 simp only[]at zs zl
 conv=>cbv
 refine .go ac fun v2 ar=>?_
 conv=>cbv
 refine .lss (fun h3=>?_) fun h3=>?_
 conv=>cbv
 refine .go i5.toNat ac fun aj e4 ak=>?_
 conv=>cbv
 have zb:=zs e4 (ak▸List.getElem_mem _)
 generalize al:Ie i4 e4=r5
 refine .dd hP (Xgg (by omega) al) ?_
 conv=>cbv
 refine .add fun v6 au=>?_
 conv=>cbv
 exact .go [] (r5,v6) (hJ _ ⟨by omega,by omega,by rw[show v6.toNat=i5.toNat+1 by omega,List.take_succ_eq_append_getElem aj,Gf,List.foldl_append,←ak];show r5=Ie (Gf aa (ab.take i5.toNat)) e4;rw[←hx,al]⟩ mlt)
 conv=>cbv
 have e:i4=Iq b:=(by unfold Iq;rw[ae,hx,List.take_of_length_le (by omega)])
 rw[hr]at e
 subst e
 exact hQ _ _ (.i rfl rfl)
theorem Xdq{o:List So}(Aj:Ae.map Bg=Bo)(Am:Ag.map Ac=Bl)(At:Ah.map Ac=Bj)(Ap:Af.map cS=Bn)(hd:okD ⟨Ae,Ag,Ah,Af,Ao,An⟩)(hr:Li (⟨Ae,Ag,Ah,Af,Ao,An⟩:Aa)=o)(ho:o.map Xg7=xo):Fn Tryz.prog 108 [.agg [.d (.row 3 Bo),.d (.row 2 Bl),.d (.row 2 Bj),.d (.row 1 Bn),I Ao,I An]] [] ⟨.d (.row 11 xo),[],[]⟩:=by
 refine Fn.go F1 Tryz.func108 fun P hP Q hQ=>?_
 conv=>cbv
 refine LoopW.lp (κ:=Int×Int×(List (List D))×Nat) F1 hP [2] [1] (fun(i4,i5,af,ac)=>[(3,.ref 3 0 ac),(4,I i4),(5,I i5)]) (fun(i4,i5,af,ac)=>[(3,.row 11 false af)])
  (fun(i4,i5,af,ac)=>∃(w3:List So),w3.map Xg7=af∧ac=w3.length∧(w3.length≤16∧0≤i4∧i4≤2000000000)∧Li (⟨Ae,Ag,Ah,Af,Ao,An⟩:Aa)=w3++Jl (⟨Ae,Ag,Ah,Af,Ao,An⟩:Aa) (16 - w3.length) i4 i5)
  (fun(i4,i5,af,ac)=>16 - ac) (0,0,[],0) ⟨[],rfl,rfl,by simp,rfl⟩ ⟨rfl,rfl,rfl,trivial⟩ rfl ?_
 rintro⟨i4,i5,af,ac⟩ J ⟨w3,ad,a8,hb,hI⟩ hJ
 conv=>cbv
 refine .go fun v1 bb=>?_
 conv=>cbv
 refine .lss (fun h2=>?_) fun h2=>?_
 conv=>cbv
 generalize ak:Dl (⟨Ae,Ag,Ah,Af,Ao,An⟩:Aa) i4=r3
 refine .dd hP (XjB Aj Am At Ap hd ak) ?_
 conv=>cbv
 have z3:=Ka hd ak
 rcases am:Bs r3 with⟨au,⟨ag,ah,ai,aj⟩,ab,al,ap,aq⟩
 generalize aa:ab.map cS=ax
 generalize ae:al.map cI=ay
 refine .dd hP (Xm (by omega) am aa ae) ?_
 conv=>cbv
 have zr:=Io (b:=r3)
 have zq:=Xeu (b:=r3)
 rw[am]at zr zq
 simp only[]at zr zq
 have rq:Dk r3=ab:=by unfold Dk;rw[am]
 generalize an:Dy r3 i4 i5=r5
 refine .dd hP (XjF (by omega) an) ?_
 cases r5
 conv=>cbv
 have e:w3=Li (⟨Ae,Ag,Ah,Af,Ao,An⟩:Aa):=(by rw[hI,Qu ak (.inl an),List.append_nil])
 rw[hr]at e
 subst e
 exact hQ _ _ (.r rfl rfl (by rw[←ad,List.length_map];first|omega|(simp;omega)) (by rw[←ad,←ho]))
 conv=>cbv
 refine .go aa fun v6 ar=>?_
 conv=>cbv
 refine .eql (fun h7=>?_) fun h7=>?_
 conv=>cbv
 have e:w3=Li (⟨Ae,Ag,Ah,Af,Ao,An⟩:Aa):=(by rw[hI,Qu ak (.inr (by rw[rq];exact List.eq_nil_of_length_eq_zero (by omega))),List.append_nil])
 rw[hr]at e
 subst e
 exact hQ _ _ (.r rfl rfl (by rw[←ad,List.length_map];first|omega|(simp;omega)) (by rw[←ad,←ho]))
 conv=>cbv
 have hg:=Wj an
 obtain⟨hh,g1,g2,g3,g4,g5⟩:=hg
 have hne:ab≠[]:=by intro e;rw[e]at ar;simp at ar;exact h7 ar
 refine .one (⟨i4,r3,⟨au,⟨ag,ah,ai,aj⟩,ab,al,ap,aq⟩⟩:So) ad (by rw[←aa,←ae];rfl) fun az z8 ba a1=>?_
 conv=>cbv
 refine .go aa fun v9 a2=>?_
 conv=>cbv
 refine .add fun a6 aw=>?_
 conv=>cbv
 generalize ao:Gf i5 ab=a7
 refine .dd hP (XhW aa (by omega) zq ao) ?_
 conv=>cbv
 exact .go [10] (a6,a7,z8,az) (hJ _ ⟨_,a1,Hg,by rw[List.length_append];simp;omega,by rw[hI,show 16 - w3.length=(15 - w3.length)+1 by omega,Wi ak an (by rw[rq];exact hne),List.append_assoc,am,List.length_append,rq,ao,←a2,←aw];simp only[List.length_singleton];rw[show 16 - (w3.length+1)=15 - w3.length by omega];rfl⟩ mlt)
 conv=>cbv
 have e:w3=Li (⟨Ae,Ag,Ah,Af,Ao,An⟩:Aa):=(by rw[hI,show 16 - w3.length=0 by omega];simp[Jl])
 rw[hr]at e
 subst e
 exact hQ _ _ (.r rfl rfl (by rw[←ad,List.length_map];first|omega|(simp;omega)) (by rw[←ad,←ho]))
theorem XdD{o:List Int}(Aj:Ae.map Bg=Bo)(Am:Ag.map Ac=Bl)(At:Ah.map Ac=Bj)(Ap:Af.map cS=Bn)(hd:okD ⟨Ae,Ag,Ah,Af,Ao,An⟩)(hr:Ex (⟨Ae,Ag,Ah,Af,Ao,An⟩:Aa)=o)(ho:o.map cI=xo):Fn Tryz.prog 98 [.agg [.d (.row 3 Bo),.d (.row 2 Bl),.d (.row 2 Bj),.d (.row 1 Bn),I Ao,I An]] [] ⟨.d (.row 1 xo),[],[]⟩:=by
 refine Fn.go F1 Tryz.func98 fun P hP Q hQ=>?_
 conv=>cbv
 refine LoopW.lp (κ:=Int×Int×(List (List D))×Nat) F1 hP [2] [1] (fun(i4,i5,ac,aa)=>[(3,.ref 3 0 aa),(4,I i4),(5,I i5)]) (fun(i4,i5,ac,aa)=>[(3,.row 1 false ac)])
  (fun(i4,i5,ac,aa)=>∃(w3:List Int),w3.map cI=ac∧aa=w3.length∧(w3.length≤16∧0≤i4∧i4≤2000000000)∧Ex (⟨Ae,Ag,Ah,Af,Ao,An⟩:Aa)=w3++(Jl (⟨Ae,Ag,Ah,Af,Ao,An⟩:Aa) (16 - w3.length) i4 i5).map (·.base_))
  (fun(i4,i5,ac,aa)=>16 - aa) (0,0,[],0) ⟨[],rfl,rfl,by simp,rfl⟩ ⟨rfl,rfl,rfl,trivial⟩ rfl ?_
 rintro⟨i4,i5,ac,aa⟩ J ⟨w3,ab,an,hb,hI⟩ hJ
 conv=>cbv
 refine .go fun v1 ap=>?_
 conv=>cbv
 refine .lss (fun h2=>?_) fun h2=>?_
 conv=>cbv
 generalize ae:Dl (⟨Ae,Ag,Ah,Af,Ao,An⟩:Aa) i4=r3
 refine .dd hP (Y6 Aj Am At Ap hd ae) ?_
 conv=>cbv
 have z3:=Ka hd ae
 generalize ad:Dk r3=l4
 generalize ah:l4.map cS=aq
 refine .dd hP (V5 (by omega) ad ah) ?_
 conv=>cbv
 refine .go ah fun v5 ag=>?_
 conv=>cbv
 refine .eql (fun h6=>?_) fun h6=>?_
 conv=>cbv
 have e:w3=Ex (⟨Ae,Ag,Ah,Af,Ao,An⟩:Aa):=(by rw[hI,Qu ae (.inr (by rw[ad];exact List.eq_nil_of_length_eq_zero (by omega)))];simp)
 rw[hr]at e
 subst e
 exact hQ _ _ (.r rfl rfl (by rw[←ab,List.length_map];first|omega|(simp;omega)) (by rw[←ab,←ho]))
 conv=>cbv
 generalize af:Dy r3 i4 i5=r7
 refine .dd hP (Xj5 (by omega) af) ?_
 cases r7
 conv=>cbv
 have e:w3=Ex (⟨Ae,Ag,Ah,Af,Ao,An⟩:Aa):=(by rw[hI,Qu ae (.inl af)];simp)
 rw[hr]at e
 subst e
 exact hQ _ _ (.r rfl rfl (by rw[←ab,List.length_map];first|omega|(simp;omega)) (by rw[←ab,←ho]))
 conv=>cbv
 have hg:=Wj af
 obtain⟨hh,g1,g2,g3,g4,g5⟩:=hg
 have hne:l4≠[]:=by intro e;rw[e]at ag;simp at ag;exact h6 ag
 have zr:=Io (b:=r3)
 have rq:(Bs r3).records_=l4:=ad
 rw[rq]at zr
 refine .one i4 ab rfl fun ak z8 ao al=>?_
 conv=>cbv
 generalize ai:Iq r3=r9
 refine .dd hP (XdZ (by omega) ai) ?_
 conv=>cbv
 refine .add fun am aj=>?_
 conv=>cbv
 exact .go [5] (am,r9,z8,ak) (hJ _ ⟨_,al,Hg,by rw[List.length_append];simp;omega,by rw[hI,show 16 - w3.length=(15 - w3.length)+1 by omega,Wi ae af (by rw[ad];exact hne),ad,List.map_cons,List.append_assoc,List.length_append,←Sn af ad,ai,←ag,←aj];simp only[List.length_singleton];rw[show 16 - (w3.length+1)=15 - w3.length by omega];rfl⟩ mlt)
 conv=>cbv
 have e:w3=Ex (⟨Ae,Ag,Ah,Af,Ao,An⟩:Aa):=(by rw[hI,show 16 - w3.length=0 by omega];simp[Jl])
 rw[hr]at e
 subst e
 exact hQ _ _ (.r rfl rfl (by rw[←ab,List.length_map];first|omega|(simp;omega)) (by rw[←ab,←ho]))
theorem Xlq{o:List ByteArray}(Aj:Ae.map Bg=Bo)(Am:Ag.map Ac=Bl)(At:Ah.map Ac=Bj)(Ap:Af.map cS=Bn)(hd:okD ⟨Ae,Ag,Ah,Af,Ao,An⟩)(hr:Pz (⟨Ae,Ag,Ah,Af,Ao,An⟩:Aa)=o)(ho:o.map cS=xo):Fn Tryz.prog 67 [.agg [.d (.row 3 Bo),.d (.row 2 Bl),.d (.row 2 Bj),.d (.row 1 Bn),I Ao,I An]] [] ⟨.d (.row 1 xo),[],[]⟩:=by
 refine Fn.go F1 Tryz.func67 fun P hP Q hQ=>?_
 conv=>cbv
 generalize ap:Li (⟨Ae,Ag,Ah,Af,Ao,An⟩:Aa)=l1
 generalize ar:l1.map Xg7=bd
 refine .dd hP (Xdq Aj Am At Ap hd ap ar) ?_
 conv=>cbv
 refine .go ar fun v2 be=>?_
 conv=>cbv
 refine LoopW.lp (κ:=Int×(List (List D))×Nat) F1 hP [2] [8,9] (fun(ae,am,an)=>[(3,.ref 3 0 an),(10,I ae)]) (fun(ae,am,an)=>[(3,.row 1 false am)])
  (fun(ae,am,an)=>∃(w3:List ByteArray),w3.map cS=am∧an=w3.length∧0≤ae∧ae≤l1.length∧w3.length≤1000000000*ae.toNat∧w3=(l1.take ae.toNat).flatMap fun x=>x.scan_.records_)
  (fun(ae,am,an)=>(l1.length - ae).toNat) (0,[],0) ⟨[],rfl,rfl,by omega,by omega,by simp,by simp⟩ ⟨rfl,rfl,trivial⟩ rfl ?_
 rintro⟨ae,am,an⟩ J ⟨w3,au,ba,h0,h1,hb,hw⟩ hJ
 have bb:=O4 ap
 conv=>cbv
 refine .lss (fun h3=>?_) fun h3=>?_
 conv=>cbv
 refine .goX ae.toNat ar fun az ⟨ao,ak,⟨aj,⟨aa,ab,ac,ad⟩,af,ag,ah,ai⟩⟩ fe4 a1 hfe4=>?_
 replace hfe4:[.sc (.int .i64 ao),.sc (.string ak),.sc (.bool aj),.sc (.int .i64 aa),.sc (.int .i64 ab),.sc (.int .i64 ac),.sc (.int .i64 ad),.row 1 (af.map cS),.row 1 (ag.map cI),.sc (.int .i64 ah),.sc (.bool ai)]=fe4:=hfe4
 generalize al:af.map cS=aw at hfe4
 generalize ax:ag.map cI=ay at hfe4
 subst hfe4
 conv=>cbv
 have hm:=Sf ap (x:=⟨ao,ak,⟨aj,⟨aa,ab,ac,ad⟩,af,ag,ah,ai⟩⟩) (by rw[a1];exact List.getElem_mem _)
 obtain⟨aq,a2,s9,a6⟩:=hm
 simp only[]at aq a2 a6
 have hz:=Ka hd aq.symm
 have zr:=Io (b:=ak)
 rw[aq,←a2]at zr
 simp only[]at zr
 rw[←aq]at zr
 refine .row au al fun a7 z5 bc a8=>?_
 conv=>cbv
 refine .add fun v6 bf=>?_
 conv=>cbv
 exact .go [7] (v6,z5,a7) (hJ _ ⟨_,a8,Hg,by omega,by omega,by rw[List.length_append,show v6.toNat=ae.toNat+1 by omega];omega,by rw[hw,show v6.toNat=ae.toNat+1 by omega,L0 az,←a1]⟩ mlt)
 conv=>cbv
 have e:w3=Pz (⟨Ae,Ag,Ah,Af,Ao,An⟩:Aa):=(by unfold Pz;rw[hw,ap,List.take_of_length_le (by omega)])
 rw[hr]at e
 subst e
 exact hQ _ _ (.r rfl rfl (by rw[←au,List.length_map];first|omega|(simp;omega)) (by rw[←au,←ho]))
theorem Xk8{o:List ByteArray}(Aj:Ae.map Bg=Bo)(Am:Ag.map Ac=Bl)(At:Ah.map Ac=Bj)(Ap:Af.map cS=Bn)(hd:okD ⟨Ae,Ag,Ah,Af,Ao,An⟩)(hr:Pz (⟨Ae,Ag,Ah,Af,Ao,An⟩:Aa)=o)(ho:o.map cS=xo):Fn Tryz.prog 58 [.agg [.d (.row 3 Bo),.d (.row 2 Bl),.d (.row 2 Bj),.d (.row 1 Bn),I Ao,I An]] [] ⟨.d (.row 1 xo),[],[]⟩:=by
 refine Fn.go F1 Tryz.func58 fun P hP Q hQ=>?_
 conv=>cbv
 generalize ac:Ex (⟨Ae,Ag,Ah,Af,Ao,An⟩:Aa)=l1
 generalize ad:l1.map cI=ap
 refine .dd hP (XdD Aj Am At Ap hd ac ad) ?_
 conv=>cbv
 refine LoopW.lp (κ:=Int×(List (List D))×Nat) F1 hP [2] [1,4] (fun(i5,aa,ab)=>[(3,.ref 3 0 ab),(5,I i5)]) (fun(i5,aa,ab)=>[(3,.row 1 false aa)])
  (fun(i5,aa,ab)=>∃(w3:List ByteArray),w3.map cS=aa∧ab=w3.length∧0≤i5∧i5≤l1.length∧w3.length≤1000000000*i5.toNat∧w3=(l1.take i5.toNat).flatMap fun b=>Dk (Dl (⟨Ae,Ag,Ah,Af,Ao,An⟩:Aa) b))
  (fun(i5,aa,ab)=>(l1.length - i5).toNat) (0,[],0) ⟨[],rfl,rfl,by omega,by omega,by simp,by simp⟩ ⟨rfl,rfl,trivial⟩ rfl ?_
 rintro⟨i5,aa,ab⟩ J ⟨w3,ae,am,h0,h1,hb,hw⟩ hJ
 have an:=J7 ac
 conv=>cbv
 refine .go ad fun v2 aq=>?_
 conv=>cbv
 refine .lss (fun h3=>?_) fun h3=>?_
 conv=>cbv
 refine .go i5.toNat ad fun ah e4 aj=>?_
 conv=>cbv
 generalize af:Dl (⟨Ae,Ag,Ah,Af,Ao,An⟩:Aa) e4=r5
 refine .dd hP (Y6 Aj Am At Ap hd af) ?_
 conv=>cbv
 have z5:=Ka hd af
 generalize ag:Dk r5=l6
 generalize ai:l6.map cS=ar
 refine .dd hP (V5 (by omega) ag ai) ?_
 conv=>cbv
 have zr:=Io (b:=r5)
 have rq:(Bs r5).records_=l6:=ag
 rw[rq]at zr
 refine .row ae ai fun ak z7 ao al=>?_
 conv=>cbv
 refine .add fun v8 au=>?_
 conv=>cbv
 exact .go [4] (v8,z7,ak) (hJ _ ⟨_,al,Hg,by omega,by omega,by rw[List.length_append,show v8.toNat=i5.toNat+1 by omega];omega,by rw[hw,show v8.toNat=i5.toNat+1 by omega,L0 ah,←aj,af,ag]⟩ mlt)
 conv=>cbv
 have e:w3=Pz (⟨Ae,Ag,Ah,Af,Ao,An⟩:Aa):=(by rw[Xdb,ac,hw,List.take_of_length_le (by omega)])
 rw[hr]at e
 subst e
 exact hQ _ _ (.r rfl rfl (by rw[←ae,List.length_map];first|omega|(simp;omega)) (by rw[←ae,←ho]))
end
section
open Go Go.Proofs
set_option maxRecDepth 20000
set_option maxHeartbeats 4000000
def XkK{α:Type}(f:α→Int)(l:List α):Int:=(l.map f).foldl (·+·) 0
theorem XaO{α:Type}{f:α→Int}{l:List α}{k:Nat}(h:k<l.length):XkK f (l.take (k+1))=XkK f (l.take k)+f l[k]:=by unfold XkK;rw[Z4 h,List.foldl_append];rfl
def I9{α:Type}[DecidableEq α](a b:List α):Bool:=decide (a=b)
end
section
open Go Go.Proofs
set_option maxRecDepth 20000
set_option maxHeartbeats 4000000
def XbL:List (Nat×TyRow):=[ty3,ty9,Xcn,XgK,XaP,Zr,Xai]
theorem Xck:B9 Tryz.prog XbL:=B9.of (by kernel_rfl)
theorem Pm:Setup Tryz.prog XbL:=⟨Xck,mixed⟩
def Xe0(l:List Int)(x:Int):Int:=Vd (fun y=>decide (y=x)) l
def Mi(l:List Int)(x:Int):Bool:=decide (x∈l)
def Nj(chain:List Int)(name:ByteArray):Bool:=decide ((Bu name).1=2∨((Bu name).1=1∧(Bu name).2∉chain))
def Ce(d:Aa):List ByteArray:=(d.entries_.map fun e=>e.name_).filter (Nj (Ex d))
def B0(name:ByteArray)(chain:List Int):Bool:=!Nj chain name
theorem Xit(name:ByteArray):(Bu name).1=0∨(Bu name).1=1∨(Bu name).1=2:=by
 unfold Bu
 split
 ·split
  ·exact .inr (.inl rfl)
  ·split
   ·exact .inr (.inr rfl)
   ·exact .inl rfl
 ·exact .inl rfl
variable {l:List Int} {xl:List (List D)} {x:Int} {o:Bool}
theorem Np{o:Int}(hl:l.map cI=xl)(hn:l.length<2^40)(hr:Xe0 l x=o):Fn Tryz.prog 283 [.d (.row 1 xl),I x] [] ⟨I o,[],[]⟩:=by
 refine Fn.go Pm Tryz.func283 fun P hP Q hQ=>?_
 conv=>cbv
 refine .go hl fun v1 ac=>?_
 conv=>cbv
 refine LoopW.lp (κ:=Int) Pm hP [] [0,1,7] (fun i8=>[(8,I i8)]) (fun i8=>[])
  (fun i8=>0≤i8∧i8≤l.length∧∀(j:Nat) (hj:j<l.length),j<i8.toNat→decide (l[j]=x)=false)
  (fun i8=>(l.length - i8).toNat) (0) ⟨by omega,by omega,fun j _ h=>by simp at h⟩ ⟨rfl,trivial⟩ rfl ?_
 rintro i8 J ⟨h0,h1,hb⟩ hJ
 conv=>cbv
 refine .lss (fun h2=>?_) fun h2=>?_
 conv=>cbv
 refine .go i8.toNat hl fun ab e3 aa=>?_
 conv=>cbv
 refine .eql (fun h4=>?_) fun h4=>?_
 conv=>cbv
 have e:i8=Xe0 l x:=(by exact Mu (p:=fun y=>decide (y=x)) h0 (by omega) (by rw[←aa];exact decide_eq_true h4.symm) hb)
 rw[hr]at e
 subst e
 exact hQ _ _ (.i rfl rfl)
 conv=>cbv
 refine .add fun v5 ad=>?_
 conv=>cbv
 exact .go [] (v5) (hJ _ ⟨by omega,by omega,fun j hj h=>if e:j=i8.toNat then by subst e;rw[←aa];exact decide_eq_false (Ne.symm h4)else hb j hj (by omega)⟩ mlt)
 conv=>cbv
 have e:(-1)=Xe0 l x:=(by exact Ib (p:=fun y=>decide (y=x)) fun j hj=>hb j hj (by omega))
 rw[hr]at e
 subst e
 exact hQ _ _ (.i rfl rfl)
theorem Lz(hl:l.map cI=xl)(hn:l.length<2^40)(hr:Mi l x=o):Fn Tryz.prog 220 [.d (.row 1 xl),I x] [] ⟨B o,[],[]⟩:=by
 refine Fn.go Pm Tryz.func220 fun P hP Q hQ=>?_
 conv=>cbv
 generalize aa:Xe0 l x=r1
 refine .dd hP (Np hl (by omega) aa) ?_
 conv=>cbv
 refine .geq (fun h2=>?_) fun h2=>?_
 conv=>cbv
 have e:true=Mi l x:=(by unfold Mi;symm;rw[decide_eq_true_eq];obtain⟨hi,hp⟩:=Um (p:=fun y=>decide (y=x)) aa h2;have hp:=of_decide_eq_true hp;rw[←hp];exact List.getElem_mem hi)
 rw[hr]at e
 subst e
 exact hQ _ _ (.b rfl rfl)
 conv=>cbv
 have e:false=Mi l x:=(by unfold Mi;symm;rw[decide_eq_false_iff_not];intro hm;have:=XdC (p:=fun y=>decide (y=x)) aa (by omega) x hm;simp at this)
 rw[hr]at e
 subst e
 exact hQ _ _ (.b rfl rfl)
theorem P5{name:ByteArray}{chain:List Int}{xchain:List (List D)}(hchain:chain.map cI=xchain)(hs:name.size≤1000000000)(hc:chain.length<2^40)(hr:B0 name chain=o):Fn Tryz.prog 321 [S name,.ptr 0 0 0] [.box 29 [.d (.row 1 xchain)]] ⟨B o,[],[]⟩:=by
 refine Fn.goR Pm Tryz.func321 fun P hP Q hQ=>?_
 conv=>cbv
 rcases aa:Bu name with⟨ad,ac⟩
 refine .dd hP (X9 (by omega) aa) ?_
 conv=>cbv
 refine .eql (fun h2=>?_) fun h2=>?_
 conv=>cbv
 have e:true=B0 name chain:=(by unfold B0 Nj;rw[aa];dsimp only;rw[decide_eq_false (by omega)];rfl)
 rw[hr]at e
 subst e
 exact hQ _ _ (.of [] (.inl rfl) rfl rfl rfl rfl)
 conv=>cbv
 refine .eql (fun h3=>?_) fun h3=>?_
 conv=>cbv
 generalize ab:Mi chain ac=r4
 refine .dd hP (Lz hchain (by omega) ab) ?_
 cases r4
 conv=>cbv
 have e:false=B0 name chain:=(by unfold B0 Nj;rw[aa];dsimp only;rw[decide_eq_true (.inr ⟨h3,of_decide_eq_false ab⟩)];rfl)
 rw[hr]at e
 subst e
 exact hQ _ _ (.of [] (.inl rfl) rfl rfl rfl rfl)
 conv=>cbv
 have e:true=B0 name chain:=(by unfold B0 Nj;rw[aa];dsimp only;rw[decide_eq_false (by rintro(h|⟨_,h⟩);omega;exact h (of_decide_eq_true ab))];rfl)
 rw[hr]at e
 subst e
 exact hQ _ _ (.of [] (.inl rfl) rfl rfl rfl rfl)
 conv=>cbv
 have e:false=B0 name chain:=(by have hk:=Xit name;rw[aa]at hk;dsimp only at hk;unfold B0 Nj;rw[aa];dsimp only;rw[decide_eq_true (.inl (by omega))];rfl)
 rw[hr]at e
 subst e
 exact hQ _ _ (.of [] (.inl rfl) rfl rfl rfl rfl)
theorem XbS{Ae:List Bk}{Bo:List (List D)}{Ag:List Ad}{Bl:List (List D)}{Ah:List Ad}{Bj:List (List D)}{Af:List ByteArray}{Bn:List (List D)}{Ao:Int}{An:Int}{o:List ByteArray}{xo:List (List D)}(Aj:Ae.map Bg=Bo)(Am:Ag.map Ac=Bl)(At:Ah.map Ac=Bj)(Ap:Af.map cS=Bn)(hd:okD ⟨Ae,Ag,Ah,Af,Ao,An⟩)(hr:Ce (⟨Ae,Ag,Ah,Af,Ao,An⟩:Aa)=o)(ho:o.map cS=xo):Fn Tryz.prog 209 [.agg [.d (.row 3 Bo),.d (.row 2 Bl),.d (.row 2 Bj),.d (.row 1 Bn),I Ao,I An]] [] ⟨.d (.row 1 xo),[],[]⟩:=by
 refine Fn.go Pm Tryz.func209 fun P hP Q hQ=>?_
 conv=>cbv
 have bf:Ag.length≤1000000000:=hd.2.2.1
 have aw:∀e∈Ag,e.name_.size≤1000000000:=hd.2.2.2.1
 generalize ao:Ex (⟨Ae,Ag,Ah,Af,Ao,An⟩:Aa)=l1
 generalize ap:l1.map cI=bg
 refine .dd hP (XdD Aj Am At Ap hd ao ap) ?_
 conv=>cbv
 refine LoopW.lp (κ:=Int×(List (List D))×Nat) Pm hP [2] [1,4] (fun(i5,ag,ah)=>[(3,.ref 3 0 ah),(5,I i5)]) (fun(i5,ag,ah)=>[(3,.row 1 false ag)])
  (fun(i5,ag,ah)=>∃(w3:List ByteArray),w3.map cS=ag∧ah=w3.length∧0≤i5∧i5≤Ag.length∧w3=((Ag.take i5.toNat).map fun e=>e.name_).filter (Nj l1)∧w3.length≤i5.toNat)
  (fun(i5,ag,ah)=>Ag.length - i5.toNat) (0,[],0) ⟨[],rfl,rfl,by omega,by omega,rfl,by simp⟩ ⟨rfl,rfl,trivial⟩ rfl ?_
 rintro⟨i5,ag,ah⟩ J ⟨w3,aj,a6,h0,hle,hw,hwl⟩ hJ
 conv=>cbv
 refine .go Am fun v2 bh=>?_
 conv=>cbv
 refine .lss (fun h3=>?_) fun h3=>?_
 conv=>cbv
 refine .go i5.toNat Am fun ai ⟨aa,a7⟩ ac=>?_
 conv=>cbv
 have hsz4:aa.size≤1000000000:=by have:=aw _ (List.getElem_mem ai);rw[←ac]at this;exact this
 have hle1:=J7 ao
 rcases aq:Bu aa with⟨ab,ak⟩
 refine .dd hP (Tc (by omega) aq) ?_
 conv=>cbv
 have hl:Nj l1 aa=decide (ab=2∨(ab=1∧ak∉l1)):=by unfold Nj;rw[aq]
 refine .eql (fun h6=>?_) fun h6=>?_
 conv=>cbv
 refine .go i5.toNat Am fun a8 ⟨ae,ba⟩ am=>?_
 conv=>cbv
 refine .one ae aj rfl fun ax z8 bb ay=>?_
 conv=>cbv
 refine .add fun v9 az=>?_
 conv=>cbv
 exact .go [5] (v9,z8,ax) (hJ _ ⟨_,ay,Hg,by omega,by omega,by(first|rw[show v9.toNat=i5.toNat+1 by omega]|rw[show al.toNat=i5.toNat+1 by omega]|rw[show v8.toNat=i5.toNat+1 by omega]);rw[hw,List.take_succ_eq_append_getElem ai,List.map_append,List.filter_append,←ac];simp only[List.map_cons,List.map_nil,List.filter_cons,List.filter_nil,hl];first|(guard_hyp h6:ab=2;rw[decide_eq_true (.inl h6)];try rw[if_pos rfl,show ae=aa from congrArg Ad.name_ (am.trans ac.symm)])|(guard_hyp h7:ab=1;guard_hyp ad:Lm l1 ak=false;rw[decide_eq_true (.inr ⟨h7,of_decide_eq_false ad⟩),if_pos rfl,show af=aa from congrArg Ad.name_ (an.trans ac.symm)])|(guard_hyp h7:ab=1;rw[decide_eq_false (by rintro(h|⟨_,h⟩);exact h6 h;exact h (of_decide_eq_true ad))];simp)|(rw[decide_eq_false (by rintro(h|⟨h,_⟩);exact h6 h;exact h7 h)];simp),by first|omega|(rw[List.length_append,List.length_singleton];omega)⟩ mlt)
 conv=>cbv
 refine .eql (fun h7=>?_) fun h7=>?_
 conv=>cbv
 generalize ad:Lm l1 ak=r8
 refine .dd hP (XjL ap (by omega) ad) ?_
 cases r8
 conv=>cbv
 refine .go i5.toNat Am fun bc ⟨af,bd⟩ an=>?_
 conv=>cbv
 refine .one af aj rfl fun ar a1 a2 au=>?_
 conv=>cbv
 refine .add fun al be=>?_
 conv=>cbv
 exact .go [5] (al,a1,ar) (hJ _ ⟨_,au,Hg,by omega,by omega,by(first|rw[show v9.toNat=i5.toNat+1 by omega]|rw[show al.toNat=i5.toNat+1 by omega]|rw[show v8.toNat=i5.toNat+1 by omega]);rw[hw,List.take_succ_eq_append_getElem ai,List.map_append,List.filter_append,←ac];simp only[List.map_cons,List.map_nil,List.filter_cons,List.filter_nil,hl];first|(guard_hyp h6:ab=2;rw[decide_eq_true (.inl h6)];try rw[if_pos rfl,show ae=aa from congrArg Ad.name_ (am.trans ac.symm)])|(guard_hyp h7:ab=1;guard_hyp ad:Lm l1 ak=false;rw[decide_eq_true (.inr ⟨h7,of_decide_eq_false ad⟩),if_pos rfl,show af=aa from congrArg Ad.name_ (an.trans ac.symm)])|(guard_hyp h7:ab=1;rw[decide_eq_false (by rintro(h|⟨_,h⟩);exact h6 h;exact h (of_decide_eq_true ad))];simp)|(rw[decide_eq_false (by rintro(h|⟨h,_⟩);exact h6 h;exact h7 h)];simp),by first|omega|(rw[List.length_append,List.length_singleton];omega)⟩ mlt)
 conv=>cbv
 refine .add fun v9 az=>?_
 conv=>cbv
 exact .go [3] (v9,ag,ah) (hJ _ ⟨_,aj,Hg,by omega,by omega,by(first|rw[show v9.toNat=i5.toNat+1 by omega]|rw[show al.toNat=i5.toNat+1 by omega]|rw[show v8.toNat=i5.toNat+1 by omega]);rw[hw,List.take_succ_eq_append_getElem ai,List.map_append,List.filter_append,←ac];simp only[List.map_cons,List.map_nil,List.filter_cons,List.filter_nil,hl];first|(guard_hyp h6:ab=2;rw[decide_eq_true (.inl h6)];try rw[if_pos rfl,show ae=aa from congrArg Ad.name_ (am.trans ac.symm)])|(guard_hyp h7:ab=1;guard_hyp ad:Lm l1 ak=false;rw[decide_eq_true (.inr ⟨h7,of_decide_eq_false ad⟩),if_pos rfl,show af=aa from congrArg Ad.name_ (an.trans ac.symm)])|(guard_hyp h7:ab=1;rw[decide_eq_false (by rintro(h|⟨_,h⟩);exact h6 h;exact h (of_decide_eq_true ad))];simp)|(rw[decide_eq_false (by rintro(h|⟨h,_⟩);exact h6 h;exact h7 h)];simp),by first|omega|(rw[List.length_append,List.length_singleton];omega)⟩ mlt)
 conv=>cbv
 refine .add fun v8 bi=>?_
 conv=>cbv
 exact .go [3] (v8,ag,ah) (hJ _ ⟨_,aj,Hg,by omega,by omega,by(first|rw[show v9.toNat=i5.toNat+1 by omega]|rw[show al.toNat=i5.toNat+1 by omega]|rw[show v8.toNat=i5.toNat+1 by omega]);rw[hw,List.take_succ_eq_append_getElem ai,List.map_append,List.filter_append,←ac];simp only[List.map_cons,List.map_nil,List.filter_cons,List.filter_nil,hl];first|(guard_hyp h6:ab=2;rw[decide_eq_true (.inl h6)];try rw[if_pos rfl,show ae=aa from congrArg Ad.name_ (am.trans ac.symm)])|(guard_hyp h7:ab=1;guard_hyp ad:Lm l1 ak=false;rw[decide_eq_true (.inr ⟨h7,of_decide_eq_false ad⟩),if_pos rfl,show af=aa from congrArg Ad.name_ (an.trans ac.symm)])|(guard_hyp h7:ab=1;rw[decide_eq_false (by rintro(h|⟨_,h⟩);exact h6 h;exact h (of_decide_eq_true ad))];simp)|(rw[decide_eq_false (by rintro(h|⟨h,_⟩);exact h6 h;exact h7 h)];simp),by first|omega|(rw[List.length_append,List.length_singleton];omega)⟩ mlt)
 conv=>cbv
 have e:w3=Ce (⟨Ae,Ag,Ah,Af,Ao,An⟩:Aa):=(by unfold Ce;rw[ao,hw,List.take_of_length_le (by omega)])
 rw[hr]at e
 subst e
 exact hQ _ _ (.r rfl rfl (by rw[←aj,List.length_map];first|omega|(simp;omega)) (by rw[←aj,←ho]))
end
section
open Go Go.Proofs
set_option maxRecDepth 20000
set_option maxHeartbeats 4000000
def XaS:List (Nat×TyRow):=[ty3,ty9,Xcn,XgK,XaP,Zr,XkY,Xk7,Xai]
theorem XbU:B9 Tryz.prog XaS:=B9.of (by kernel_rfl)
theorem Jy:Setup Tryz.prog XaS:=⟨XbU,mixed⟩
theorem Xiu{α:Type}{p:α→Bool}{l:List α}{i:Int}(e:Vd p l=i)(h:i≠-1):0≤i∧i<l.length∧l.take i.toNat=(l.take (i+1).toNat).filter (fun x=>!p x):=by
 have hb:=XeX e
 have h0:0≤i:=by omega
 obtain⟨hi,hp⟩:=Um e h0
 refine⟨h0,hb.2,?_⟩
 rw[show(i+1).toNat=i.toNat+1 by omega,List.take_succ_eq_append_getElem hi,List.filter_append]
 have h1:(l.take i.toNat).filter (fun x=>!p x)=l.take i.toNat:=by
  rw[List.filter_eq_self]
  intro x hx
  obtain⟨j,hj,rfl⟩:=List.getElem_of_mem hx
  have aa:j<i.toNat:=by have:=hj;rw[List.length_take]at this;omega
  rw[List.getElem_take]
  have e2:l.findIdx p=i.toNat:=by
   unfold Vd at e
   split at e<;>omega
  have:=List.not_of_lt_findIdx (p:=p) (xs:=l) (i:=j) (by omega)
  simpa using this
 rw[h1]
 simp[hp]
theorem Xiy{α:Type}{p:α→Bool}{l w:List α}{i j:Nat}(hj:j<l.length)(hij:i<j)(hl:w.length=l.length)(h1:w.take i=(l.take j).filter (fun x=>!p x))(h2:w.drop j=l.drop j)(hp:p l[j]=false):
  (w.set i l[j]).take (i+1)=(l.take (j+1)).filter (fun x=>!p x)∧(w.set i l[j]).drop (j+1)=l.drop (j+1):=by
 constructor
 ·rw[List.take_succ_eq_append_getElem (by rw[List.length_set];omega),List.take_set_of_le (Nat.le_refl i),h1,List.take_succ_eq_append_getElem hj,List.filter_append]
  simp[hp]
 ·rw[List.drop_set_of_lt (by omega),←List.drop_drop,←List.drop_drop,h2]
theorem Xhd{α:Type}{p:α→Bool}{l w:List α}{i j:Nat}(hj:j<l.length)(h1:w.take i=(l.take j).filter (fun x=>!p x))(h2:w.drop j=l.drop j)(hp:p l[j]=true):
  w.take i=(l.take (j+1)).filter (fun x=>!p x)∧w.drop (j+1)=l.drop (j+1):=by
 constructor
 ·rw[List.take_succ_eq_append_getElem hj,List.filter_append,h1]
  simp[hp]
 ·rw[←List.drop_drop,←List.drop_drop,h2]
theorem XlW{α:Type}{l w:List α}{j:Nat}(hj:j<w.length)(aa:j<l.length)(h2:w.drop j=l.drop j):w[j]=l[j]:=by
 have:=congrArg (·[0]?) h2
 simpa[hj,aa]using this
theorem Xki{α:Type}{c:α→List D}{w o:List α}{z:α}{i n:Nat}{x:List (List D)}(hn:n=w.length - i)(hi:i≤w.length)(ho:w.take i=o)(h:(w.take i++(List.replicate n z++w.drop (i+n))).map c=x):i=o.length∧(o++List.replicate (w.length - o.length) z).map c=x:=by
 have h1:i=o.length:=by rw[←ho,List.length_take];omega
 refine⟨h1,?_⟩
 rw[←h,ho,List.drop_of_length_le (by omega),List.append_nil,hn,h1]
def En(l:List ByteArray)(chain:List Int):Int:=Vd (fun x=>B0 x chain) l
variable {l o Af:List ByteArray} {xl xchain Bo Bl Bj Bn xo:List (List D)} {nl no:Nat} {chain:List Int} {Ae:List Bk} {Ag Ah:List Ad} {Ao An:Int}
theorem Mk{o:Int}(hl:l.map cS=xl)(hnl:nl=l.length)(hchain:chain.map cI=xchain)(hn:l.length<2^40)(hc:chain.length<2^40)(hel:∀x∈l,x.size≤1000000000)(hr:En l chain=o):Fn Tryz.prog 318 [.ref 0 0 nl,.clo 321 [.ptr 1 0 0]] [.row 1 false xl,.box 29 [.d (.row 1 xchain)]] ⟨I o,[],[]⟩:=by
 refine Fn.goR Jy Tryz.func318 fun P hP Q hQ=>?_
 conv=>cbv
 refine .go fun v1 af=>?_
 conv=>cbv
 refine LoopW.lp (κ:=Int) Jy hP [] [0,1,7] (fun i8=>[(8,I i8)]) (fun i8=>[])
  (fun i8=>0≤i8∧i8≤l.length∧∀(j:Nat) (hj:j<l.length),j<i8.toNat→B0 l[j] chain=false)
  (fun i8=>(l.length - i8).toNat) (0) ⟨by omega,by omega,fun j _ h=>by simp at h⟩ ⟨rfl,trivial⟩ rfl ?_
 rintro i8 J ⟨h0,h1,hb⟩ hJ
 conv=>cbv
 refine .lss (fun h2=>?_) fun h2=>?_
 conv=>cbv
 refine .go i8.toNat fun p3 ac ad=>?_
 conv=>cbv
 refine .go hl fun ae e4 aa=>?_
 conv=>cbv
 subst ac
 generalize ab:B0 e4 chain=r5
 refine .bx [1] [] hP (P5 hchain (hel e4 (aa▸List.getElem_mem _)) hc ab) rfl rfl rfl rfl ?_
 cases r5
 conv=>cbv
 refine .add fun v6 ag=>?_
 conv=>cbv
 exact .go [] (v6) (hJ _ ⟨by omega,by omega,fun j hj h=>if e:j=i8.toNat then by subst e;rw[←aa];exact ab else hb j hj (by omega)⟩ mlt)
 conv=>cbv
 have e:i8=En l chain:=(by exact Mu (p:=fun x=>B0 x chain) h0 (by omega) (by rw[←aa];exact ab) hb)
 rw[hr]at e
 subst e
 exact hQ _ _ (.of [] (.inl rfl) rfl rfl rfl rfl)
 conv=>cbv
 have e:(-1)=En l chain:=(by exact Ib (p:=fun x=>B0 x chain) fun j hj=>hb j hj (by omega))
 rw[hr]at e
 subst e
 exact hQ _ _ (.of [] (.inl rfl) rfl rfl rfl rfl)
def Eb(l:List ByteArray)(chain:List Int):List ByteArray:=l.filter (fun x=>!B0 x chain)
theorem L3{xf:List (List D)}(hl:l.map cS=xl)(hnl:nl=l.length)(hchain:chain.map cI=xchain)(hn:l.length<2^40)(hc:chain.length<2^40)(hel:∀x∈l,x.size≤1000000000)(hr:Eb l chain=o)(hf:(o++List.replicate (l.length - o.length) (tx [])).map cS=xf)(hno:no=o.length):Fn Tryz.prog 320 [.ref 0 0 nl,.clo 321 [.ptr 1 0 0]] [.row 1 false xl,.box 29 [.d (.row 1 xchain)]] ⟨.ref 0 0 no,[],[(0,.row 1 false xf)]⟩:=by
 refine Fn.goR Jy Tryz.func320 fun P hP Q hQ=>?_
 conv=>cbv
 generalize ad:En l chain=r1
 refine .bx [0,1] [] hP (Mk hl (by first|rfl|omega|(simp;omega)) hchain hn hc hel ad) rfl rfl rfl rfl ?_
 conv=>cbv
 refine .eql (fun h2=>?_) fun h2=>?_
 conv=>cbv
 have e:l=o:=by rw[←hr];unfold Eb;symm;rw[List.filter_eq_self];intro x hx;rw[XdC (p:=fun x=>B0 x chain) ad (by omega) x hx];rfl
 subst e
 obtain rfl:xl=xf:=by rw[←hl,←hf];simp
 obtain rfl:nl=no:=by omega
 exact hQ _ _ (.of [] (.inl rfl) rfl rfl rfl rfl)
 conv=>cbv
 have hd:=Xiu (p:=fun x=>B0 x chain) ad h2
 refine .add fun v3 aj=>?_
 conv=>cbv
 refine LoopW.lp (κ:=Int×Int×(List (List D))) Jy hP [] [0,1] (fun(i5,i6,aa)=>[(5,I i5),(6,I i6)]) (fun(i5,i6,aa)=>[(0,.row 1 false aa)])
  (fun(i5,i6,aa)=>∃(w0:List ByteArray),w0.map cS=aa∧(0≤i5∧i5<i6∧i6≤l.length)∧w0.length=l.length∧w0.take i5.toNat=(l.take i6.toNat).filter (fun x=>!B0 x chain)∧w0.drop i6.toNat=l.drop i6.toNat)
  (fun(i5,i6,aa)=>(l.length - i6).toNat) (r1,v3,xl) ⟨l,hl,by omega,rfl,by rw[hd.2.2,aj],rfl⟩ ⟨rfl,rfl,trivial⟩ rfl ?_
 rintro⟨i5,i6,aa⟩ J ⟨w0,ab,hb,hwl,hwt,hwd⟩ hJ
 conv=>cbv
 refine .go fun v4 aw=>?_
 conv=>cbv
 refine .lss (fun h5=>?_) fun h5=>?_
 conv=>cbv
 refine .go i6.toNat fun p6 ak ap=>?_
 conv=>cbv
 refine .go ab fun ag e7 al=>?_
 conv=>cbv
 subst ak
 have ac:e7=l[i6.toNat]:=al.trans (XlW ag (by omega) hwd)
 generalize ae:B0 e7 chain=r8
 refine .bx [1] [] hP (P5 hchain (hel e7 (by rw[ac];exact List.getElem_mem _)) hc ae) rfl rfl rfl rfl ?_
 cases r8
 conv=>cbv
 refine .go i5.toNat fun p9 am aq=>?_
 conv=>cbv
 refine .all (e7) ab rfl fun an ah=>?_
 conv=>cbv
 refine .add fun ai ar=>?_
 conv=>cbv
 refine .add fun af au=>?_
 conv=>cbv
 have hk:=Xiy (i:=i5.toNat) (p:=fun x=>B0 x chain) (show i6.toNat<l.length by omega) (by omega) hwl hwt hwd (by rw[←ac];exact ae)
 rw[←ac]at hk
 subst am
 exact .go [] (ai,af,an) (hJ _ ⟨_,ah,by omega,by rw[List.length_set];exact hwl,by rw[show ai.toNat=i5.toNat+1 by omega,show af.toNat=i6.toNat+1 by omega];exact hk.1,by rw[show af.toNat=i6.toNat+1 by omega];exact hk.2⟩ mlt)
 conv=>cbv
 refine .add fun v9 ax=>?_
 conv=>cbv
 have hk:=Xhd (p:=fun x=>B0 x chain) (show i6.toNat<l.length by omega) hwt hwd (by rw[←ac];exact ae)
 exact .go [] (i5,v9,aa) (hJ _ ⟨_,ab,by omega,hwl,by rw[show v9.toNat=i6.toNat+1 by omega];exact hk.1,by rw[show v9.toNat=i6.toNat+1 by omega];exact hk.2⟩ mlt)
 conv=>cbv
 refine .lo fun on6 n6 hon6 ay=>?_
 conv=>cbv
 refine .go (tx []) hP ab Tryz.underlying26 (by kernel_rfl) rfl fun z7 ao=>?_
 conv=>cbv
 refine .hi fun on8 n8 hon8 az=>?_
 conv=>cbv
 have e:w0.take on6=o:=by rw[hon6,Nat.zero_add,hwt,List.take_of_length_le (by omega),←hr];rfl
 obtain⟨e1,e2⟩:=Xki (by omega) (by omega) e ao
 rw[hwl,hf]at e2
 subst e2
 obtain rfl:n8=no:=by omega
 subst hon8
 exact hQ _ _ (.of [] (.inl rfl) rfl rfl rfl rfl)
def Pi(d:Aa):List ByteArray:=d.entries_.map fun e=>e.name_
theorem Xlp{o:List Int}(Aj:Ae.map Bg=Bo)(Am:Ag.map Ac=Bl)(At:Ah.map Ac=Bj)(Ap:Af.map cS=Bn)(hd:okD ⟨Ae,Ag,Ah,Af,Ao,An⟩)(hr:Ex (⟨Ae,Ag,Ah,Af,Ao,An⟩:Aa)=o)(ho:o.map cI=xo):Fn Tryz.prog 150 [.agg [.d (.row 3 Bo),.d (.row 2 Bl),.d (.row 2 Bj),.d (.row 1 Bn),I Ao,I An]] [] ⟨.d (.row 1 xo),[],[]⟩:=by
 refine Fn.go Jy Tryz.func150 fun P hP Q hQ=>?_
 conv=>cbv
 generalize an:Li (⟨Ae,Ag,Ah,Af,Ao,An⟩:Aa)=l1
 generalize ao:l1.map Xg7=ba
 refine .dd hP (Xdq Aj Am At Ap hd an ao) ?_
 conv=>cbv
 refine .go ao fun v2 bb=>?_
 conv=>cbv
 refine LoopW.lp (κ:=Int×(List (List D))×Nat) Jy hP [2] [8,9] (fun(aa,ah,ai)=>[(3,.ref 3 0 ai),(10,I aa)]) (fun(aa,ah,ai)=>[(3,.row 1 false ah)])
  (fun(aa,ah,ai)=>∃(w3:List Int),w3.map cI=ah∧ai=w3.length∧0≤aa∧aa≤l1.length∧w3=(l1.take aa.toNat).map fun x=>x.base_)
  (fun(aa,ah,ai)=>(l1.length - aa).toNat) (0,[],0) ⟨[],rfl,rfl,by omega,by omega,by simp⟩ ⟨rfl,rfl,trivial⟩ rfl ?_
 rintro⟨aa,ah,ai⟩ J ⟨w3,ap,a6,h0,h1,hw⟩ hJ
 have a7:=O4 an
 have hwl:w3.length=aa.toNat:=by rw[hw,List.length_map,List.length_take];omega
 conv=>cbv
 refine .lss (fun h3=>?_) fun h3=>?_
 conv=>cbv
 refine .goX aa.toNat ao fun ay ⟨al,aq,⟨am,⟨ad,ae,af,ag⟩,ab,ac,aj,ak⟩⟩ fe4 az hfe4=>?_
 replace hfe4:[.sc (.int .i64 al),.sc (.string aq),.sc (.bool am),.sc (.int .i64 ad),.sc (.int .i64 ae),.sc (.int .i64 af),.sc (.int .i64 ag),.row 1 (ab.map cS),.row 1 (ac.map cI),.sc (.int .i64 aj),.sc (.bool ak)]=fe4:=hfe4
 generalize ar:ab.map cS=au at hfe4
 generalize aw:ac.map cI=ax at hfe4
 subst hfe4
 conv=>cbv
 refine .one al ap rfl fun a1 z5 a8 a2=>?_
 conv=>cbv
 refine .add fun v6 bc=>?_
 conv=>cbv
 exact .go [8] (v6,z5,a1) (hJ _ ⟨_,a2,Hg,by omega,by omega,by rw[hw,show v6.toNat=aa.toNat+1 by omega,Z4 ay,←az]⟩ mlt)
 conv=>cbv
 have e:w3=Ex (⟨Ae,Ag,Ah,Af,Ao,An⟩:Aa):=(by unfold Ex;rw[an,hw,List.take_of_length_le (by omega)])
 rw[hr]at e
 subst e
 exact hQ _ _ (.r rfl rfl (by rw[←ap,List.length_map];first|omega|(simp;omega)) (by rw[←ap,←ho]))
theorem XbG(Aj:Ae.map Bg=Bo)(Am:Ag.map Ac=Bl)(At:Ah.map Ac=Bj)(Ap:Af.map cS=Bn)(am:Ag.length≤1000000000)(hr:Pi (⟨Ae,Ag,Ah,Af,Ao,An⟩:Aa)=o)(ho:o.map cS=xo)(hno:no=o.length):Fn Tryz.prog 146 [.agg [.d (.row 3 Bo),.d (.row 2 Bl),.d (.row 2 Bj),.d (.row 1 Bn),I Ao,I An]] [] ⟨.ref 0 0 no,[.row 1 false xo],[]⟩:=by
 refine Fn.goR Jy Tryz.func146 fun P hP Q hQ=>?_
 conv=>cbv
 refine .go Am fun v1 an=>?_
 conv=>cbv
 refine LoopW.lp (κ:=Int×(List (List D))×Nat) Jy hP [2] [8,9] (fun(aa,ab,ac)=>[(3,.ref 3 0 ac),(10,I aa)]) (fun(aa,ab,ac)=>[(3,.row 1 false ab)])
  (fun(aa,ab,ac)=>∃(w3:List ByteArray),w3.map cS=ab∧ac=w3.length∧0≤aa∧aa≤Ag.length∧w3=(Ag.take aa.toNat).map (fun e=>e.name_)∧w3.length=aa.toNat)
  (fun(aa,ab,ac)=>Ag.length - aa.toNat) (0,[],0) ⟨[],rfl,rfl,by omega,by omega,rfl,rfl⟩ ⟨rfl,rfl,trivial⟩ rfl ?_
 rintro⟨aa,ab,ac⟩ J ⟨w3,ae,aj,h0,hle,hw,hwl⟩ hJ
 conv=>cbv
 refine .lss (fun h2=>?_) fun h2=>?_
 conv=>cbv
 refine .go aa.toNat Am fun af ⟨ad,ak⟩ ag=>?_
 conv=>cbv
 refine .one ad ae rfl fun ah z4 al ai=>?_
 conv=>cbv
 refine .add fun v5 ao=>?_
 conv=>cbv
 exact .go [6] (v5,z4,ah) (hJ _ ⟨_,ai,Hg,by omega,by omega,by rw[hw,show v5.toNat=aa.toNat+1 by omega,List.take_succ_eq_append_getElem af,List.map_append,←ag];rfl,by rw[List.length_append,hwl];simp;omega⟩ mlt)
 conv=>cbv
 have e:w3=Pi (⟨Ae,Ag,Ah,Af,Ao,An⟩:Aa):=(by unfold Pi;rw[hw,List.take_of_length_le (by omega)])
 rw[hr]at e
 subst e
 obtain rfl:ab=xo:=by rw[←ae,←ho]
 obtain rfl:ac=no:=by first|omega|(rw[hno];simp;done)|(rw[hno];simp;omega)
 exact hQ _ _ (.of [3] (.inl rfl) rfl rfl rfl rfl)
theorem XaZ(Aj:Ae.map Bg=Bo)(Am:Ag.map Ac=Bl)(At:Ah.map Ac=Bj)(Ap:Af.map cS=Bn)(hd:okD ⟨Ae,Ag,Ah,Af,Ao,An⟩)(hr:Ce (⟨Ae,Ag,Ah,Af,Ao,An⟩:Aa)=o)(ho:o.map cS=xo):Fn Tryz.prog 276 [.agg [.d (.row 3 Bo),.d (.row 2 Bl),.d (.row 2 Bj),.d (.row 1 Bn),I Ao,I An]] [] ⟨.d (.row 1 xo),[],[]⟩:=by
 refine Fn.go Jy Tryz.func276 fun P hP Q hQ=>?_
 conv=>cbv
 have ah:Ag.length≤1000000000:=hd.2.2.1
 have ai:∀e∈Ag,e.name_.size≤1000000000:=hd.2.2.2.1
 generalize ab:Ex (⟨Ae,Ag,Ah,Af,Ao,An⟩:Aa)=l1
 generalize ae:l1.map cI=al
 refine .dd hP (Xlp Aj Am At Ap hd ab ae) ?_
 conv=>cbv
 generalize af:Pi (⟨Ae,Ag,Ah,Af,Ao,An⟩:Aa)=l2
 generalize ac:l2.map cS=am
 obtain⟨nl2,hnl2⟩:∃m,m=l2.length:=⟨_,rfl⟩
 refine .ddA hP (XbG Aj Am At Ap ah af ac hnl2) rfl rfl rfl (ac▸Hk (fun _=>rfl) l2) ?_
 conv=>cbv
 have aj:=J7 ab
 have aa:l2=Ag.map (fun e=>e.name_):=af.symm
 have ak:l2.length=Ag.length:=by rw[aa,List.length_map]
 have hel:∀x∈l2,x.size≤1000000000:=by rw[aa];intro x hx;obtain⟨y,hy,rfl⟩:=List.mem_map.1 hx;exact ai y hy
 generalize ag:Eb l2 l1=l3
 generalize ad:(l3++List.replicate (l2.length - l3.length) (tx [])).map cS=an
 obtain⟨nl3,hnl3⟩:∃m,m=l3.length:=⟨_,rfl⟩
 refine .bx [4,3] [] hP (L3 ac (by first|rfl|omega|(simp;omega)) ae (by omega) (by omega) hel ag ad hnl3) rfl rfl rfl rfl ?_
 conv=>cbv
 have e:l3=Ce (⟨Ae,Ag,Ah,Af,Ao,An⟩:Aa):=by
  rw[←ag,aa]
  unfold Ce Eb B0
  rw[ab]
  simp only[Bool.not_not]
 rw[hr]at e
 subst e
 exact hQ _ _ (.rs rfl rfl (by rw[←ad,hnl3];simp) (by rw[←ad,←ho,hnl3];simp))
theorem Zw{d:Aa}{l:List ByteArray}(hd:okD d)(e:Ce d=l):l.length≤1000000000:=by
 rw[←e]
 unfold Ce
 have:=List.length_filter_le (Nj (Ex d)) (d.entries_.map fun e=>e.name_)
 rw[List.length_map]at this
 have:=hd.2.2.1
 omega
end
end Go.Proofs.YtgdmjbcllgmepaaGreatDoor.Ab
