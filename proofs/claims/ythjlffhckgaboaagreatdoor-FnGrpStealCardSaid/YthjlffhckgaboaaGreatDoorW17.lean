import Derived.Test.YthjlffhckgaboaaGreatDoorW05
import Derived.Shelf.Strings.OnBuilder
import Derived.Shelf.Strconv.Itoa3
import Derived.Shelf.LaysC
import Derived.Shelf.Strconv.AtoiAll
import Derived.Shelf.Strings.Count
import Derived.Shelf.Strings.Split
import Derived.Shelf.Slices.Clone
import Derived.WalkKit
import Derived.Lib.Walk
import Derived.Lib.ItoaNum
import Derived.Lib.SmallJoins
import Derived.Lib.SliceRun
import Derived.Deep.RegionLaw
import Derived.Shelf.RegionOpenPlain
import Derived.Shelf.Spec.SlicesInsertGrow
import Derived.Shelf.SlicesE.DeleteFunc
import Derived.Shelf.SlicesE.Index
set_option linter.unusedVariables false
set_option linter.unusedSimpArgs false
set_option linter.unusedSectionVars false
namespace Go.Proofs
open Go.Shelf
def Tryz.lays156_ren:Go.Shelf.Ren:=⟨fun|156=>209|165=>248|166=>249|169=>250|240=>287|241=>288|276=>304|277=>305|n=>n,fun|31=>30|9=>9|3=>3|4=>4|0=>0|20=>20|72=>223|76=>180|70=>221|37=>22|75=>179|127=>250|164=>270|5=>5|80=>225|n=>n,fun|n=>n⟩
theorem Tryz.lays156:Go.Proofs.Lays.n156 Tryz.prog Tryz.lays156_ren:={
 mixed:=by kernel_rfl
 f156:=Tryz.func209.trans (congrArg some (by kernel_rfl))
 f165:=Tryz.func248.trans (congrArg some (by kernel_rfl))
 f166:=Tryz.func249.trans (congrArg some (by kernel_rfl))
 f169:=Tryz.func250.trans (congrArg some (by kernel_rfl))
 f240:=Tryz.func287.trans (congrArg some (by kernel_rfl))
 f241:=Tryz.func288.trans (congrArg some (by kernel_rfl))
 f276:=Tryz.func304.trans (congrArg some (by kernel_rfl))
 f277:=Tryz.func305.trans (congrArg some (by kernel_rfl))
 t0:=Tryz.underlying0
 a0:=Tryz.isAgg0
 z0:=Tryz.sizeOf0
 v0:=Tryz.zeroValue0
 t3:=Tryz.underlying3
 a3:=Tryz.isAgg3
 z3:=Tryz.sizeOf3
 v3:=Tryz.zeroValue3
 t4:=Tryz.underlying4
 a4:=Tryz.isAgg4
 z4:=Tryz.sizeOf4
 v4:=Tryz.zeroValue4
 t9:=Tryz.underlying9
 a9:=Tryz.isAgg9
 z9:=Tryz.sizeOf9
 v9:=Tryz.zeroValue9
 t20:=Tryz.underlying20
 a20:=Tryz.isAgg20
 z20:=Tryz.sizeOf20
 v20:=Tryz.zeroValue20
 t31:=Tryz.underlying30
 a31:=Tryz.isAgg30
 z31:=Tryz.sizeOf30
 v31:=Tryz.zeroValue30
 t37:=Tryz.underlying22
 a37:=Tryz.isAgg22
 z37:=Tryz.sizeOf22
 v37:=Tryz.zeroValue22
 t70:=Tryz.underlying221
 a70:=Tryz.isAgg221
 z70:=Tryz.sizeOf221
 v70:=Tryz.zeroValue221
 t72:=Tryz.underlying223
 a72:=Tryz.isAgg223
 z72:=Tryz.sizeOf223
 v72:=Tryz.zeroValue223
 t75:=Tryz.underlying179
 a75:=Tryz.isAgg179
 z75:=Tryz.sizeOf179
 v75:=Tryz.zeroValue179
 t76:=Tryz.underlying180
 a76:=Tryz.isAgg180
 z76:=Tryz.sizeOf180
 v76:=Tryz.zeroValue180
 t127:=Tryz.underlying250
 a127:=Tryz.isAgg250
 z127:=Tryz.sizeOf250
 v127:=Tryz.zeroValue250
 t164:=Tryz.underlying270
 a164:=Tryz.isAgg270
 z164:=Tryz.sizeOf270
 v164:=Tryz.zeroValue270}
theorem Tryz.Builder_Extra_156:Builder.Extra Tryz.prog Tryz.lays156_ren:={
 sizeBuilder:=by kernel_rfl
 liesBuilder:=by kernel_rfl
 t5:=Tryz.underlying5
 a5:=Tryz.isAgg5
 z5:=Tryz.sizeOf5
 v5:=Tryz.zeroValue5
 infoByte:=by kernel_rfl
 cellsByte:=by kernel_rfl
 sizeByte:=by kernel_rfl
 neB5:=by decide}
open Go.RowKit in
theorem Tryz.strings_Join(bk o c:Nat)(xs:List ByteArray)(sep:ByteArray)(w:World)(hcells:∀(j:Nat) x,xs[j]?=some x->w.cell? ⟨bk,o+j,none⟩=some (.string x))(hbk:bk<w.heap.size)(hN:xs.length<=140737488355328)(hcap:xs.length<=c)(hlen:(Lib.join (xs.map (·.data.toList)) sep.data.toList).length<=140737488355328):
 Calls Tryz.prog 209 #[.slice (some ⟨bk,o,none⟩) xs.length c,.string sep] w fun e w'=>e=.returned (.string ⟨(Lib.join (xs.map (·.data.toList)) sep.data.toList).toArray⟩)/\Below w.heap.size w w':=Any.strings_Join Tryz.lays156 Tryz.Builder_Extra_156 bk o c xs sep w hcells hbk hN hcap hlen
def Tryz.lays171_ren:Go.Shelf.Ren:=⟨fun|171=>125|243=>207|246=>247|283=>283|284=>284|285=>285|286=>286|129=>300|317=>299|318=>301|319=>302|320=>303|337=>309|338=>310|n=>n,fun|3=>3|9=>9|2=>2|4=>4|171=>244|0=>0|53=>245|37=>22|5=>5|173=>248|212=>267|51=>260|20=>20|213=>268|46=>232|232=>279|233=>280|n=>n,fun|17=>5|18=>6|19=>7|n=>n⟩
theorem Tryz.lays171:Go.Proofs.Lays.n171 Tryz.prog Tryz.lays171_ren:={
 mixed:=by kernel_rfl
 f129:=Tryz.func300.trans (congrArg some (by kernel_rfl))
 f171:=Tryz.func125.trans (congrArg some (by kernel_rfl))
 f243:=Tryz.func207.trans (congrArg some (by kernel_rfl))
 f246:=Tryz.func247.trans (congrArg some (by kernel_rfl))
 f283:=Tryz.func283.trans (congrArg some (by kernel_rfl))
 f284:=Tryz.func284.trans (congrArg some (by kernel_rfl))
 f285:=Tryz.func285.trans (congrArg some (by kernel_rfl))
 f286:=Tryz.func286.trans (congrArg some (by kernel_rfl))
 f317:=Tryz.func299.trans (congrArg some (by kernel_rfl))
 f318:=Tryz.func301.trans (congrArg some (by kernel_rfl))
 f319:=Tryz.func302.trans (congrArg some (by kernel_rfl))
 f320:=Tryz.func303.trans (congrArg some (by kernel_rfl))
 f337:=Tryz.func309.trans (congrArg some (by kernel_rfl))
 f338:=Tryz.func310.trans (congrArg some (by kernel_rfl))
 t0:=Tryz.underlying0
 a0:=Tryz.isAgg0
 z0:=Tryz.sizeOf0
 v0:=Tryz.zeroValue0
 t2:=Tryz.underlying2
 a2:=Tryz.isAgg2
 z2:=Tryz.sizeOf2
 v2:=Tryz.zeroValue2
 t3:=Tryz.underlying3
 a3:=Tryz.isAgg3
 z3:=Tryz.sizeOf3
 v3:=Tryz.zeroValue3
 t4:=Tryz.underlying4
 a4:=Tryz.isAgg4
 z4:=Tryz.sizeOf4
 v4:=Tryz.zeroValue4
 t5:=Tryz.underlying5
 a5:=Tryz.isAgg5
 z5:=Tryz.sizeOf5
 v5:=Tryz.zeroValue5
 t9:=Tryz.underlying9
 a9:=Tryz.isAgg9
 z9:=Tryz.sizeOf9
 v9:=Tryz.zeroValue9
 t20:=Tryz.underlying20
 a20:=Tryz.isAgg20
 z20:=Tryz.sizeOf20
 v20:=Tryz.zeroValue20
 t37:=Tryz.underlying22
 a37:=Tryz.isAgg22
 z37:=Tryz.sizeOf22
 v37:=Tryz.zeroValue22
 t46:=Tryz.underlying232
 a46:=Tryz.isAgg232
 z46:=Tryz.sizeOf232
 v46:=Tryz.zeroValue232
 t51:=Tryz.underlying260
 a51:=Tryz.isAgg260
 z51:=Tryz.sizeOf260
 v51:=Tryz.zeroValue260
 t53:=Tryz.underlying245
 a53:=Tryz.isAgg245
 z53:=Tryz.sizeOf245
 v53:=Tryz.zeroValue245
 t171:=Tryz.underlying244
 a171:=Tryz.isAgg244
 z171:=Tryz.sizeOf244
 v171:=Tryz.zeroValue244
 t173:=Tryz.underlying248
 a173:=Tryz.isAgg248
 z173:=Tryz.sizeOf248
 v173:=Tryz.zeroValue248
 t212:=Tryz.underlying267
 a212:=Tryz.isAgg267
 z212:=Tryz.sizeOf267
 v212:=Tryz.zeroValue267
 t213:=Tryz.underlying268
 a213:=Tryz.isAgg268
 z213:=Tryz.sizeOf268
 t232:=Tryz.underlying279
 a232:=Tryz.isAgg279
 z232:=Tryz.sizeOf279
 v232:=Tryz.zeroValue279
 t233:=Tryz.underlying280
 a233:=Tryz.isAgg280
 z233:=Tryz.sizeOf280
 v233:=Tryz.zeroValue280
 g17:=by kernel_rfl
 g18:=by kernel_rfl
 g19:=by kernel_rfl}
open Go.RowKit Go.Sort Go.Lib in
theorem Tryz.strconv_Itoa_small(i:Nat)(hi:i<100)(w:World):
 Calls Tryz.prog 125 #[.int .i64 i] w fun e w'=>e=.returned (.string ⟨(Lib.decDigits i).toArray⟩)/\w'=w:=Any.strconv_Itoa_small Tryz.lays171 i hi w
def Tryz.laysC172_ren:Go.Shelf.Ren:=⟨fun|172=>146|244=>210|245=>211|247=>251|279=>252|280=>253|281=>254|282=>255|287=>289|316=>290|171=>125|205=>291|321=>306|322=>307|243=>207|246=>247|283=>283|284=>284|285=>285|286=>286|129=>300|317=>299|318=>301|319=>302|320=>303|337=>309|338=>310|n=>n,fun|9=>9|3=>3|75=>179|76=>180|4=>4|5=>5|167=>226|37=>22|0=>0|85=>227|2=>2|168=>229|53=>245|175=>251|46=>232|210=>254|127=>250|145=>276|143=>274|21=>21|171=>244|173=>248|212=>267|51=>260|20=>20|213=>268|232=>279|233=>280|80=>225|n=>n,fun|15=>1|16=>2|17=>5|18=>6|19=>7|n=>n⟩
theorem Tryz.laysC172:Go.Proofs.LaysC.n172 Tryz.prog Tryz.laysC172_ren:={
 mixed:=by kernel_rfl
 f129:=Tryz.func300.trans (congrArg some (by kernel_rfl))
 f171:=Tryz.func125.trans (congrArg some (by kernel_rfl))
 f172:=Tryz.func146.trans (congrArg some (by kernel_rfl))
 f205:=Tryz.func291.trans (congrArg some (by kernel_rfl))
 f243:=Tryz.func207.trans (congrArg some (by kernel_rfl))
 f244:=Tryz.func210.trans (congrArg some (by kernel_rfl))
 f245:=Tryz.func211.trans (congrArg some (by kernel_rfl))
 f246:=Tryz.func247.trans (congrArg some (by kernel_rfl))
 f247:=Tryz.func251.trans (congrArg some (by kernel_rfl))
 f279:=Tryz.func252.trans (congrArg some (by kernel_rfl))
 f280:=Tryz.func253.trans (congrArg some (by kernel_rfl))
 f281:=Tryz.func254.trans (congrArg some (by kernel_rfl))
 f282:=Tryz.func255.trans (congrArg some (by kernel_rfl))
 f283:=Tryz.func283.trans (congrArg some (by kernel_rfl))
 f284:=Tryz.func284.trans (congrArg some (by kernel_rfl))
 f285:=Tryz.func285.trans (congrArg some (by kernel_rfl))
 f286:=Tryz.func286.trans (congrArg some (by kernel_rfl))
 f287:=Tryz.func289.trans (congrArg some (by kernel_rfl))
 f316:=Tryz.func290.trans (congrArg some (by kernel_rfl))
 f317:=Tryz.func299.trans (congrArg some (by kernel_rfl))
 f318:=Tryz.func301.trans (congrArg some (by kernel_rfl))
 f319:=Tryz.func302.trans (congrArg some (by kernel_rfl))
 f320:=Tryz.func303.trans (congrArg some (by kernel_rfl))
 f321:=Tryz.func306.trans (congrArg some (by kernel_rfl))
 f322:=Tryz.func307.trans (congrArg some (by kernel_rfl))
 f337:=Tryz.func309.trans (congrArg some (by kernel_rfl))
 f338:=Tryz.func310.trans (congrArg some (by kernel_rfl))
 t0:=Tryz.underlying0
 a0:=Tryz.isAgg0
 z0:=Tryz.sizeOf0
 v0:=Tryz.zeroValue0
 t2:=Tryz.underlying2
 a2:=Tryz.isAgg2
 z2:=Tryz.sizeOf2
 v2:=Tryz.zeroValue2
 t3:=Tryz.underlying3
 a3:=Tryz.isAgg3
 z3:=Tryz.sizeOf3
 v3:=Tryz.zeroValue3
 t4:=Tryz.underlying4
 a4:=Tryz.isAgg4
 z4:=Tryz.sizeOf4
 v4:=Tryz.zeroValue4
 t5:=Tryz.underlying5
 a5:=Tryz.isAgg5
 z5:=Tryz.sizeOf5
 v5:=Tryz.zeroValue5
 t9:=Tryz.underlying9
 a9:=Tryz.isAgg9
 z9:=Tryz.sizeOf9
 v9:=Tryz.zeroValue9
 t20:=Tryz.underlying20
 a20:=Tryz.isAgg20
 z20:=Tryz.sizeOf20
 v20:=Tryz.zeroValue20
 t21:=Tryz.underlying21
 a21:=Tryz.isAgg21
 z21:=Tryz.sizeOf21
 v21:=Tryz.zeroValue21
 t37:=Tryz.underlying22
 a37:=Tryz.isAgg22
 z37:=Tryz.sizeOf22
 v37:=Tryz.zeroValue22
 t46:=Tryz.underlying232
 a46:=Tryz.isAgg232
 z46:=Tryz.sizeOf232
 v46:=Tryz.zeroValue232
 t51:=Tryz.underlying260
 a51:=Tryz.isAgg260
 z51:=Tryz.sizeOf260
 v51:=Tryz.zeroValue260
 t53:=Tryz.underlying245
 a53:=Tryz.isAgg245
 z53:=Tryz.sizeOf245
 v53:=Tryz.zeroValue245
 t75:=Tryz.underlying179
 a75:=Tryz.isAgg179
 z75:=Tryz.sizeOf179
 v75:=Tryz.zeroValue179
 t76:=Tryz.underlying180
 a76:=Tryz.isAgg180
 z76:=Tryz.sizeOf180
 v76:=Tryz.zeroValue180
 t85:=Tryz.underlying227
 a85:=Tryz.isAgg227
 z85:=Tryz.sizeOf227
 v85:=Tryz.zeroValue227
 t127:=Tryz.underlying250
 a127:=Tryz.isAgg250
 z127:=Tryz.sizeOf250
 v127:=Tryz.zeroValue250
 t143:=Tryz.underlying274
 a143:=Tryz.isAgg274
 z143:=Tryz.sizeOf274
 v143:=Tryz.zeroValue274
 t145:=Tryz.underlying276
 a145:=Tryz.isAgg276
 z145:=Tryz.sizeOf276
 v145:=Tryz.zeroValue276
 t167:=Tryz.underlying226
 a167:=Tryz.isAgg226
 z167:=Tryz.sizeOf226
 v167:=Tryz.zeroValue226
 t168:=Tryz.underlying229
 a168:=Tryz.isAgg229
 z168:=Tryz.sizeOf229
 v168:=Tryz.zeroValue229
 t171:=Tryz.underlying244
 a171:=Tryz.isAgg244
 z171:=Tryz.sizeOf244
 v171:=Tryz.zeroValue244
 t173:=Tryz.underlying248
 a173:=Tryz.isAgg248
 z173:=Tryz.sizeOf248
 v173:=Tryz.zeroValue248
 t175:=Tryz.underlying251
 a175:=Tryz.isAgg251
 z175:=Tryz.sizeOf251
 v175:=Tryz.zeroValue251
 t210:=Tryz.underlying254
 a210:=Tryz.isAgg254
 z210:=Tryz.sizeOf254
 v210:=Tryz.zeroValue254
 t212:=Tryz.underlying267
 a212:=Tryz.isAgg267
 z212:=Tryz.sizeOf267
 v212:=Tryz.zeroValue267
 t213:=Tryz.underlying268
 a213:=Tryz.isAgg268
 z213:=Tryz.sizeOf268
 t232:=Tryz.underlying279
 a232:=Tryz.isAgg279
 z232:=Tryz.sizeOf279
 v232:=Tryz.zeroValue279
 t233:=Tryz.underlying280
 a233:=Tryz.isAgg280
 z233:=Tryz.sizeOf280
 v233:=Tryz.zeroValue280
 g15:=by kernel_rfl
 g16:=by kernel_rfl
 g17:=by kernel_rfl
 g18:=by kernel_rfl
 g19:=by kernel_rfl
 t80:=Tryz.underlying225
 a80:=Tryz.isAgg225
 z80:=Tryz.sizeOf225
 v80:=Tryz.zeroValue225
 i0:=by kernel_rfl
 i2:=by kernel_rfl
 i3:=by kernel_rfl
 i4:=by kernel_rfl
 i5:=by kernel_rfl
 i9:=by kernel_rfl
 i20:=by kernel_rfl
 i21:=by kernel_rfl
 i37:=by kernel_rfl
 i46:=by kernel_rfl
 i51:=by kernel_rfl
 i53:=by kernel_rfl
 i75:=by kernel_rfl
 i76:=by kernel_rfl
 i80:=by kernel_rfl
 i85:=by kernel_rfl
 i127:=by kernel_rfl
 i143:=by kernel_rfl
 i145:=by kernel_rfl
 i167:=by kernel_rfl
 i168:=by kernel_rfl
 i171:=by kernel_rfl
 i173:=by kernel_rfl
 i175:=by kernel_rfl
 i210:=by kernel_rfl
 i212:=by kernel_rfl
 i232:=by kernel_rfl
 i233:=by kernel_rfl
 m15:=by kernel_rfl
 m16:=by kernel_rfl
 m17:=by kernel_rfl
 m18:=by kernel_rfl
 m19:=by kernel_rfl
 c0:=by kernel_rfl
 c2:=by kernel_rfl
 c3:=by kernel_rfl
 c4:=by kernel_rfl
 c5:=by kernel_rfl
 c9:=by kernel_rfl
 c20:=by kernel_rfl
 c21:=by kernel_rfl
 c37:=by kernel_rfl
 c46:=by kernel_rfl
 c51:=by kernel_rfl
 c53:=by kernel_rfl
 c75:=by kernel_rfl
 c76:=by kernel_rfl
 c80:=by kernel_rfl
 c85:=by kernel_rfl
 c127:=by kernel_rfl
 c143:=by kernel_rfl
 c145:=by kernel_rfl
 c167:=by kernel_rfl
 c168:=by kernel_rfl
 c171:=by kernel_rfl
 c173:=by kernel_rfl
 c175:=by kernel_rfl
 c210:=by kernel_rfl
 c212:=by kernel_rfl
 c213:=by kernel_rfl
 c232:=by kernel_rfl
 c233:=by kernel_rfl}
def Tryz.lays138_ren:Go.Shelf.Ren:=⟨fun|138=>149|195=>212|218=>214|143=>150|219=>215|217=>257|225=>258|224=>259|267=>260|266=>292|314=>293|n=>n,fun|9=>9|3=>3|4=>4|5=>5|0=>0|46=>232|146=>261|51=>260|n=>n,fun|1=>0|n=>n⟩
theorem Tryz.lays138:Go.Proofs.Lays.n138 Tryz.prog Tryz.lays138_ren:={
 mixed:=by kernel_rfl
 f138:=Tryz.func149.trans (congrArg some (by kernel_rfl))
 f143:=Tryz.func150.trans (congrArg some (by kernel_rfl))
 f195:=Tryz.func212.trans (congrArg some (by kernel_rfl))
 f217:=Tryz.func257.trans (congrArg some (by kernel_rfl))
 f218:=Tryz.func214.trans (congrArg some (by kernel_rfl))
 f219:=Tryz.func215.trans (congrArg some (by kernel_rfl))
 f224:=Tryz.func259.trans (congrArg some (by kernel_rfl))
 f225:=Tryz.func258.trans (congrArg some (by kernel_rfl))
 f266:=Tryz.func292.trans (congrArg some (by kernel_rfl))
 f267:=Tryz.func260.trans (congrArg some (by kernel_rfl))
 f314:=Tryz.func293.trans (congrArg some (by kernel_rfl))
 t0:=Tryz.underlying0
 a0:=Tryz.isAgg0
 z0:=Tryz.sizeOf0
 v0:=Tryz.zeroValue0
 t3:=Tryz.underlying3
 a3:=Tryz.isAgg3
 z3:=Tryz.sizeOf3
 v3:=Tryz.zeroValue3
 t4:=Tryz.underlying4
 a4:=Tryz.isAgg4
 z4:=Tryz.sizeOf4
 v4:=Tryz.zeroValue4
 t5:=Tryz.underlying5
 a5:=Tryz.isAgg5
 z5:=Tryz.sizeOf5
 v5:=Tryz.zeroValue5
 t9:=Tryz.underlying9
 a9:=Tryz.isAgg9
 z9:=Tryz.sizeOf9
 v9:=Tryz.zeroValue9
 t46:=Tryz.underlying232
 a46:=Tryz.isAgg232
 z46:=Tryz.sizeOf232
 v46:=Tryz.zeroValue232
 t51:=Tryz.underlying260
 a51:=Tryz.isAgg260
 z51:=Tryz.sizeOf260
 v51:=Tryz.zeroValue260
 t146:=Tryz.underlying261
 a146:=Tryz.isAgg261
 z146:=Tryz.sizeOf261
 v146:=Tryz.zeroValue261
 g1:=by kernel_rfl}
open Go.RowKit Go.Lib in
theorem Tryz.strings_Count_one(s:ByteArray)(c:UInt8)(w:World):
 Calls Tryz.prog 149 #[.string s,.string ⟨#[c]⟩] w fun e w'=>e=.returned (.int .i64 (Lib.countByte s.data.toList c))/\w'=w:=Any.strings_Count_one Tryz.lays138 s c w
def Tryz.lays221_ren:Go.Shelf.Ren:=⟨fun|221=>87|268=>148|138=>149|143=>150|195=>212|197=>213|218=>214|219=>215|260=>256|217=>257|225=>258|224=>259|267=>260|266=>292|314=>293|n=>n,fun|9=>9|3=>3|31=>30|4=>4|0=>0|105=>206|21=>21|5=>5|46=>232|119=>256|139=>259|138=>258|146=>261|51=>260|n=>n,fun|1=>0|3=>3|4=>4|n=>n⟩
theorem Tryz.lays221:Go.Proofs.Lays.n221 Tryz.prog Tryz.lays221_ren:={
 mixed:=by kernel_rfl
 f138:=Tryz.func149.trans (congrArg some (by kernel_rfl))
 f143:=Tryz.func150.trans (congrArg some (by kernel_rfl))
 f195:=Tryz.func212.trans (congrArg some (by kernel_rfl))
 f197:=Tryz.func213.trans (congrArg some (by kernel_rfl))
 f217:=Tryz.func257.trans (congrArg some (by kernel_rfl))
 f218:=Tryz.func214.trans (congrArg some (by kernel_rfl))
 f219:=Tryz.func215.trans (congrArg some (by kernel_rfl))
 f221:=Tryz.func87.trans (congrArg some (by kernel_rfl))
 f224:=Tryz.func259.trans (congrArg some (by kernel_rfl))
 f225:=Tryz.func258.trans (congrArg some (by kernel_rfl))
 f260:=Tryz.func256.trans (congrArg some (by kernel_rfl))
 f266:=Tryz.func292.trans (congrArg some (by kernel_rfl))
 f267:=Tryz.func260.trans (congrArg some (by kernel_rfl))
 f268:=Tryz.func148.trans (congrArg some (by kernel_rfl))
 f314:=Tryz.func293.trans (congrArg some (by kernel_rfl))
 t0:=Tryz.underlying0
 a0:=Tryz.isAgg0
 z0:=Tryz.sizeOf0
 v0:=Tryz.zeroValue0
 t3:=Tryz.underlying3
 a3:=Tryz.isAgg3
 z3:=Tryz.sizeOf3
 v3:=Tryz.zeroValue3
 t4:=Tryz.underlying4
 a4:=Tryz.isAgg4
 z4:=Tryz.sizeOf4
 v4:=Tryz.zeroValue4
 t5:=Tryz.underlying5
 a5:=Tryz.isAgg5
 z5:=Tryz.sizeOf5
 v5:=Tryz.zeroValue5
 t9:=Tryz.underlying9
 a9:=Tryz.isAgg9
 z9:=Tryz.sizeOf9
 v9:=Tryz.zeroValue9
 t21:=Tryz.underlying21
 a21:=Tryz.isAgg21
 z21:=Tryz.sizeOf21
 v21:=Tryz.zeroValue21
 t31:=Tryz.underlying30
 a31:=Tryz.isAgg30
 z31:=Tryz.sizeOf30
 v31:=Tryz.zeroValue30
 t46:=Tryz.underlying232
 a46:=Tryz.isAgg232
 z46:=Tryz.sizeOf232
 v46:=Tryz.zeroValue232
 t51:=Tryz.underlying260
 a51:=Tryz.isAgg260
 z51:=Tryz.sizeOf260
 v51:=Tryz.zeroValue260
 t105:=Tryz.underlying206
 a105:=Tryz.isAgg206
 z105:=Tryz.sizeOf206
 v105:=Tryz.zeroValue206
 t119:=Tryz.underlying256
 a119:=Tryz.isAgg256
 z119:=Tryz.sizeOf256
 t138:=Tryz.underlying258
 a138:=Tryz.isAgg258
 z138:=Tryz.sizeOf258
 v138:=Tryz.zeroValue258
 t139:=Tryz.underlying259
 a139:=Tryz.isAgg259
 z139:=Tryz.sizeOf259
 v139:=Tryz.zeroValue259
 t146:=Tryz.underlying261
 a146:=Tryz.isAgg261
 z146:=Tryz.sizeOf261
 v146:=Tryz.zeroValue261
 g1:=by kernel_rfl
 g3:=by kernel_rfl
 g4:=by kernel_rfl}
def Tryz.laysNm216_ren:Go.Shelf.Ren:=⟨fun|16=>89|n=>n,fun|24=>30|9=>9|4=>4|n=>n,fun|n=>n⟩
theorem Tryz.laysNm216:Go.Proofs.Lays2.n16 Tryz.prog Tryz.laysNm216_ren:={
 mixed:=by kernel_rfl
 f16:=Tryz.func89.trans (congrArg some (by kernel_rfl))
 t4:=Tryz.underlying4
 a4:=Tryz.isAgg4
 z4:=Tryz.sizeOf4
 v4:=Tryz.zeroValue4
 t9:=Tryz.underlying9
 a9:=Tryz.isAgg9
 z9:=Tryz.sizeOf9
 v9:=Tryz.zeroValue9
 t24:=Tryz.underlying30
 a24:=Tryz.isAgg30
 z24:=Tryz.sizeOf30
 v24:=Tryz.zeroValue30
 i9:=by kernel_rfl}
open Go.RowKit Go.Lib in
theorem Tryz.slices_Clone_string(b off n c:Nat)(zs:List ByteArray)(w:World)(hz:n<=zs.length)(hbig:n*16<=140737488355328)(hc:∀j,j<zs.length->w.cell? ⟨b,off+j,none⟩=some (.string (zs.getD j ByteArray.empty))):
 Calls Tryz.prog 89 #[.slice (some ⟨b,off,none⟩) n c] w fun e w'=>∃v',e=.returned v'/\w'.ownsRow w.heap.size 9 1 v' n ((zs.take n).map (Value.string))/\v'≠ .slice none 0 0/\Below w.heap.size w w':=Any.slices_Clone_string Tryz.laysNm216 b off n c zs w hz hbig hc
end Go.Proofs
namespace Kw
open Go Go.RowKit Go.Proofs Go.Shelf
set_option maxRecDepth 100000
theorem oM{w:World}{B E sz:Nat}{v:Value}{n:Nat}{xs:List Value}(h:w.ownsRow B E sz v n xs)(hv:v≠ .slice none 0 0):
 ∃g cap cur,v=.slice (some ⟨g,0,none⟩) n cap/\n<=cap/\B<=g/\w.heap[g]?=some (.cells cur E (0,0))/\n*sz<=cur.size/\cur.toList.take (n*sz)=xs:=by
 obtain⟨_,⟨e,_⟩|⟨g,cap,cur,e,hb,hh,hle,_,hs,ht⟩⟩:=h
 ·exact absurd e hv
 ·exact⟨g,cap,cur,e,hle,hb,hh,by rw[hs];exact qn _ hle,ht⟩
def agW:Go.Shelf.Ren:=⟨fun|41=>89|n=>n,fun|22=>30|23=>9|4=>4|n=>n,fun|n=>n⟩
theorem XN:Go.Proofs.SlLaysE0.n41 Tryz.prog agW:={
 mixed:=by kernel_rfl
 f41:=⟨Tryz.f89.name,by decide,Tryz.func89.trans (wo some (by kernel_rfl))⟩
 t4:=Tryz.underlying4
 a4:=Tryz.isAgg4
 z4:=Tryz.sizeOf4
 v4:=Tryz.zeroValue4
 t22:=Tryz.underlying30
 a22:=Tryz.isAgg30
 z22:=Tryz.sizeOf30
 v22:=Tryz.zeroValue30}
theorem aa3(a:Addr)(n c:Nat)(hn:n<=c)(w:World):Calls Tryz.prog 88 #[.slice (some a) n c] w fun e w'=>e=.returned (.slice (some a) n n)/\w'=w:=by
 go_enter Tryz.func88,Tryz.ntmps88
 go_wp2
 go_ret
 exact⟨rfl,rfl⟩
theorem UU(c:Nat)(w:World):Calls Tryz.prog 88 #[.slice none 0 c] w fun e w'=>e=.returned (.slice none 0 0)/\w'=w:=by
 go_enter Tryz.func88,Tryz.ntmps88
 go_wp2
 go_ret
 exact⟨rfl,rfl⟩
theorem PS(a:Addr)(n c:Nat)(news:List Value)(w:World)(k:Calls Tryz.prog 89 #[.slice (some a) n c] w fun e w'=>∃v',e=.returned v'/\w'.ownsRow w.heap.size 9 1 v' n news/\v'≠ .slice none 0 0/\Below w.heap.size w w'):
 Calls Tryz.prog 48 #[.slice (some a) n c] w fun e w'=>∃g cur,e=.returned (.slice (some ⟨g,0,none⟩) n n)/\w.heap.size<=g/\w'.heap[g]?=some (.cells cur 9 (0,0))/\n*1<=cur.size/\cur.toList.take (n*1)=news/\Below w.heap.size w w':=by
 go_enter Tryz.func48,Tryz.ntmps48
 go_wp2_with (go_at_call 89;refine k.mono ?_;rintro e w' ⟨v',rfl,hown,hnn,hB⟩)
 obtain⟨g,cap,cur,rfl,hle,hg,hh,hsz,htk⟩:=oM hown hnn;clear hown hnn;have k2:=aa3 ⟨g,0,none⟩ n cap hle w';have A:Aside (w'.heap[g]?=some (.cells cur 9 (0,0))/\cur.toList.take (n*1)=news/\n*1<=cur.size):=⟨hh,htk,hsz⟩;clear hh htk hsz
 go_wp2_with (go_at_call 88;refine k2.mono ?_;rintro e w'' ⟨rfl,rfl⟩)
 go_ret
 exact⟨g,cur,rfl,hg,A.out.1,A.out.2.2,A.out.2.1,hB⟩
theorem ac8(n c:Nat)(w:World):Calls Tryz.prog 48 #[.slice none n c] w fun e w'=>e=.returned (.slice none 0 0)/\w'=w:=by
 have k:=AnyE.slices_Clone_nil XN n c w;have k2:=UU 0 w
 go_enter Tryz.func48,Tryz.ntmps48
 go_wp2_with (first|(go_at_call 89;refine k.mono ?_;rintro e w' ⟨rfl,rfl⟩)|(go_at_call 88;refine k2.mono ?_;rintro e w'' ⟨rfl,rfl⟩))
 go_ret
 exact⟨rfl,rfl⟩
variable [Gl] in
theorem agX:cL Tryz.prog fun f' args imps=>if f'=48 then(dI 1 1024 args).map fun m=>(m,imps)else none:=by
 have hk:okT Tryz.prog 9=true:=by kernel_rfl
 have ht:tsize Tryz.prog 9=1:=by kernel_rfl
 have hb:Nat.ble (bT Tryz.prog 9) 1024=true:=by kernel_rfl
 obtain⟨i0,z,hi,hz,_,hzs⟩:=cG hk;have h1:i0.size=1:=by rw[<-ht];unfold tsize;rw[hi]
 have h2:i0.bytes<=1024:=by
  have:=qz hb;unfold bT at this;rw[hi]at this;exact this
 refine @jK _ _ _ 1 1024 9 (by decide) (fun v w=>cE (c:=(match Tryz.f48.body with|some c=>c|none=>.skip)) Tryz.func48 (by kernel_rfl) (by kernel_rfl) _ _) ac8 fun a n c news w hl hn hc ho=>?_
 have hnb:n*i0.bytes<=140737488355328:=kb (qw n h2) (by omega)
 by_cases h0:0<n
 ·obtain⟨hs,hc⟩:=hc h0;obtain⟨b,off,spot⟩:=a;simp only at hs;subst hs;exact PS _ n c news w (AnyE.slices_Clone XN i0 z 1 i0.bytes hi hz h1 rfl (by rw[hzs,ht]) (by decide) Tryz.sizeOf9 b off n c news w hl (by unfold maxLen;omega) hnb hc ho)
 ·obtain rfl:n=0:=by omega
  obtain rfl:news=[]:=qe.1 (by omega)
  exact PS _ 0 c [] w (lG XN i0 z 1 i0.bytes hi hz h1 rfl (by rw[hzs,ht]) (by decide) Tryz.sizeOf9 a c w)
def agY:Go.Shelf.Ren:=⟨fun|41=>154|n=>n,fun|22=>71|23=>73|4=>4|n=>n,fun|n=>n⟩
theorem XO:Go.Proofs.SlLaysE0.n41 Tryz.prog agY:={
 mixed:=by kernel_rfl
 f41:=⟨Tryz.f154.name,by decide,Tryz.func154.trans (wo some (by kernel_rfl))⟩
 t4:=Tryz.underlying4
 a4:=Tryz.isAgg4
 z4:=Tryz.sizeOf4
 v4:=Tryz.zeroValue4
 t22:=Tryz.underlying71
 a22:=Tryz.isAgg71
 z22:=Tryz.sizeOf71
 v22:=Tryz.zeroValue71}
theorem agZ(a:Addr)(n c:Nat)(hn:n<=c)(w:World):Calls Tryz.prog 153 #[.slice (some a) n c] w fun e w'=>e=.returned (.slice (some a) n n)/\w'=w:=by
 go_enter Tryz.func153,Tryz.ntmps153
 go_wp2
 go_ret
 exact⟨rfl,rfl⟩
theorem ac9(c:Nat)(w:World):Calls Tryz.prog 153 #[.slice none 0 c] w fun e w'=>e=.returned (.slice none 0 0)/\w'=w:=by
 go_enter Tryz.func153,Tryz.ntmps153
 go_wp2
 go_ret
 exact⟨rfl,rfl⟩
theorem PT(a:Addr)(n c:Nat)(news:List Value)(w:World)(k:Calls Tryz.prog 154 #[.slice (some a) n c] w fun e w'=>∃v',e=.returned v'/\w'.ownsRow w.heap.size 73 2 v' n news/\v'≠ .slice none 0 0/\Below w.heap.size w w'):
 Calls Tryz.prog 92 #[.slice (some a) n c] w fun e w'=>∃g cur,e=.returned (.slice (some ⟨g,0,none⟩) n n)/\w.heap.size<=g/\w'.heap[g]?=some (.cells cur 73 (0,0))/\n*2<=cur.size/\cur.toList.take (n*2)=news/\Below w.heap.size w w':=by
 go_enter Tryz.func92,Tryz.ntmps92
 go_wp2_with (go_at_call 154;refine k.mono ?_;rintro e w' ⟨v',rfl,hown,hnn,hB⟩)
 obtain⟨g,cap,cur,rfl,hle,hg,hh,hsz,htk⟩:=oM hown hnn;clear hown hnn;have k2:=agZ ⟨g,0,none⟩ n cap hle w';have A:Aside (w'.heap[g]?=some (.cells cur 73 (0,0))/\cur.toList.take (n*2)=news/\n*2<=cur.size):=⟨hh,htk,hsz⟩;clear hh htk hsz
 go_wp2_with (go_at_call 153;refine k2.mono ?_;rintro e w'' ⟨rfl,rfl⟩)
 go_ret
 exact⟨g,cur,rfl,hg,A.out.1,A.out.2.2,A.out.2.1,hB⟩
theorem acA(n c:Nat)(w:World):Calls Tryz.prog 92 #[.slice none n c] w fun e w'=>e=.returned (.slice none 0 0)/\w'=w:=by
 have k:=AnyE.slices_Clone_nil XO n c w;have k2:=ac9 0 w
 go_enter Tryz.func92,Tryz.ntmps92
 go_wp2_with (first|(go_at_call 154;refine k.mono ?_;rintro e w' ⟨rfl,rfl⟩)|(go_at_call 153;refine k2.mono ?_;rintro e w'' ⟨rfl,rfl⟩))
 go_ret
 exact⟨rfl,rfl⟩
variable [Gl] in
theorem ah0:cL Tryz.prog fun f' args imps=>if f'=92 then(dI 2 1024 args).map fun m=>(m,imps)else none:=by
 have hk:okT Tryz.prog 73=true:=by kernel_rfl
 have ht:tsize Tryz.prog 73=2:=by kernel_rfl
 have hb:Nat.ble (bT Tryz.prog 73) 1024=true:=by kernel_rfl
 obtain⟨i0,z,hi,hz,_,hzs⟩:=cG hk;have h1:i0.size=2:=by rw[<-ht];unfold tsize;rw[hi]
 have h2:i0.bytes<=1024:=by
  have:=qz hb;unfold bT at this;rw[hi]at this;exact this
 refine @jK _ _ _ 2 1024 73 (by decide) (fun v w=>cE (c:=(match Tryz.f92.body with|some c=>c|none=>.skip)) Tryz.func92 (by kernel_rfl) (by kernel_rfl) _ _) acA fun a n c news w hl hn hc ho=>?_
 have hnb:n*i0.bytes<=140737488355328:=kb (qw n h2) (by omega)
 by_cases h0:0<n
 ·obtain⟨hs,hc⟩:=hc h0;obtain⟨b,off,spot⟩:=a;simp only at hs;subst hs;exact PT _ n c news w (AnyE.slices_Clone XO i0 z 2 i0.bytes hi hz h1 rfl (by rw[hzs,ht]) (by decide) Tryz.sizeOf73 b off n c news w hl (by unfold maxLen;omega) hnb hc ho)
 ·obtain rfl:n=0:=by omega
  obtain rfl:news=[]:=qe.1 (by omega)
  exact PT _ 0 c [] w (lG XO i0 z 2 i0.bytes hi hz h1 rfl (by rw[hzs,ht]) (by decide) Tryz.sizeOf73 a c w)
def acB:Go.Shelf.Ren:=⟨fun|41=>172|n=>n,fun|22=>26|23=>43|4=>4|n=>n,fun|n=>n⟩
theorem RK:Go.Proofs.SlLaysE0.n41 Tryz.prog acB:={
 mixed:=by kernel_rfl
 f41:=⟨Tryz.f172.name,by decide,Tryz.func172.trans (wo some (by kernel_rfl))⟩
 t4:=Tryz.underlying4
 a4:=Tryz.isAgg4
 z4:=Tryz.sizeOf4
 v4:=Tryz.zeroValue4
 t22:=Tryz.underlying26
 a22:=Tryz.isAgg26
 z22:=Tryz.sizeOf26
 v22:=Tryz.zeroValue26}
theorem ah1(a:Addr)(n c:Nat)(hn:n<=c)(w:World):Calls Tryz.prog 171 #[.slice (some a) n c] w fun e w'=>e=.returned (.slice (some a) n n)/\w'=w:=by
 go_enter Tryz.func171,Tryz.ntmps171
 go_wp2
 go_ret
 exact⟨rfl,rfl⟩
theorem acC(c:Nat)(w:World):Calls Tryz.prog 171 #[.slice none 0 c] w fun e w'=>e=.returned (.slice none 0 0)/\w'=w:=by
 go_enter Tryz.func171,Tryz.ntmps171
 go_wp2
 go_ret
 exact⟨rfl,rfl⟩
theorem LR(a:Addr)(n c:Nat)(news:List Value)(w:World)(k:Calls Tryz.prog 172 #[.slice (some a) n c] w fun e w'=>∃v',e=.returned v'/\w'.ownsRow w.heap.size 43 7 v' n news/\v'≠ .slice none 0 0/\Below w.heap.size w w'):
 Calls Tryz.prog 105 #[.slice (some a) n c] w fun e w'=>∃g cur,e=.returned (.slice (some ⟨g,0,none⟩) n n)/\w.heap.size<=g/\w'.heap[g]?=some (.cells cur 43 (0,0))/\n*7<=cur.size/\cur.toList.take (n*7)=news/\Below w.heap.size w w':=by
 go_enter Tryz.func105,Tryz.ntmps105
 go_wp2_with (go_at_call 172;refine k.mono ?_;rintro e w' ⟨v',rfl,hown,hnn,hB⟩)
 obtain⟨g,cap,cur,rfl,hle,hg,hh,hsz,htk⟩:=oM hown hnn;clear hown hnn;have k2:=ah1 ⟨g,0,none⟩ n cap hle w';have A:Aside (w'.heap[g]?=some (.cells cur 43 (0,0))/\cur.toList.take (n*7)=news/\n*7<=cur.size):=⟨hh,htk,hsz⟩;clear hh htk hsz
 go_wp2_with (go_at_call 171;refine k2.mono ?_;rintro e w'' ⟨rfl,rfl⟩)
 go_ret
 exact⟨g,cur,rfl,hg,A.out.1,A.out.2.2,A.out.2.1,hB⟩
theorem XP(n c:Nat)(w:World):Calls Tryz.prog 105 #[.slice none n c] w fun e w'=>e=.returned (.slice none 0 0)/\w'=w:=by
 have k:=AnyE.slices_Clone_nil RK n c w;have k2:=acC 0 w
 go_enter Tryz.func105,Tryz.ntmps105
 go_wp2_with (first|(go_at_call 172;refine k.mono ?_;rintro e w' ⟨rfl,rfl⟩)|(go_at_call 171;refine k2.mono ?_;rintro e w'' ⟨rfl,rfl⟩))
 go_ret
 exact⟨rfl,rfl⟩
variable [Gl] in
theorem acD:cL Tryz.prog fun f' args imps=>if f'=105 then(dI 7 1024 args).map fun m=>(m,imps)else none:=by
 have hk:okT Tryz.prog 43=true:=by kernel_rfl
 have ht:tsize Tryz.prog 43=7:=by kernel_rfl
 have hb:Nat.ble (bT Tryz.prog 43) 1024=true:=by kernel_rfl
 obtain⟨i0,z,hi,hz,_,hzs⟩:=cG hk;have h1:i0.size=7:=by rw[<-ht];unfold tsize;rw[hi]
 have h2:i0.bytes<=1024:=by
  have:=qz hb;unfold bT at this;rw[hi]at this;exact this
 refine @jK _ _ _ 7 1024 43 (by decide) (fun v w=>cE (c:=(match Tryz.f105.body with|some c=>c|none=>.skip)) Tryz.func105 (by kernel_rfl) (by kernel_rfl) _ _) XP fun a n c news w hl hn hc ho=>?_
 have hnb:n*i0.bytes<=140737488355328:=kb (qw n h2) (by omega)
 by_cases h0:0<n
 ·obtain⟨hs,hc⟩:=hc h0;obtain⟨b,off,spot⟩:=a;simp only at hs;subst hs;exact LR _ n c news w (AnyE.slices_Clone RK i0 z 7 i0.bytes hi hz h1 rfl (by rw[hzs,ht]) (by decide) Tryz.sizeOf43 b off n c news w hl (by unfold maxLen;omega) hnb hc ho)
 ·obtain rfl:n=0:=by omega
  obtain rfl:news=[]:=qe.1 (by omega)
  exact LR _ 0 c [] w (lG RK i0 z 7 i0.bytes hi hz h1 rfl (by rw[hzs,ht]) (by decide) Tryz.sizeOf43 a c w)
def acE:Go.Shelf.Ren:=⟨fun|41=>174|n=>n,fun|22=>27|23=>81|4=>4|n=>n,fun|n=>n⟩
theorem RL:Go.Proofs.SlLaysE0.n41 Tryz.prog acE:={
 mixed:=by kernel_rfl
 f41:=⟨Tryz.f174.name,by decide,Tryz.func174.trans (wo some (by kernel_rfl))⟩
 t4:=Tryz.underlying4
 a4:=Tryz.isAgg4
 z4:=Tryz.sizeOf4
 v4:=Tryz.zeroValue4
 t22:=Tryz.underlying27
 a22:=Tryz.isAgg27
 z22:=Tryz.sizeOf27
 v22:=Tryz.zeroValue27}
theorem ah2(a:Addr)(n c:Nat)(hn:n<=c)(w:World):Calls Tryz.prog 173 #[.slice (some a) n c] w fun e w'=>e=.returned (.slice (some a) n n)/\w'=w:=by
 go_enter Tryz.func173,Tryz.ntmps173
 go_wp2
 go_ret
 exact⟨rfl,rfl⟩
theorem acF(c:Nat)(w:World):Calls Tryz.prog 173 #[.slice none 0 c] w fun e w'=>e=.returned (.slice none 0 0)/\w'=w:=by
 go_enter Tryz.func173,Tryz.ntmps173
 go_wp2
 go_ret
 exact⟨rfl,rfl⟩
theorem LS(a:Addr)(n c:Nat)(news:List Value)(w:World)(k:Calls Tryz.prog 174 #[.slice (some a) n c] w fun e w'=>∃v',e=.returned v'/\w'.ownsRow w.heap.size 81 4 v' n news/\v'≠ .slice none 0 0/\Below w.heap.size w w'):
 Calls Tryz.prog 106 #[.slice (some a) n c] w fun e w'=>∃g cur,e=.returned (.slice (some ⟨g,0,none⟩) n n)/\w.heap.size<=g/\w'.heap[g]?=some (.cells cur 81 (0,0))/\n*4<=cur.size/\cur.toList.take (n*4)=news/\Below w.heap.size w w':=by
 go_enter Tryz.func106,Tryz.ntmps106
 go_wp2_with (go_at_call 174;refine k.mono ?_;rintro e w' ⟨v',rfl,hown,hnn,hB⟩)
 obtain⟨g,cap,cur,rfl,hle,hg,hh,hsz,htk⟩:=oM hown hnn;clear hown hnn;have k2:=ah2 ⟨g,0,none⟩ n cap hle w';have A:Aside (w'.heap[g]?=some (.cells cur 81 (0,0))/\cur.toList.take (n*4)=news/\n*4<=cur.size):=⟨hh,htk,hsz⟩;clear hh htk hsz
 go_wp2_with (go_at_call 173;refine k2.mono ?_;rintro e w'' ⟨rfl,rfl⟩)
 go_ret
 exact⟨g,cur,rfl,hg,A.out.1,A.out.2.2,A.out.2.1,hB⟩
theorem XQ(n c:Nat)(w:World):Calls Tryz.prog 106 #[.slice none n c] w fun e w'=>e=.returned (.slice none 0 0)/\w'=w:=by
 have k:=AnyE.slices_Clone_nil RL n c w;have k2:=acF 0 w
 go_enter Tryz.func106,Tryz.ntmps106
 go_wp2_with (first|(go_at_call 174;refine k.mono ?_;rintro e w' ⟨rfl,rfl⟩)|(go_at_call 173;refine k2.mono ?_;rintro e w'' ⟨rfl,rfl⟩))
 go_ret
 exact⟨rfl,rfl⟩
variable [Gl] in
theorem acG:cL Tryz.prog fun f' args imps=>if f'=106 then(dI 4 1024 args).map fun m=>(m,imps)else none:=by
 have hk:okT Tryz.prog 81=true:=by kernel_rfl
 have ht:tsize Tryz.prog 81=4:=by kernel_rfl
 have hb:Nat.ble (bT Tryz.prog 81) 1024=true:=by kernel_rfl
 obtain⟨i0,z,hi,hz,_,hzs⟩:=cG hk;have h1:i0.size=4:=by rw[<-ht];unfold tsize;rw[hi]
 have h2:i0.bytes<=1024:=by
  have:=qz hb;unfold bT at this;rw[hi]at this;exact this
 refine @jK _ _ _ 4 1024 81 (by decide) (fun v w=>cE (c:=(match Tryz.f106.body with|some c=>c|none=>.skip)) Tryz.func106 (by kernel_rfl) (by kernel_rfl) _ _) XQ fun a n c news w hl hn hc ho=>?_
 have hnb:n*i0.bytes<=140737488355328:=kb (qw n h2) (by omega)
 by_cases h0:0<n
 ·obtain⟨hs,hc⟩:=hc h0;obtain⟨b,off,spot⟩:=a;simp only at hs;subst hs;exact LS _ n c news w (AnyE.slices_Clone RL i0 z 4 i0.bytes hi hz h1 rfl (by rw[hzs,ht]) (by decide) Tryz.sizeOf81 b off n c news w hl (by unfold maxLen;omega) hnb hc ho)
 ·obtain rfl:n=0:=by omega
  obtain rfl:news=[]:=qe.1 (by omega)
  exact LS _ 0 c [] w (lG RL i0 z 4 i0.bytes hi hz h1 rfl (by rw[hzs,ht]) (by decide) Tryz.sizeOf81 a c w)
def acH:Go.Shelf.Ren:=⟨fun|41=>176|n=>n,fun|22=>28|23=>77|4=>4|n=>n,fun|n=>n⟩
theorem RM:Go.Proofs.SlLaysE0.n41 Tryz.prog acH:={
 mixed:=by kernel_rfl
 f41:=⟨Tryz.f176.name,by decide,Tryz.func176.trans (wo some (by kernel_rfl))⟩
 t4:=Tryz.underlying4
 a4:=Tryz.isAgg4
 z4:=Tryz.sizeOf4
 v4:=Tryz.zeroValue4
 t22:=Tryz.underlying28
 a22:=Tryz.isAgg28
 z22:=Tryz.sizeOf28
 v22:=Tryz.zeroValue28}
theorem ah3(a:Addr)(n c:Nat)(hn:n<=c)(w:World):Calls Tryz.prog 175 #[.slice (some a) n c] w fun e w'=>e=.returned (.slice (some a) n n)/\w'=w:=by
 go_enter Tryz.func175,Tryz.ntmps175
 go_wp2
 go_ret
 exact⟨rfl,rfl⟩
theorem acI(c:Nat)(w:World):Calls Tryz.prog 175 #[.slice none 0 c] w fun e w'=>e=.returned (.slice none 0 0)/\w'=w:=by
 go_enter Tryz.func175,Tryz.ntmps175
 go_wp2
 go_ret
 exact⟨rfl,rfl⟩
theorem LT(a:Addr)(n c:Nat)(news:List Value)(w:World)(k:Calls Tryz.prog 176 #[.slice (some a) n c] w fun e w'=>∃v',e=.returned v'/\w'.ownsRow w.heap.size 77 13 v' n news/\v'≠ .slice none 0 0/\Below w.heap.size w w'):
 Calls Tryz.prog 107 #[.slice (some a) n c] w fun e w'=>∃g cur,e=.returned (.slice (some ⟨g,0,none⟩) n n)/\w.heap.size<=g/\w'.heap[g]?=some (.cells cur 77 (0,0))/\n*13<=cur.size/\cur.toList.take (n*13)=news/\Below w.heap.size w w':=by
 go_enter Tryz.func107,Tryz.ntmps107
 go_wp2_with (go_at_call 176;refine k.mono ?_;rintro e w' ⟨v',rfl,hown,hnn,hB⟩)
 obtain⟨g,cap,cur,rfl,hle,hg,hh,hsz,htk⟩:=oM hown hnn;clear hown hnn;have k2:=ah3 ⟨g,0,none⟩ n cap hle w';have A:Aside (w'.heap[g]?=some (.cells cur 77 (0,0))/\cur.toList.take (n*13)=news/\n*13<=cur.size):=⟨hh,htk,hsz⟩;clear hh htk hsz
 go_wp2_with (go_at_call 175;refine k2.mono ?_;rintro e w'' ⟨rfl,rfl⟩)
 go_ret
 exact⟨g,cur,rfl,hg,A.out.1,A.out.2.2,A.out.2.1,hB⟩
theorem XR(n c:Nat)(w:World):Calls Tryz.prog 107 #[.slice none n c] w fun e w'=>e=.returned (.slice none 0 0)/\w'=w:=by
 have k:=AnyE.slices_Clone_nil RM n c w;have k2:=acI 0 w
 go_enter Tryz.func107,Tryz.ntmps107
 go_wp2_with (first|(go_at_call 176;refine k.mono ?_;rintro e w' ⟨rfl,rfl⟩)|(go_at_call 175;refine k2.mono ?_;rintro e w'' ⟨rfl,rfl⟩))
 go_ret
 exact⟨rfl,rfl⟩
variable [Gl] in
theorem acJ:cL Tryz.prog fun f' args imps=>if f'=107 then(dI 13 1024 args).map fun m=>(m,imps)else none:=by
 have hk:okT Tryz.prog 77=true:=by kernel_rfl
 have ht:tsize Tryz.prog 77=13:=by kernel_rfl
 have hb:Nat.ble (bT Tryz.prog 77) 1024=true:=by kernel_rfl
 obtain⟨i0,z,hi,hz,_,hzs⟩:=cG hk;have h1:i0.size=13:=by rw[<-ht];unfold tsize;rw[hi]
 have h2:i0.bytes<=1024:=by
  have:=qz hb;unfold bT at this;rw[hi]at this;exact this
 refine @jK _ _ _ 13 1024 77 (by decide) (fun v w=>cE (c:=(match Tryz.f107.body with|some c=>c|none=>.skip)) Tryz.func107 (by kernel_rfl) (by kernel_rfl) _ _) XR fun a n c news w hl hn hc ho=>?_
 have hnb:n*i0.bytes<=140737488355328:=kb (qw n h2) (by omega)
 by_cases h0:0<n
 ·obtain⟨hs,hc⟩:=hc h0;obtain⟨b,off,spot⟩:=a;simp only at hs;subst hs;exact LT _ n c news w (AnyE.slices_Clone RM i0 z 13 i0.bytes hi hz h1 rfl (by rw[hzs,ht]) (by decide) Tryz.sizeOf77 b off n c news w hl (by unfold maxLen;omega) hnb hc ho)
 ·obtain rfl:n=0:=by omega
  obtain rfl:news=[]:=qe.1 (by omega)
  exact LT _ 0 c [] w (lG RM i0 z 13 i0.bytes hi hz h1 rfl (by rw[hzs,ht]) (by decide) Tryz.sizeOf77 a c w)
def acK:Go.Shelf.Ren:=⟨fun|41=>178|n=>n,fun|22=>29|23=>3|4=>4|n=>n,fun|n=>n⟩
theorem I8:Go.Proofs.SlLaysE0.n41 Tryz.prog acK:={
 mixed:=by kernel_rfl
 f41:=⟨Tryz.f178.name,by decide,Tryz.func178.trans (wo some (by kernel_rfl))⟩
 t4:=Tryz.underlying4
 a4:=Tryz.isAgg4
 z4:=Tryz.sizeOf4
 v4:=Tryz.zeroValue4
 t22:=Tryz.underlying29
 a22:=Tryz.isAgg29
 z22:=Tryz.sizeOf29
 v22:=Tryz.zeroValue29}
theorem UV(a:Addr)(n c:Nat)(hn:n<=c)(w:World):Calls Tryz.prog 177 #[.slice (some a) n c] w fun e w'=>e=.returned (.slice (some a) n n)/\w'=w:=by
 go_enter Tryz.func177,Tryz.ntmps177
 go_wp2
 go_ret
 exact⟨rfl,rfl⟩
theorem PU(c:Nat)(w:World):Calls Tryz.prog 177 #[.slice none 0 c] w fun e w'=>e=.returned (.slice none 0 0)/\w'=w:=by
 go_enter Tryz.func177,Tryz.ntmps177
 go_wp2
 go_ret
 exact⟨rfl,rfl⟩
theorem C9(a:Addr)(n c:Nat)(news:List Value)(w:World)(k:Calls Tryz.prog 178 #[.slice (some a) n c] w fun e w'=>∃v',e=.returned v'/\w'.ownsRow w.heap.size 3 1 v' n news/\v'≠ .slice none 0 0/\Below w.heap.size w w'):
 Calls Tryz.prog 108 #[.slice (some a) n c] w fun e w'=>∃g cur,e=.returned (.slice (some ⟨g,0,none⟩) n n)/\w.heap.size<=g/\w'.heap[g]?=some (.cells cur 3 (0,0))/\n*1<=cur.size/\cur.toList.take (n*1)=news/\Below w.heap.size w w':=by
 go_enter Tryz.func108,Tryz.ntmps108
 go_wp2_with (go_at_call 178;refine k.mono ?_;rintro e w' ⟨v',rfl,hown,hnn,hB⟩)
 obtain⟨g,cap,cur,rfl,hle,hg,hh,hsz,htk⟩:=oM hown hnn;clear hown hnn;have k2:=UV ⟨g,0,none⟩ n cap hle w';have A:Aside (w'.heap[g]?=some (.cells cur 3 (0,0))/\cur.toList.take (n*1)=news/\n*1<=cur.size):=⟨hh,htk,hsz⟩;clear hh htk hsz
 go_wp2_with (go_at_call 177;refine k2.mono ?_;rintro e w'' ⟨rfl,rfl⟩)
 go_ret
 exact⟨g,cur,rfl,hg,A.out.1,A.out.2.2,A.out.2.1,hB⟩
theorem XS(n c:Nat)(w:World):Calls Tryz.prog 108 #[.slice none n c] w fun e w'=>e=.returned (.slice none 0 0)/\w'=w:=by
 have k:=AnyE.slices_Clone_nil I8 n c w;have k2:=PU 0 w
 go_enter Tryz.func108,Tryz.ntmps108
 go_wp2_with (first|(go_at_call 178;refine k.mono ?_;rintro e w' ⟨rfl,rfl⟩)|(go_at_call 177;refine k2.mono ?_;rintro e w'' ⟨rfl,rfl⟩))
 go_ret
 exact⟨rfl,rfl⟩
variable [Gl] in
theorem acL:cL Tryz.prog fun f' args imps=>if f'=108 then(dI 1 1024 args).map fun m=>(m,imps)else none:=by
 have hk:okT Tryz.prog 3=true:=by kernel_rfl
 have ht:tsize Tryz.prog 3=1:=by kernel_rfl
 have hb:Nat.ble (bT Tryz.prog 3) 1024=true:=by kernel_rfl
 obtain⟨i0,z,hi,hz,_,hzs⟩:=cG hk;have h1:i0.size=1:=by rw[<-ht];unfold tsize;rw[hi]
 have h2:i0.bytes<=1024:=by
  have:=qz hb;unfold bT at this;rw[hi]at this;exact this
 refine @jK _ _ _ 1 1024 3 (by decide) (fun v w=>cE (c:=(match Tryz.f108.body with|some c=>c|none=>.skip)) Tryz.func108 (by kernel_rfl) (by kernel_rfl) _ _) XS fun a n c news w hl hn hc ho=>?_
 have hnb:n*i0.bytes<=140737488355328:=kb (qw n h2) (by omega)
 by_cases h0:0<n
 ·obtain⟨hs,hc⟩:=hc h0;obtain⟨b,off,spot⟩:=a;simp only at hs;subst hs;exact C9 _ n c news w (AnyE.slices_Clone I8 i0 z 1 i0.bytes hi hz h1 rfl (by rw[hzs,ht]) (by decide) Tryz.sizeOf3 b off n c news w hl (by unfold maxLen;omega) hnb hc ho)
 ·obtain rfl:n=0:=by omega
  obtain rfl:news=[]:=qe.1 (by omega)
  exact C9 _ 0 c [] w (lG I8 i0 z 1 i0.bytes hi hz h1 rfl (by rw[hzs,ht]) (by decide) Tryz.sizeOf3 a c w)
def acM:Go.Shelf.Ren:=⟨fun|41=>180|n=>n,fun|22=>31|23=>87|4=>4|n=>n,fun|n=>n⟩
theorem RN:Go.Proofs.SlLaysE0.n41 Tryz.prog acM:={
 mixed:=by kernel_rfl
 f41:=⟨Tryz.f180.name,by decide,Tryz.func180.trans (wo some (by kernel_rfl))⟩
 t4:=Tryz.underlying4
 a4:=Tryz.isAgg4
 z4:=Tryz.sizeOf4
 v4:=Tryz.zeroValue4
 t22:=Tryz.underlying31
 a22:=Tryz.isAgg31
 z22:=Tryz.sizeOf31
 v22:=Tryz.zeroValue31}
theorem ah4(a:Addr)(n c:Nat)(hn:n<=c)(w:World):Calls Tryz.prog 179 #[.slice (some a) n c] w fun e w'=>e=.returned (.slice (some a) n n)/\w'=w:=by
 go_enter Tryz.func179,Tryz.ntmps179
 go_wp2
 go_ret
 exact⟨rfl,rfl⟩
theorem acN(c:Nat)(w:World):Calls Tryz.prog 179 #[.slice none 0 c] w fun e w'=>e=.returned (.slice none 0 0)/\w'=w:=by
 go_enter Tryz.func179,Tryz.ntmps179
 go_wp2
 go_ret
 exact⟨rfl,rfl⟩
theorem LU(a:Addr)(n c:Nat)(news:List Value)(w:World)(k:Calls Tryz.prog 180 #[.slice (some a) n c] w fun e w'=>∃v',e=.returned v'/\w'.ownsRow w.heap.size 87 2 v' n news/\v'≠ .slice none 0 0/\Below w.heap.size w w'):
 Calls Tryz.prog 109 #[.slice (some a) n c] w fun e w'=>∃g cur,e=.returned (.slice (some ⟨g,0,none⟩) n n)/\w.heap.size<=g/\w'.heap[g]?=some (.cells cur 87 (0,0))/\n*2<=cur.size/\cur.toList.take (n*2)=news/\Below w.heap.size w w':=by
 go_enter Tryz.func109,Tryz.ntmps109
 go_wp2_with (go_at_call 180;refine k.mono ?_;rintro e w' ⟨v',rfl,hown,hnn,hB⟩)
 obtain⟨g,cap,cur,rfl,hle,hg,hh,hsz,htk⟩:=oM hown hnn;clear hown hnn;have k2:=ah4 ⟨g,0,none⟩ n cap hle w';have A:Aside (w'.heap[g]?=some (.cells cur 87 (0,0))/\cur.toList.take (n*2)=news/\n*2<=cur.size):=⟨hh,htk,hsz⟩;clear hh htk hsz
 go_wp2_with (go_at_call 179;refine k2.mono ?_;rintro e w'' ⟨rfl,rfl⟩)
 go_ret
 exact⟨g,cur,rfl,hg,A.out.1,A.out.2.2,A.out.2.1,hB⟩
theorem XT(n c:Nat)(w:World):Calls Tryz.prog 109 #[.slice none n c] w fun e w'=>e=.returned (.slice none 0 0)/\w'=w:=by
 have k:=AnyE.slices_Clone_nil RN n c w;have k2:=acN 0 w
 go_enter Tryz.func109,Tryz.ntmps109
 go_wp2_with (first|(go_at_call 180;refine k.mono ?_;rintro e w' ⟨rfl,rfl⟩)|(go_at_call 179;refine k2.mono ?_;rintro e w'' ⟨rfl,rfl⟩))
 go_ret
 exact⟨rfl,rfl⟩
variable [Gl] in
theorem acO:cL Tryz.prog fun f' args imps=>if f'=109 then(dI 2 1024 args).map fun m=>(m,imps)else none:=by
 have hk:okT Tryz.prog 87=true:=by kernel_rfl
 have ht:tsize Tryz.prog 87=2:=by kernel_rfl
 have hb:Nat.ble (bT Tryz.prog 87) 1024=true:=by kernel_rfl
 obtain⟨i0,z,hi,hz,_,hzs⟩:=cG hk;have h1:i0.size=2:=by rw[<-ht];unfold tsize;rw[hi]
 have h2:i0.bytes<=1024:=by
  have:=qz hb;unfold bT at this;rw[hi]at this;exact this
 refine @jK _ _ _ 2 1024 87 (by decide) (fun v w=>cE (c:=(match Tryz.f109.body with|some c=>c|none=>.skip)) Tryz.func109 (by kernel_rfl) (by kernel_rfl) _ _) XT fun a n c news w hl hn hc ho=>?_
 have hnb:n*i0.bytes<=140737488355328:=kb (qw n h2) (by omega)
 by_cases h0:0<n
 ·obtain⟨hs,hc⟩:=hc h0;obtain⟨b,off,spot⟩:=a;simp only at hs;subst hs;exact LU _ n c news w (AnyE.slices_Clone RN i0 z 2 i0.bytes hi hz h1 rfl (by rw[hzs,ht]) (by decide) Tryz.sizeOf87 b off n c news w hl (by unfold maxLen;omega) hnb hc ho)
 ·obtain rfl:n=0:=by omega
  obtain rfl:news=[]:=qe.1 (by omega)
  exact LU _ 0 c [] w (lG RN i0 z 2 i0.bytes hi hz h1 rfl (by rw[hzs,ht]) (by decide) Tryz.sizeOf87 a c w)
def acP:Go.Shelf.Ren:=⟨fun|41=>182|n=>n,fun|22=>32|23=>91|4=>4|n=>n,fun|n=>n⟩
theorem RO:Go.Proofs.SlLaysE0.n41 Tryz.prog acP:={
 mixed:=by kernel_rfl
 f41:=⟨Tryz.f182.name,by decide,Tryz.func182.trans (wo some (by kernel_rfl))⟩
 t4:=Tryz.underlying4
 a4:=Tryz.isAgg4
 z4:=Tryz.sizeOf4
 v4:=Tryz.zeroValue4
 t22:=Tryz.underlying32
 a22:=Tryz.isAgg32
 z22:=Tryz.sizeOf32
 v22:=Tryz.zeroValue32}
theorem ah5(a:Addr)(n c:Nat)(hn:n<=c)(w:World):Calls Tryz.prog 181 #[.slice (some a) n c] w fun e w'=>e=.returned (.slice (some a) n n)/\w'=w:=by
 go_enter Tryz.func181,Tryz.ntmps181
 go_wp2
 go_ret
 exact⟨rfl,rfl⟩
theorem acQ(c:Nat)(w:World):Calls Tryz.prog 181 #[.slice none 0 c] w fun e w'=>e=.returned (.slice none 0 0)/\w'=w:=by
 go_enter Tryz.func181,Tryz.ntmps181
 go_wp2
 go_ret
 exact⟨rfl,rfl⟩
theorem LV(a:Addr)(n c:Nat)(news:List Value)(w:World)(k:Calls Tryz.prog 182 #[.slice (some a) n c] w fun e w'=>∃v',e=.returned v'/\w'.ownsRow w.heap.size 91 4 v' n news/\v'≠ .slice none 0 0/\Below w.heap.size w w'):
 Calls Tryz.prog 110 #[.slice (some a) n c] w fun e w'=>∃g cur,e=.returned (.slice (some ⟨g,0,none⟩) n n)/\w.heap.size<=g/\w'.heap[g]?=some (.cells cur 91 (0,0))/\n*4<=cur.size/\cur.toList.take (n*4)=news/\Below w.heap.size w w':=by
 go_enter Tryz.func110,Tryz.ntmps110
 go_wp2_with (go_at_call 182;refine k.mono ?_;rintro e w' ⟨v',rfl,hown,hnn,hB⟩)
 obtain⟨g,cap,cur,rfl,hle,hg,hh,hsz,htk⟩:=oM hown hnn;clear hown hnn;have k2:=ah5 ⟨g,0,none⟩ n cap hle w';have A:Aside (w'.heap[g]?=some (.cells cur 91 (0,0))/\cur.toList.take (n*4)=news/\n*4<=cur.size):=⟨hh,htk,hsz⟩;clear hh htk hsz
 go_wp2_with (go_at_call 181;refine k2.mono ?_;rintro e w'' ⟨rfl,rfl⟩)
 go_ret
 exact⟨g,cur,rfl,hg,A.out.1,A.out.2.2,A.out.2.1,hB⟩
theorem XU(n c:Nat)(w:World):Calls Tryz.prog 110 #[.slice none n c] w fun e w'=>e=.returned (.slice none 0 0)/\w'=w:=by
 have k:=AnyE.slices_Clone_nil RO n c w;have k2:=acQ 0 w
 go_enter Tryz.func110,Tryz.ntmps110
 go_wp2_with (first|(go_at_call 182;refine k.mono ?_;rintro e w' ⟨rfl,rfl⟩)|(go_at_call 181;refine k2.mono ?_;rintro e w'' ⟨rfl,rfl⟩))
 go_ret
 exact⟨rfl,rfl⟩
variable [Gl] in
theorem acR:cL Tryz.prog fun f' args imps=>if f'=110 then(dI 4 1024 args).map fun m=>(m,imps)else none:=by
 have hk:okT Tryz.prog 91=true:=by kernel_rfl
 have ht:tsize Tryz.prog 91=4:=by kernel_rfl
 have hb:Nat.ble (bT Tryz.prog 91) 1024=true:=by kernel_rfl
 obtain⟨i0,z,hi,hz,_,hzs⟩:=cG hk;have h1:i0.size=4:=by rw[<-ht];unfold tsize;rw[hi]
 have h2:i0.bytes<=1024:=by
  have:=qz hb;unfold bT at this;rw[hi]at this;exact this
 refine @jK _ _ _ 4 1024 91 (by decide) (fun v w=>cE (c:=(match Tryz.f110.body with|some c=>c|none=>.skip)) Tryz.func110 (by kernel_rfl) (by kernel_rfl) _ _) XU fun a n c news w hl hn hc ho=>?_
 have hnb:n*i0.bytes<=140737488355328:=kb (qw n h2) (by omega)
 by_cases h0:0<n
 ·obtain⟨hs,hc⟩:=hc h0;obtain⟨b,off,spot⟩:=a;simp only at hs;subst hs;exact LV _ n c news w (AnyE.slices_Clone RO i0 z 4 i0.bytes hi hz h1 rfl (by rw[hzs,ht]) (by decide) Tryz.sizeOf91 b off n c news w hl (by unfold maxLen;omega) hnb hc ho)
 ·obtain rfl:n=0:=by omega
  obtain rfl:news=[]:=qe.1 (by omega)
  exact LV _ 0 c [] w (lG RO i0 z 4 i0.bytes hi hz h1 rfl (by rw[hzs,ht]) (by decide) Tryz.sizeOf91 a c w)
def acS:Go.Shelf.Ren:=⟨fun|41=>184|n=>n,fun|22=>33|23=>68|4=>4|n=>n,fun|n=>n⟩
theorem RP:Go.Proofs.SlLaysE0.n41 Tryz.prog acS:={
 mixed:=by kernel_rfl
 f41:=⟨Tryz.f184.name,by decide,Tryz.func184.trans (wo some (by kernel_rfl))⟩
 t4:=Tryz.underlying4
 a4:=Tryz.isAgg4
 z4:=Tryz.sizeOf4
 v4:=Tryz.zeroValue4
 t22:=Tryz.underlying33
 a22:=Tryz.isAgg33
 z22:=Tryz.sizeOf33
 v22:=Tryz.zeroValue33}
theorem ah6(a:Addr)(n c:Nat)(hn:n<=c)(w:World):Calls Tryz.prog 183 #[.slice (some a) n c] w fun e w'=>e=.returned (.slice (some a) n n)/\w'=w:=by
 go_enter Tryz.func183,Tryz.ntmps183
 go_wp2
 go_ret
 exact⟨rfl,rfl⟩
theorem acT(c:Nat)(w:World):Calls Tryz.prog 183 #[.slice none 0 c] w fun e w'=>e=.returned (.slice none 0 0)/\w'=w:=by
 go_enter Tryz.func183,Tryz.ntmps183
 go_wp2
 go_ret
 exact⟨rfl,rfl⟩
theorem LW(a:Addr)(n c:Nat)(news:List Value)(w:World)(k:Calls Tryz.prog 184 #[.slice (some a) n c] w fun e w'=>∃v',e=.returned v'/\w'.ownsRow w.heap.size 68 1 v' n news/\v'≠ .slice none 0 0/\Below w.heap.size w w'):
 Calls Tryz.prog 111 #[.slice (some a) n c] w fun e w'=>∃g cur,e=.returned (.slice (some ⟨g,0,none⟩) n n)/\w.heap.size<=g/\w'.heap[g]?=some (.cells cur 68 (0,0))/\n*1<=cur.size/\cur.toList.take (n*1)=news/\Below w.heap.size w w':=by
 go_enter Tryz.func111,Tryz.ntmps111
 go_wp2_with (go_at_call 184;refine k.mono ?_;rintro e w' ⟨v',rfl,hown,hnn,hB⟩)
 obtain⟨g,cap,cur,rfl,hle,hg,hh,hsz,htk⟩:=oM hown hnn;clear hown hnn;have k2:=ah6 ⟨g,0,none⟩ n cap hle w';have A:Aside (w'.heap[g]?=some (.cells cur 68 (0,0))/\cur.toList.take (n*1)=news/\n*1<=cur.size):=⟨hh,htk,hsz⟩;clear hh htk hsz
 go_wp2_with (go_at_call 183;refine k2.mono ?_;rintro e w'' ⟨rfl,rfl⟩)
 go_ret
 exact⟨g,cur,rfl,hg,A.out.1,A.out.2.2,A.out.2.1,hB⟩
theorem XV(n c:Nat)(w:World):Calls Tryz.prog 111 #[.slice none n c] w fun e w'=>e=.returned (.slice none 0 0)/\w'=w:=by
 have k:=AnyE.slices_Clone_nil RP n c w;have k2:=acT 0 w
 go_enter Tryz.func111,Tryz.ntmps111
 go_wp2_with (first|(go_at_call 184;refine k.mono ?_;rintro e w' ⟨rfl,rfl⟩)|(go_at_call 183;refine k2.mono ?_;rintro e w'' ⟨rfl,rfl⟩))
 go_ret
 exact⟨rfl,rfl⟩
variable [Gl] in
theorem acU:cL Tryz.prog fun f' args imps=>if f'=111 then(dI 1 1024 args).map fun m=>(m,imps)else none:=by
 have hk:okT Tryz.prog 68=true:=by kernel_rfl
 have ht:tsize Tryz.prog 68=1:=by kernel_rfl
 have hb:Nat.ble (bT Tryz.prog 68) 1024=true:=by kernel_rfl
 obtain⟨i0,z,hi,hz,_,hzs⟩:=cG hk;have h1:i0.size=1:=by rw[<-ht];unfold tsize;rw[hi]
 have h2:i0.bytes<=1024:=by
  have:=qz hb;unfold bT at this;rw[hi]at this;exact this
 refine @jK _ _ _ 1 1024 68 (by decide) (fun v w=>cE (c:=(match Tryz.f111.body with|some c=>c|none=>.skip)) Tryz.func111 (by kernel_rfl) (by kernel_rfl) _ _) XV fun a n c news w hl hn hc ho=>?_
 have hnb:n*i0.bytes<=140737488355328:=kb (qw n h2) (by omega)
 by_cases h0:0<n
 ·obtain⟨hs,hc⟩:=hc h0;obtain⟨b,off,spot⟩:=a;simp only at hs;subst hs;exact LW _ n c news w (AnyE.slices_Clone RP i0 z 1 i0.bytes hi hz h1 rfl (by rw[hzs,ht]) (by decide) Tryz.sizeOf68 b off n c news w hl (by unfold maxLen;omega) hnb hc ho)
 ·obtain rfl:n=0:=by omega
  obtain rfl:news=[]:=qe.1 (by omega)
  exact LW _ 0 c [] w (lG RP i0 z 1 i0.bytes hi hz h1 rfl (by rw[hzs,ht]) (by decide) Tryz.sizeOf68 a c w)
def acV:Go.Shelf.Ren:=⟨fun|41=>186|n=>n,fun|22=>34|23=>95|4=>4|n=>n,fun|n=>n⟩
theorem RQ:Go.Proofs.SlLaysE0.n41 Tryz.prog acV:={
 mixed:=by kernel_rfl
 f41:=⟨Tryz.f186.name,by decide,Tryz.func186.trans (wo some (by kernel_rfl))⟩
 t4:=Tryz.underlying4
 a4:=Tryz.isAgg4
 z4:=Tryz.sizeOf4
 v4:=Tryz.zeroValue4
 t22:=Tryz.underlying34
 a22:=Tryz.isAgg34
 z22:=Tryz.sizeOf34
 v22:=Tryz.zeroValue34}
theorem ah7(a:Addr)(n c:Nat)(hn:n<=c)(w:World):Calls Tryz.prog 185 #[.slice (some a) n c] w fun e w'=>e=.returned (.slice (some a) n n)/\w'=w:=by
 go_enter Tryz.func185,Tryz.ntmps185
 go_wp2
 go_ret
 exact⟨rfl,rfl⟩
theorem acW(c:Nat)(w:World):Calls Tryz.prog 185 #[.slice none 0 c] w fun e w'=>e=.returned (.slice none 0 0)/\w'=w:=by
 go_enter Tryz.func185,Tryz.ntmps185
 go_wp2
 go_ret
 exact⟨rfl,rfl⟩
theorem LX(a:Addr)(n c:Nat)(news:List Value)(w:World)(k:Calls Tryz.prog 186 #[.slice (some a) n c] w fun e w'=>∃v',e=.returned v'/\w'.ownsRow w.heap.size 95 2 v' n news/\v'≠ .slice none 0 0/\Below w.heap.size w w'):
 Calls Tryz.prog 112 #[.slice (some a) n c] w fun e w'=>∃g cur,e=.returned (.slice (some ⟨g,0,none⟩) n n)/\w.heap.size<=g/\w'.heap[g]?=some (.cells cur 95 (0,0))/\n*2<=cur.size/\cur.toList.take (n*2)=news/\Below w.heap.size w w':=by
 go_enter Tryz.func112,Tryz.ntmps112
 go_wp2_with (go_at_call 186;refine k.mono ?_;rintro e w' ⟨v',rfl,hown,hnn,hB⟩)
 obtain⟨g,cap,cur,rfl,hle,hg,hh,hsz,htk⟩:=oM hown hnn;clear hown hnn;have k2:=ah7 ⟨g,0,none⟩ n cap hle w';have A:Aside (w'.heap[g]?=some (.cells cur 95 (0,0))/\cur.toList.take (n*2)=news/\n*2<=cur.size):=⟨hh,htk,hsz⟩;clear hh htk hsz
 go_wp2_with (go_at_call 185;refine k2.mono ?_;rintro e w'' ⟨rfl,rfl⟩)
 go_ret
 exact⟨g,cur,rfl,hg,A.out.1,A.out.2.2,A.out.2.1,hB⟩
theorem XW(n c:Nat)(w:World):Calls Tryz.prog 112 #[.slice none n c] w fun e w'=>e=.returned (.slice none 0 0)/\w'=w:=by
 have k:=AnyE.slices_Clone_nil RQ n c w;have k2:=acW 0 w
 go_enter Tryz.func112,Tryz.ntmps112
 go_wp2_with (first|(go_at_call 186;refine k.mono ?_;rintro e w' ⟨rfl,rfl⟩)|(go_at_call 185;refine k2.mono ?_;rintro e w'' ⟨rfl,rfl⟩))
 go_ret
 exact⟨rfl,rfl⟩
variable [Gl] in
theorem acX:cL Tryz.prog fun f' args imps=>if f'=112 then(dI 2 1024 args).map fun m=>(m,imps)else none:=by
 have hk:okT Tryz.prog 95=true:=by kernel_rfl
 have ht:tsize Tryz.prog 95=2:=by kernel_rfl
 have hb:Nat.ble (bT Tryz.prog 95) 1024=true:=by kernel_rfl
 obtain⟨i0,z,hi,hz,_,hzs⟩:=cG hk;have h1:i0.size=2:=by rw[<-ht];unfold tsize;rw[hi]
 have h2:i0.bytes<=1024:=by
  have:=qz hb;unfold bT at this;rw[hi]at this;exact this
 refine @jK _ _ _ 2 1024 95 (by decide) (fun v w=>cE (c:=(match Tryz.f112.body with|some c=>c|none=>.skip)) Tryz.func112 (by kernel_rfl) (by kernel_rfl) _ _) XW fun a n c news w hl hn hc ho=>?_
 have hnb:n*i0.bytes<=140737488355328:=kb (qw n h2) (by omega)
 by_cases h0:0<n
 ·obtain⟨hs,hc⟩:=hc h0;obtain⟨b,off,spot⟩:=a;simp only at hs;subst hs;exact LX _ n c news w (AnyE.slices_Clone RQ i0 z 2 i0.bytes hi hz h1 rfl (by rw[hzs,ht]) (by decide) Tryz.sizeOf95 b off n c news w hl (by unfold maxLen;omega) hnb hc ho)
 ·obtain rfl:n=0:=by omega
  obtain rfl:news=[]:=qe.1 (by omega)
  exact LX _ 0 c [] w (lG RQ i0 z 2 i0.bytes hi hz h1 rfl (by rw[hzs,ht]) (by decide) Tryz.sizeOf95 a c w)
def acY:Go.Shelf.Ren:=⟨fun|41=>235|n=>n,fun|22=>41|23=>109|4=>4|n=>n,fun|n=>n⟩
theorem RR:Go.Proofs.SlLaysE0.n41 Tryz.prog acY:={
 mixed:=by kernel_rfl
 f41:=⟨Tryz.f235.name,by decide,Tryz.func235.trans (wo some (by kernel_rfl))⟩
 t4:=Tryz.underlying4
 a4:=Tryz.isAgg4
 z4:=Tryz.sizeOf4
 v4:=Tryz.zeroValue4
 t22:=Tryz.underlying41
 a22:=Tryz.isAgg41
 z22:=Tryz.sizeOf41
 v22:=Tryz.zeroValue41}
theorem ah8(a:Addr)(n c:Nat)(hn:n<=c)(w:World):Calls Tryz.prog 234 #[.slice (some a) n c] w fun e w'=>e=.returned (.slice (some a) n n)/\w'=w:=by
 go_enter Tryz.func234,Tryz.ntmps234
 go_wp2
 go_ret
 exact⟨rfl,rfl⟩
theorem acZ(c:Nat)(w:World):Calls Tryz.prog 234 #[.slice none 0 c] w fun e w'=>e=.returned (.slice none 0 0)/\w'=w:=by
 go_enter Tryz.func234,Tryz.ntmps234
 go_wp2
 go_ret
 exact⟨rfl,rfl⟩
theorem LY(a:Addr)(n c:Nat)(news:List Value)(w:World)(k:Calls Tryz.prog 235 #[.slice (some a) n c] w fun e w'=>∃v',e=.returned v'/\w'.ownsRow w.heap.size 109 2 v' n news/\v'≠ .slice none 0 0/\Below w.heap.size w w'):
 Calls Tryz.prog 188 #[.slice (some a) n c] w fun e w'=>∃g cur,e=.returned (.slice (some ⟨g,0,none⟩) n n)/\w.heap.size<=g/\w'.heap[g]?=some (.cells cur 109 (0,0))/\n*2<=cur.size/\cur.toList.take (n*2)=news/\Below w.heap.size w w':=by
 go_enter Tryz.func188,Tryz.ntmps188
 go_wp2_with (go_at_call 235;refine k.mono ?_;rintro e w' ⟨v',rfl,hown,hnn,hB⟩)
 obtain⟨g,cap,cur,rfl,hle,hg,hh,hsz,htk⟩:=oM hown hnn;clear hown hnn;have k2:=ah8 ⟨g,0,none⟩ n cap hle w';have A:Aside (w'.heap[g]?=some (.cells cur 109 (0,0))/\cur.toList.take (n*2)=news/\n*2<=cur.size):=⟨hh,htk,hsz⟩;clear hh htk hsz
 go_wp2_with (go_at_call 234;refine k2.mono ?_;rintro e w'' ⟨rfl,rfl⟩)
 go_ret
 exact⟨g,cur,rfl,hg,A.out.1,A.out.2.2,A.out.2.1,hB⟩
theorem XX(n c:Nat)(w:World):Calls Tryz.prog 188 #[.slice none n c] w fun e w'=>e=.returned (.slice none 0 0)/\w'=w:=by
 have k:=AnyE.slices_Clone_nil RR n c w;have k2:=acZ 0 w
 go_enter Tryz.func188,Tryz.ntmps188
 go_wp2_with (first|(go_at_call 235;refine k.mono ?_;rintro e w' ⟨rfl,rfl⟩)|(go_at_call 234;refine k2.mono ?_;rintro e w'' ⟨rfl,rfl⟩))
 go_ret
 exact⟨rfl,rfl⟩
variable [Gl] in
theorem ad0:cL Tryz.prog fun f' args imps=>if f'=188 then(dI 2 1024 args).map fun m=>(m,imps)else none:=by
 have hk:okT Tryz.prog 109=true:=by kernel_rfl
 have ht:tsize Tryz.prog 109=2:=by kernel_rfl
 have hb:Nat.ble (bT Tryz.prog 109) 1024=true:=by kernel_rfl
 obtain⟨i0,z,hi,hz,_,hzs⟩:=cG hk;have h1:i0.size=2:=by rw[<-ht];unfold tsize;rw[hi]
 have h2:i0.bytes<=1024:=by
  have:=qz hb;unfold bT at this;rw[hi]at this;exact this
 refine @jK _ _ _ 2 1024 109 (by decide) (fun v w=>cE (c:=(match Tryz.f188.body with|some c=>c|none=>.skip)) Tryz.func188 (by kernel_rfl) (by kernel_rfl) _ _) XX fun a n c news w hl hn hc ho=>?_
 have hnb:n*i0.bytes<=140737488355328:=kb (qw n h2) (by omega)
 by_cases h0:0<n
 ·obtain⟨hs,hc⟩:=hc h0;obtain⟨b,off,spot⟩:=a;simp only at hs;subst hs;exact LY _ n c news w (AnyE.slices_Clone RR i0 z 2 i0.bytes hi hz h1 rfl (by rw[hzs,ht]) (by decide) Tryz.sizeOf109 b off n c news w hl (by unfold maxLen;omega) hnb hc ho)
 ·obtain rfl:n=0:=by omega
  obtain rfl:news=[]:=qe.1 (by omega)
  exact LY _ 0 c [] w (lG RR i0 z 2 i0.bytes hi hz h1 rfl (by rw[hzs,ht]) (by decide) Tryz.sizeOf109 a c w)
def ad1:Go.Shelf.Ren:=⟨fun|41=>237|n=>n,fun|22=>68|23=>124|4=>4|n=>n,fun|n=>n⟩
theorem RS:Go.Proofs.SlLaysE0.n41 Tryz.prog ad1:={
 mixed:=by kernel_rfl
 f41:=⟨Tryz.f237.name,by decide,Tryz.func237.trans (wo some (by kernel_rfl))⟩
 t4:=Tryz.underlying4
 a4:=Tryz.isAgg4
 z4:=Tryz.sizeOf4
 v4:=Tryz.zeroValue4
 t22:=Tryz.underlying68
 a22:=Tryz.isAgg68
 z22:=Tryz.sizeOf68
 v22:=Tryz.zeroValue68}
theorem ah9(a:Addr)(n c:Nat)(hn:n<=c)(w:World):Calls Tryz.prog 236 #[.slice (some a) n c] w fun e w'=>e=.returned (.slice (some a) n n)/\w'=w:=by
 go_enter Tryz.func236,Tryz.ntmps236
 go_wp2
 go_ret
 exact⟨rfl,rfl⟩
theorem ad2(c:Nat)(w:World):Calls Tryz.prog 236 #[.slice none 0 c] w fun e w'=>e=.returned (.slice none 0 0)/\w'=w:=by
 go_enter Tryz.func236,Tryz.ntmps236
 go_wp2
 go_ret
 exact⟨rfl,rfl⟩
theorem LZ(a:Addr)(n c:Nat)(news:List Value)(w:World)(k:Calls Tryz.prog 237 #[.slice (some a) n c] w fun e w'=>∃v',e=.returned v'/\w'.ownsRow w.heap.size 124 3 v' n news/\v'≠ .slice none 0 0/\Below w.heap.size w w'):
 Calls Tryz.prog 189 #[.slice (some a) n c] w fun e w'=>∃g cur,e=.returned (.slice (some ⟨g,0,none⟩) n n)/\w.heap.size<=g/\w'.heap[g]?=some (.cells cur 124 (0,0))/\n*3<=cur.size/\cur.toList.take (n*3)=news/\Below w.heap.size w w':=by
 go_enter Tryz.func189,Tryz.ntmps189
 go_wp2_with (go_at_call 237;refine k.mono ?_;rintro e w' ⟨v',rfl,hown,hnn,hB⟩)
 obtain⟨g,cap,cur,rfl,hle,hg,hh,hsz,htk⟩:=oM hown hnn;clear hown hnn;have k2:=ah9 ⟨g,0,none⟩ n cap hle w';have A:Aside (w'.heap[g]?=some (.cells cur 124 (0,0))/\cur.toList.take (n*3)=news/\n*3<=cur.size):=⟨hh,htk,hsz⟩;clear hh htk hsz
 go_wp2_with (go_at_call 236;refine k2.mono ?_;rintro e w'' ⟨rfl,rfl⟩)
 go_ret
 exact⟨g,cur,rfl,hg,A.out.1,A.out.2.2,A.out.2.1,hB⟩
theorem XY(n c:Nat)(w:World):Calls Tryz.prog 189 #[.slice none n c] w fun e w'=>e=.returned (.slice none 0 0)/\w'=w:=by
 have k:=AnyE.slices_Clone_nil RS n c w;have k2:=ad2 0 w
 go_enter Tryz.func189,Tryz.ntmps189
 go_wp2_with (first|(go_at_call 237;refine k.mono ?_;rintro e w' ⟨rfl,rfl⟩)|(go_at_call 236;refine k2.mono ?_;rintro e w'' ⟨rfl,rfl⟩))
 go_ret
 exact⟨rfl,rfl⟩
variable [Gl] in
theorem ad3:cL Tryz.prog fun f' args imps=>if f'=189 then(dI 3 1024 args).map fun m=>(m,imps)else none:=by
 have hk:okT Tryz.prog 124=true:=by kernel_rfl
 have ht:tsize Tryz.prog 124=3:=by kernel_rfl
 have hb:Nat.ble (bT Tryz.prog 124) 1024=true:=by kernel_rfl
 obtain⟨i0,z,hi,hz,_,hzs⟩:=cG hk;have h1:i0.size=3:=by rw[<-ht];unfold tsize;rw[hi]
 have h2:i0.bytes<=1024:=by
  have:=qz hb;unfold bT at this;rw[hi]at this;exact this
 refine @jK _ _ _ 3 1024 124 (by decide) (fun v w=>cE (c:=(match Tryz.f189.body with|some c=>c|none=>.skip)) Tryz.func189 (by kernel_rfl) (by kernel_rfl) _ _) XY fun a n c news w hl hn hc ho=>?_
 have hnb:n*i0.bytes<=140737488355328:=kb (qw n h2) (by omega)
 by_cases h0:0<n
 ·obtain⟨hs,hc⟩:=hc h0;obtain⟨b,off,spot⟩:=a;simp only at hs;subst hs;exact LZ _ n c news w (AnyE.slices_Clone RS i0 z 3 i0.bytes hi hz h1 rfl (by rw[hzs,ht]) (by decide) Tryz.sizeOf124 b off n c news w hl (by unfold maxLen;omega) hnb hc ho)
 ·obtain rfl:n=0:=by omega
  obtain rfl:news=[]:=qe.1 (by omega)
  exact LZ _ 0 c [] w (lG RS i0 z 3 i0.bytes hi hz h1 rfl (by rw[hzs,ht]) (by decide) Tryz.sizeOf124 a c w)
end Kw
namespace Kw
open Go Go.RowKit
variable [Gl]
theorem QH{w:World}{prot:Nat->Prop}{vals:Array Value}{m:MV}(hv:Rl (fun v m=>SV w prot v m) vals.toList [m]):∃v,vals= #[v]/\SV w prot v m:=by
 obtain⟨l⟩:=vals;change Rl _ l _ at hv;cases hv with
 |cons h1 h2=>cases h2;exact⟨_,rfl,h1⟩
theorem ajT{w:World}{prot:Nat->Prop}{vals:Array Value}{m n:MV}(hv:Rl (fun v m=>SV w prot v m) vals.toList [m,n]):∃v u,vals= #[v,u]/\SV w prot v m/\SV w prot u n:=by
 obtain⟨l⟩:=vals;change Rl _ l _ at hv;cases hv with
 |cons h1 h2=>cases h2 with|cons h3 h4=>cases h4;exact⟨_,_,rfl,h1,h3⟩
theorem Y4{P:Program}{K:FuncId}(enter:∀v w,(callFunc K #[v]).run P w=.ok (.enter K #[v]) w)
 (hs:∀(a:Addr) (n c:Nat),n<=c->∀w,Calls P K #[.slice (some a) n c] w fun e w'=>e=.returned (.slice (some a) n n)/\w'=w)
 (hn:∀(c:Nat) (w:World),Calls P K #[.slice none 0 c] w fun e w'=>e=.returned (.slice none 0 0)/\w'=w):
 cL P fun f' args imps=>if f'=K then(DX args).map fun m=>(m,imps)else none:=by
 refine Q7 (q:=DX) (fun args m h=>?_) fun args m h vals w prot hp hv=>?_
 ·unfold DX at h;split at h
  ·rfl
  ·cases h
 unfold DX at h;split at h
 case h_2=>cases h
 cases h;obtain⟨v,e,hsv⟩:=QH hv;subst e;refine eV (enter v w) ?_;cases hsv with
 | @sl a n c rows sz vf hl hc hrow had hsv=>
   cases a with
   |none=>
    have h0:n=0:=by
     by_cases h0:0<n
     ·obtain⟨ad,e,_⟩:=had h0;cases e
     ·omega
    subst h0;refine(hn c w).mono fun e w' ⟨he,hw⟩=>⟨_,he,.one ?_ rfl,by rw[hw];exact Below.refl _ w⟩
    subst hw;exact .sl sz vf hl (kg _) hrow (fun h=>absurd h (yz 0)) hsv
   |some ad=>
    refine(hs ad n c hc w).mono fun e w' ⟨he,hw⟩=>⟨_,he,.one ?_ rfl,by rw[hw];exact Below.refl _ w⟩
    subst hw;exact .sl sz vf hl (kg _) hrow had hsv
theorem ab0(n:Int)(h0:0<=n)(h1:n<100):(⟨(Lib.decDigits n.toNat).toArray⟩:ByteArray)=bs (if n<10 then[(48+n).toNat.toUInt8]else[(48+n/10).toNat.toUInt8,(48+n%10).toNat.toUInt8]):=by
 obtain⟨k,rfl⟩:=kv h0;rw[ki];unfold bs
 congr 2
 unfold Lib.decDigits;by_cases h:k<10
 ·rw[dif_pos h,je (by omega)]
  congr 1
 ·rw[dif_neg h,jc (by omega)]
  unfold Lib.decDigits;rw[dif_pos (by omega)]
  have e1:(48+(k:Int)/10).toNat=48+k/10:=by omega
  have e2:(48+(k:Int)%10).toNat=48+k%10:=by omega
  rw[e1,e2]
  rfl
theorem ajU{P:Program}{F:FuncId}(enter:∀v w,(callFunc F #[v]).run P w=.ok (.enter F #[v]) w)
 (hc:∀(i:Nat),i<100->∀w:World,Calls P F #[.int .i64 i] w fun e w'=>e=.returned (.string ⟨(Lib.decDigits i).toArray⟩)/\w'=w):
 cL P fun f' args imps=>if f'=F then(DY args).map fun m=>(m,imps)else none:=by
 refine Q7 (q:=DY) (fun args m h=>?_) fun args m h vals w prot hp hv=>?_
 ·unfold DY at h;split at h
  ·rfl
  ·cases h
 unfold DY at h;split at h
 case h_2=>cases h
 rename_i n;split at h
 case isFalse=>cases h
 rename_i hn;cases h;obtain⟨v,e,hsv⟩:=QH hv;subst e;cases hsv;refine eV (enter _ w) ?_;have h:=hc n.toNat (by omega) w
 rw[yg hn.1,ab0 n hn.1 hn.2]at h;exact h.mono fun e w' ⟨he,hw⟩=>⟨_,he,.one (.str _) rfl,by rw[hw];exact Below.refl _ w⟩
theorem DM:∀{rows:List Row} {l:List (List UInt8)},tO rows=some l->rows=l.map fun s=>[.str (bs s)]
 |[],l,h=>by cases h;rfl
 |[]::_,l,h=>by cases h
 |(_::_::_)::_,l,h=>by simp[tO]at h
 |[m]::r,l,h=>by
  cases m<;>first|(cases h;done)|skip
  rename_i s;simp only[tO]at h;obtain⟨t,ht,e⟩:=Jk.1 h;cases e;rw[yh,<-DM ht,ZB]
theorem OO:∀(l:List (List UInt8)),([]:List UInt8).intercalate l=l.flatten:=by
 intro l;unfold List.intercalate;induction l with
 |nil=>rfl
 |cons a t ih=>
  cases t with
  |nil=>rfl
  |cons b t=>simp only[List.intersperse,List.flatten_cons,qg]at ih⊢;rw[ih]
theorem ajV{P:Program}{F:FuncId}(enter:∀v u w,(callFunc F #[v,u]).run P w=.ok (.enter F #[v,u]) w)
 (hc:∀(bk o c:Nat) (xs:List ByteArray) (sep:ByteArray) (w:World),(∀(j:Nat) x,xs[j]?=some x->w.cell? ⟨bk,o+j,none⟩=some (.string x))->bk<w.heap.size->xs.length<=140737488355328->xs.length<=c->(Lib.join (xs.map (·.data.toList)) sep.data.toList).length<=140737488355328->
  Calls P F #[.slice (some ⟨bk,o,none⟩) xs.length c,.string sep] w fun e w'=>e=.returned (.string ⟨(Lib.join (xs.map (·.data.toList)) sep.data.toList).toArray⟩)/\Below w.heap.size w w'):
 cL P fun f' args imps=>if f'=F then(DZ args).map fun m=>(m,imps)else none:=by
 refine Q7 (q:=DZ) (fun args m h=>?_) fun args m h vals w prot hp hv=>?_
 ·unfold DZ at h;split at h
  ·rfl
  ·cases h
 unfold DZ at h;split at h
 case h_2=>cases h
 rename_i rows sep;obtain⟨l,hl,h⟩:=Jk.1 h;split at h
 case isFalse=>cases h
 rename_i hh;obtain⟨hsep,hlen,htot,hpos⟩:=hh;cases h;obtain⟨v,u,e,hsv,hsu⟩:=ajT hv;subst e;cases hsu;refine eV (enter _ _ w) ?_;have hrows:=DM hl;cases hsv with
 | @sl a n c _ sz vf hn hcap hrow had hsv=>
   have hnl:l.length=n:=by rw[<-hn,hrows,kf]
   obtain⟨ad,ea,hsp,hpr,hcell⟩:=had (by omega)
   subst ea;obtain⟨b,off,spot⟩:=ad;simp only at hsp;subst hsp;have hsz:sz=1:=by
    have h0:l[0]?=some (l[0]'hpos):=jj hpos;have h1:rows[0]?=some [.str (bs (l[0]'hpos))]:=by rw[hrows,jo,h0];rfl
    exact(hrow 0 _ h1).symm
   subst hsz;have h:=hc b off c (l.map bs) sep w (fun j x hj=>?_) (hp _ hpr) (by simp;omega) (by simp;omega) ?_
   ·rw[kf,hnl]at h;refine h.mono fun e w' ⟨he,hB⟩=>⟨_,he,.one ?_ rfl,hB⟩
    have e1:(l.map bs).map (·.data.toList)=l:=by rw[List.map_map];exact(Jb (fun _ _=>rfl)).trans (List.map_id l)
    rw[e1,hsep];unfold Lib.join;rw[OO];exact .str _
   ·rw[jo]at hj;obtain⟨s,hs,e⟩:=kw.1 hj;subst e;have h1:rows[j]?=some [.str (bs s)]:=by rw[hrows,jo,hs];rfl
    have h2:=hcell j _ 0 _ h1 rfl;have h3:=hsv j _ 0 _ h1 rfl;rw[Nat.mul_one,yv]at h2;rw[h2];generalize vf j 0=z at h3;cases h3;rfl
   ·have e1:(l.map bs).map (·.data.toList)=l:=by rw[List.map_map];exact(Jb (fun _ _=>rfl)).trans (List.map_id l)
    rw[e1,hsep];unfold Lib.join;rw[OO];omega
end Kw
namespace Kw
open Go Go.RowKit Go.Proofs Go.Shelf Go.Joins
set_option maxRecDepth 100000
section
variable [Gl]
theorem axU:cL Tryz.prog fun f' args imps=>if f'=125 then(DY args).map fun m=>(m,imps)else none:=
 @ajU _ _ 125 (fun v w=>cE (c:=(match Tryz.f125.body with|some c=>c|none=>.skip)) Tryz.func125 (by kernel_rfl) (by kernel_rfl) _ _) fun i hi w=>Any.strconv_Itoa_small Tryz.lays171 i hi w
theorem GT(s:ByteArray)(w:World):(callFunc 146 #[.string s]).run Tryz.prog w=.ok (.enter 146 #[.string s]) w:=
 cE (c:=(match Tryz.f146.body with|some c=>c|none=>.skip)) Tryz.func146 (by kernel_rfl) (by kernel_rfl) _ _
end
def aqP [Gl]:Prop:=Gl.glr 1=some (.iface false)/\Gl.glr 2=some (.iface false)
theorem UT [Gl]{prot:Nat->Prop}{w:World}(h:yE prot w){v:Nat}(e:Gl.glr v=some (.iface false)):∃t x,w.cell? ⟨v,0,none⟩=some (.iface t x):=by
 obtain⟨_,x,hx,hs⟩:=h v _ e;cases hs;exact⟨_,_,hx⟩
theorem axV [Gl](hE:aqP):cL Tryz.prog fun f' args imps=>if f'=146 then(HH args).map fun m=>(m,imps)else none:=by
 refine Z3 (q:=HH) (fun args m h=>?_) fun args m h vals w prot hp hg hv=>?_
 ·unfold HH at h;split at h
  ·rfl
  ·cases h
 ·unfold HH at h;split at h
  case h_2=>cases h
  rename_i s;split at h
  case isFalse=>cases h
  rename_i hs;obtain⟨v,e,hsv⟩:=QH hv;subst e;cases hsv;obtain⟨t1,x1,c1⟩:=UT hg hE.1;obtain⟨t2,x2,c2⟩:=UT hg hE.2;cases hn:Lib.atoiAll s.data.toList with
  |ok n=>
   rw[hn]at h;cases h;refine eV (GT s w) ((Any.strconv_Atoi_ok Tryz.laysC172 s (by omega) n hn w).mono fun e w' ⟨he,ht⟩=>⟨_,he,?_,?_⟩)
   ·exact .tup (.cons (.int _ _) (.cons .ifN .nil))
   ·rcases ht with rfl|⟨t,rfl⟩
    ·exact Below.refl _ _
    ·exact Lib.bytesWorld_below _ _ _
  |range=>
   rw[hn]at h;cases h;refine eV (GT s w) ((Any.strconv_Atoi_range Tryz.laysC172 s (by omega) hn _ w c2 (.inr ⟨_,_,rfl⟩)).mono fun e w' ⟨N,he,_,_,hB⟩=>⟨_,he,?_,hB⟩)
   exact .tup (.cons (.int _ _) (.cons (.ifS _ _) .nil))
  |_=>
   rw[hn]at h;cases h;refine eV (GT s w) ((Any.strconv_Atoi_syntax Tryz.laysC172 s (by omega) hn _ w c1 (.inr ⟨_,_,rfl⟩)).mono fun e w' ⟨N,he,_,_,hB⟩=>⟨_,he,?_,hB⟩)
   exact .tup (.cons (.int _ _) (.cons (.ifS _ _) .nil))
section
variable [Gl]
theorem akR(s c:ByteArray)(w:World):(callFunc 149 #[.string s,.string c]).run Tryz.prog w=.ok (.enter 149 #[.string s,.string c]) w:=
 cE (c:=(match Tryz.f149.body with|some c=>c|none=>.skip)) Tryz.func149 (by kernel_rfl) (by kernel_rfl) _ _
theorem aqQ:cL Tryz.prog fun f' args imps=>if f'=149 then(CX args).map fun m=>(m,imps)else none:=by
 refine Q7 (q:=CX) (fun args m h=>?_) fun args m h vals w prot hp hv=>?_
 ·unfold CX at h;split at h
  ·rfl
  ·cases h
 ·unfold CX at h;split at h
  case h_2=>cases h
  rename_i s c;split at h
  case h_2=>cases h
  rename_i b hb;cases h;have hc:c=⟨#[b]⟩:=by
   obtain⟨⟨l⟩⟩:=c;have:l=[b]:=hb;subst this;rfl
  subst hc;have hv':vals= #[.string s,.string ⟨#[b]⟩]:=by
   obtain⟨l⟩:=vals;change Rl _ l _ at hv;cases hv with
   |cons h1 h2=>cases h2 with|cons h2 h3=>cases h3;cases h1;cases h2;rfl
  subst hv';refine eV (akR s _ w) ((Tryz.strings_Count_one s b w).mono fun e w' ⟨he,hw⟩=>⟨_,he,.one ?_ rfl,by rw[hw];exact Below.refl _ w⟩)
  have e:Lib.countByte s.data.toList b=s.data.toList.count b:=by
   first|rfl|simp[Lib.countByte,List.count]|(unfold Lib.countByte;rfl)
  rw[e];exact .int _ _
theorem ac7:cL Tryz.prog fun f' args imps=>if f'=177 then(DX args).map fun m=>(m,imps)else none:=
 @Y4 _ _ 177 (fun v w=>cE (c:=(match Tryz.f177.body with|some c=>c|none=>.skip)) Tryz.func177 (by kernel_rfl) (by kernel_rfl) _ _) UV PU
theorem agV:cL Tryz.prog fun f' args imps=>if f'=88 then(DX args).map fun m=>(m,imps)else none:=
 @Y4 _ _ 88 (fun v w=>cE (c:=(match Tryz.f88.body with|some c=>c|none=>.skip)) Tryz.func88 (by kernel_rfl) (by kernel_rfl) _ _) aa3 UU
theorem axW:cL Tryz.prog fun f' args imps=>if f'=209 then(DZ args).map fun m=>(m,imps)else none:=
 @ajV _ _ 209 (fun v u w=>cE (c:=(match Tryz.f209.body with|some c=>c|none=>.skip)) Tryz.func209 (by kernel_rfl) (by kernel_rfl) _ _) Tryz.strings_Join
end
end Kw
namespace Kw
open Go Go.RowKit
variable [Gl]
def ow(arr:Array Value):Nat->List Value->Array Value
 |_,[]=>arr
 |o,v::r=>ow (arr.setIfInBounds o v) (o+1) r
theorem tL:∀(vs:List Value) (arr:Array Value) (o:Nat),(ow arr o vs).size=arr.size
 |[],_,_=>rfl
 |v::r,arr,o=>by rw[ow,tL r];simp
theorem CN:∀(vs:List Value) (arr:Array Value) (o k:Nat),k<o\/o+vs.length<=k->(ow arr o vs)[k]?=arr[k]?
 |[],_,_,_,_=>rfl
 |v::r,arr,o,k,h=>by
  rw[ow,CN r _ _ _ (by simp at h;omega)]
  exact Array.getElem?_setIfInBounds_ne (by simp at h;omega)
theorem SY:∀(vs:List Value) (arr:Array Value) (o k:Nat),k<vs.length->o+vs.length<=arr.size->(ow arr o vs)[o+k]?=vs[k]?
 |[],_,_,_,h,_=>by simp at h
 |v::r,arr,o,k,h,hs=>by
  simp only[jf]at h hs;cases k with
  |zero=>
   rw[ow,CN r _ _ _ (by omega)]
   rw[yv,Array.getElem?_setIfInBounds_self_of_lt (by omega)]
   rfl
  |succ k=>
   rw[ow,show o+(k+1)=o+1+k by omega,SY r _ _ k (by omega) (by simp;omega)]
   rfl
theorem eU{b:Nat}{ty:TypeId}{fz:Nat×Nat}:∀(vs:List Value) (o:Nat) (w:World) (arr:Array Value),w.heap[b]?=some (.cells arr ty fz)->(w.setCells b o vs).heap[b]?=some (.cells (ow arr o vs) ty fz)
 |[],_,_,_,h=>h
 |v::r,o,w,arr,h=>by
  rw[World.setCells,ow];refine eU r (o+1) _ _ ?_;unfold World.setCell;simp[Array.getElem?_modify,h]
theorem jO{b:Nat}:∀(vs:List Value) (o:Nat) (w:World),(w.setCells b o vs).heap.size=w.heap.size
 |[],_,_=>rfl
 |v::r,o,w=>by rw[World.setCells,jO r];unfold World.setCell;simp
theorem mJ{b i:Nat}(hne:i≠b):∀(vs:List Value) (o:Nat) (w:World),(w.setCells b o vs).heap[i]?=w.heap[i]?
 |[],_,_=>rfl
 |v::r,o,w=>by rw[World.setCells,mJ hne r];unfold World.setCell;simp[Array.getElem?_modify,Ne.symm hne]
theorem rG{b:Nat}:∀(vs:List Value) (o:Nat) (w:World),(w.setCells b o vs).os=w.os/\(w.setCells b o vs).tape=w.tape/\(w.setCells b o vs).output=w.output
 |[],_,_=>⟨rfl,rfl,rfl⟩
 |v::r,o,w=>by rw[World.setCells];exact rG r (o+1) (w.setCell ⟨b,o,none⟩ v)
theorem tM{w:World}{b o:Nat}{arr:Array Value}{ty:TypeId}{fz:Nat×Nat}(h:w.heap[b]?=some (.cells arr ty fz)):w.cell? ⟨b,o,none⟩=arr[o]?:=by
 simp[World.cell?,h]
theorem AU{w:World}{b o:Nat}{arr:Array Value}{ty:TypeId}(h:w.heap[b]?=some (.cells arr ty (0,0))):w.frozen? ⟨b,o,none⟩=false:=by
 simp[World.frozen?,h]
theorem JZ{P:Program}(w:World)(t e ty:TypeId)(z:Value)(ht:P.underlying t=some (.slice e))(hv:∀w,(zeroValue e).run P w=.ok z w)(h1:∀v∈z.cells.toList,v.oneCell'=true)(hz:0<z.cells.size)(b o n c:Nat)(hn:0<n)
 (hc:∀j,j<n*z.cells.size->(w.cell? ⟨b,o+j,none⟩).isSome=true) (hf:∀j,j<n*z.cells.size->w.frozen? ⟨b,o+j,none⟩=false):
 (Builtin.clear_ #[t] ty #[.slice (some ⟨b,o,none⟩) n c]).run P w=.ok (.tuple #[]) (w.setCells b o (Builtin.zeroCells z.cells n).toList):=by
 have hl:(Builtin.zeroCells z.cells n).toList.length=n*z.cells.size:=by simp[Builtin.zeroCells]
 have hst:=run_storeCells_cells (P:=P) b o (Builtin.zeroCells z.cells n).toList 0 w (by rw[hl];simpa using hc) (by rw[hl];simpa using hf) (by
  intro v hv';simp only[Builtin.zeroCells,Array.toList_map,qf]at hv';obtain⟨i,_,e⟩:=hv';have hlt:i%z.cells.size<z.cells.size:=Nat.mod_lt _ hz;rw[getElem!_pos z.cells (i%z.cells.size) hlt]at e;rw[<-e];exact h1 _ (by simp))
 simp only[yv]at hst;obtain⟨m,rfl⟩:∃m,n=m+1:=⟨n-1,by omega⟩
 simp[Builtin.clear_,run_underlying ht,hv,hst]
theorem aq0{P:Program}{F:FuncId}(enter:∀v u x w,(callFunc F #[v,u,x]).run P w=.ok (.enter F #[v,u,x]) w)
 (hs:∀(b n cap i j:Nat) (arr:Array Value) (ty:TypeId) (w:World),w.heap[b]?=some (.cells arr ty (0,0))->n<=cap->i<j->j<=n->cap*4<=arr.size->(∀(k:Nat) (u:Value),k<n*4->arr[k]?=some u->u.oneCell'=true)->
  Calls P F #[.slice (some ⟨b,0,none⟩) n cap,.int .i64 i,.int .i64 j] w fun e w'=>e=.returned (.slice (some ⟨b,0,none⟩) (i+(n-j)) cap)/\
   ∃zl,w'=(w.drew.setCells b (i*4) ((arr.toList.drop (j*4)).take ((n-j)*4))).setCells b ((i+(n-j))*4) zl):
 cL P fun f' args imps=>if f'=F then(WR args).map fun m=>(m,imps)else none:=by
 intro f' args imps res vals w gs prot fa fo h p;simp only at h;split at h
 case isFalse=>simp at h
 rename_i ef;subst ef;obtain⟨m,hm,e⟩:=kw.1 h;subst e;unfold WR at hm;split at hm
 case h_2=>cases hm
 rename_i rows i0 j0;split at hm
 case isFalse=>cases hm
 rename_i hok;cases hm;rw[jg,jb]at hok;obtain⟨hok,hi0,hij,hj⟩:=hok;obtain⟨i,rfl⟩:=kv hi0;obtain⟨j,rfl⟩:=kv (show 0<=j0 by omega)
 obtain⟨vl⟩:=vals;have pvs:=p.vs;change BVs _ _ w vl _ fa at pvs;cases pvs with
 | @cons v _ f1 vs _ fs h1 ht=>
   obtain⟨efs,hv⟩:=ht.im rfl;subst efs;cases hv with
   |cons h2 h3=>
    cases h3 with
    |cons h3 h4=>
     cases h4;cases h2;cases h3;cases h1 with
     |one h1=>
      cases h1 with
      |rv h=>cases h;rename_i h;cases h
      |ownK0=>simp at hj;omega
      | @ownK b cap sz arr ty _ hh hn hroom hl hr=>
        have hlen:∀(i:Nat) (row:Row),rows[i]?=some row->row.length=4:=fun i row hi=>DU.1 hok _ (qi hi)
        have hsz:sz=4:=by
         have h0:rows[0]?=some (rows[0]'(by omega)):=jj (by omega)
         rw[<-(hr 0 _ h0).1,hlen 0 _ h0]
        subst hsz;have hijn:i<j:=by omega
        have hjn:j<=rows.length:=by omega
        have hone:∀(k:Nat) (u:Value),k<rows.length*4->arr[k]?=some u->u.oneCell'=true:=fun k u hk hu=>by
         have hq:k/4<rows.length:=by omega
         have h0:rows[k/4]?=some (rows[k/4]'hq):=jj hq;have hl4:=hlen _ _ h0;obtain⟨x,hx,hsx⟩:=(hr _ _ h0).2 (k%4) _ (jj (by omega))
         rw[show k/4*4+k%4=k by omega,hu]at hx
         cases hx;exact Y5 hsx
        refine eV (enter _ _ _ w) ((hs b rows.length cap i j arr ty w hh hl hijn hjn hroom.1 hone).mono fun e w' ⟨he,zl,hw⟩=>⟨_,he,?_⟩)
        have hnews:((arr.toList.drop (j*4)).take ((rows.length-j)*4)).length=(rows.length-j)*4:=by have:=hroom.1;simp;omega
        generalize hnw:(arr.toList.drop (j*4)).take ((rows.length-j)*4)=news at hw hnews;have hh':w'.heap[b]?=some (.cells (ow (ow arr (i*4) news) ((i+(rows.length-j))*4) zl) ty (0,0)):=by
         rw[hw];exact eU _ _ _ _ (eU _ _ _ _ hh)
        have hoth:∀x,x≠b->w'.heap[x]?=w.heap[x]?:=fun x hx=>by
         rw[hw,mJ hx,mJ hx];rfl
        have hsize:w'.heap.size=w.heap.size:=by rw[hw,jO,jO];rfl
        have hrest:w'.os=w.os/\w'.tape=w.tape/\w'.output=w.output:=by
         rw[hw];obtain⟨a1,a2,a3⟩:=rG zl ((i+(rows.length-j))*4) (b:=b) (w.drew.setCells b (i*4) news);obtain⟨b1,b2,b3⟩:=rG news (i*4) (b:=b) w.drew;exact⟨a1.trans b1,a2.trans b2,a3.trans b3⟩
        have hpb:∀x,prot x->w'.heap[x]?=w.heap[x]?:=fun x hx=>hoth x fun e=>hn (by rw[<-e];exact hx)
        have hnl:(rows.take i++rows.drop j).length=i+(rows.length-j):=by simp;omega
        have hnb:b∉fo++blks gs:=fun hm=>by
         have:=p.nod;simp at this;simp at hm;exact hm.elim this.1.1 this.1.2
        have L:Later (gB gs prot) (gB gs prot) (cuB imps) (cuB imps) w w':=
         ⟨fun _ _ e=>.inl e,fun _ _ _ _ e=>.inr ⟨jz _,.inl e⟩,fun _ e=>.inr ⟨jz _,.inl e⟩,fun _ e=>e,fun _ h=>h,hpb⟩
        have hget:∀(q k:Nat),q<i+(rows.length-j)->k<4->(ow (ow arr (i*4) news) ((i+(rows.length-j))*4) zl)[q*4+k]?=arr[(if q<i then q else q-i+j)*4+k]?:=fun q k hq hk=>by
         rw[CN _ _ _ _ (.inl (by omega))]
         by_cases hqi:q<i
         ·rw[je hqi,CN _ _ _ _ (.inl (by omega))]
         ·rw[jc hqi,show q*4+k=i*4+((q-i)*4+k) by omega,SY _ _ _ _ (by rw[hnews];omega) (by have:=hroom.1;rw[hnews];omega),<-hnw,qp (by omega),wy,qj]
          congr 1;omega
        have hrow:∀(q:Nat) (row:Row),(rows.take i++rows.drop j)[q]?=some row->q<i+(rows.length-j)/\rows[if q<i then q else q-i+j]?=some row:=fun q row hq=>by
         have hlt:=(jm.1 hq).1;rw[hnl]at hlt;refine⟨hlt,?_⟩;by_cases hqi:q<i
         ·rw[je hqi,<-hq,yd (by simp;omega),qp hqi]
         ·rw[jc hqi,<-hq,yr (by simp;omega),wy]
          congr 1;simp;omega
        refine⟨[],prot,[b],fo,?_,?_,?_,?_,fun x hx=>by rw[hsize];exact p.plt x hx,?_⟩
        ·rw[ka,<-hnl];refine .one (.one (.ownK hh' hn ⟨by rw[tL,tL];exact hroom.1,fun _=>.inr ⟨rfl,rfl⟩⟩ (by rw[hnl];omega) fun q row hq=>?_)) (fun ms e=>by cases e)
         obtain⟨hq1,hq2⟩:=hrow q row hq;refine⟨hlen _ _ hq2,fun k mk hk=>?_⟩
         obtain⟨x,hx,hsx⟩:=(hr _ _ hq2).2 k mk hk;have hk4:k<4:=by have:=(jm.1 hk).1;rw[hlen _ _ hq2]at this;exact this
         exact⟨x,(hget q k hq1 hk4).trans hx,hsx.mono (fun _ h=>h) hpb⟩
        ·rw[ka];exact p.os.mono L (fun x hx=>⟨hoth x fun e=>hnb (by simp[<-e,hx]),p.os.np x hx⟩) fun y hy x e=>⟨hoth x fun e'=>hnb (by rw[<-e'];exact jn _ (eK.2 ⟨y,hy,e⟩)),id⟩
        ·rw[ka];simpa using p.nod
        ·rw[ka,hsize];simpa using p.lt
        ·rw[ka];refine⟨hrest.1,hrest.2.1,hrest.2.2,Nat.le_of_eq hsize.symm,fun x _ hx=>hoth x fun e=>hx (by simp[e]),fun x hx=>.inr (by simpa using hx),fun _ h=>h,fun _ h=>.inl h⟩
end Kw
namespace Kw
open Go Go.RowKit Go.Proofs Go.Shelf
variable [Gl]
set_option maxHeartbeats 4000000 in
set_option maxRecDepth 1000000 in
theorem akS(z:Value)(i0:TypeInfo)(hi0:Tryz.prog.info? 81=some i0)(hz0:i0.size=4)(hv:∀w,(zeroValue 81).run Tryz.prog w=.ok z w)(hz:z.cells.size=4)(hz1:∀v∈z.cells.toList,v.oneCell'=true)
 (b n cap i j:Nat) (arr:Array Value) (ty:TypeId) (w:World) (hh:w.heap[b]?=some (.cells arr ty (0,0))) (hcap:n<=cap) (hij:i<j) (hj:j<=n) (hsz:cap*4<=arr.size)
 (h1:∀(k:Nat) (u:Value),k<n*4->arr[k]?=some u->u.oneCell'=true):
 Calls Tryz.prog 203 #[.slice (some ⟨b,0,none⟩) n cap,.int .i64 i,.int .i64 j] w fun e w'=>e=.returned (.slice (some ⟨b,0,none⟩) (i+(n-j)) cap)/\
  w'=(w.drew.setCells b (i*4) ((arr.toList.drop (j*4)).take ((n-j)*4))).setCells b ((i+(n-j))*4) (Builtin.zeroCells z.cells (n-(i+(n-j)))).toList:=by
 obtain⟨news,hnews⟩:∃news,news=(arr.toList.drop (j*4)).take ((n-j)*4):=⟨_,rfl⟩;have hlen:news.length=(n-j)*4:=by rw[hnews];simp;omega
 have hget:∀t,t< (n-j)*4->news[t]?=arr[j*4+t]?:=by
  intro t ht;rw[hnews,qp ht,wy,qj]
 have hd:w.drew.heap[b]?=some (.cells arr ty (0,0)):=hh;obtain⟨A,hA,hsrc⟩:∃A:Addr,(if cap=j then some (⟨b,0,none⟩:Addr)else some ⟨b,j*4,none⟩)=some A/\Hid (∀t u,news[t]?=some u->w.drew.cell? (A.add t)=some u):=by
  by_cases h:cap=j
  ·refine⟨⟨b,0,none⟩,by simp[h],fun t u hu=>?_⟩
   have h0:news.length=0:=by rw[hlen];omega
   rw[qe.1 h0]at hu;simp at hu
  ·refine⟨⟨b,j*4,none⟩,by simp[h],fun t u hu=>?_⟩
   have ht:t< (n-j)*4:=by
    have:=(jm.1 hu).1
    rwa [hlen]at this
   rw[hget t ht]at hu;rw[Addr.add_lit,tM hd];exact hu
 have s1:Hid (news.length=(n-j)*4):=hlen;have s2:Hid (∀u∈news,u.oneCell'=true):=by
  intro u hu;obtain⟨t,ht,e⟩:=List.getElem_of_mem hu;have ht':t< (n-j)*4:=by rw[<-hlen];exact ht
  have h2:=hget t ht';rw[jj ht,e]at h2;exact h1 _ _ (by omega) h2.symm
 have s3:Hid (∀t,t<news.length->(w.drew.cell? ⟨b,i*4+t,none⟩).isSome=true/\w.drew.frozen? ⟨b,i*4+t,none⟩=false):=by
  intro t ht;rw[hlen]at ht;rw[tM hd,AU hd];refine⟨?_,rfl⟩;rw[kq (by omega)];rfl
 obtain⟨W1,hW1⟩:∃W1,W1=w.drew.setCells b (i*4) news:=⟨_,rfl⟩;have hH1:W1.heap[b]?=some (.cells (ow arr (i*4) news) ty (0,0)):=by rw[hW1];exact eU _ _ _ _ hd
 obtain⟨zl,hzl⟩:∃zl,zl=(Builtin.zeroCells z.cells (n-(i+(n-j)))).toList:=⟨_,rfl⟩;have hcl:∀ty,(Builtin.clear_ #[27] ty #[.slice (some ⟨b,(i+(n-j))*4,none⟩) (n-(i+(n-j))) (cap-(i+(n-j)))]).run Tryz.prog W1=.ok (.tuple #[]) (W1.setCells b ((i+(n-j))*4) zl):=
  fun ty=>hzl▸JZ W1 _ 81 ty z Tryz.underlying27 hv hz1 (by omega) b ((i+(n-j))*4) _ _ (by omega) (fun t ht=>by
   rw[hz]at ht;rw[tM hH1,kq (by rw[tL];omega)];rfl) (fun t ht=>AU hH1)
 have hW:Hid (W1=w.drew.setCells b (i*4) news):=hW1;have X0:W1=w.drew.setCells b (i*4) ((arr.toList.drop (j*4)).take ((n-j)*4)):=by rw[hW1,hnews]
 have X:Aside (W1=w.drew.setCells b (i*4) ((arr.toList.drop (j*4)).take ((n-j)*4))):=X0;clear X0;have Y:Aside (zl=(Builtin.zeroCells z.cells (n-(i+(n-j)))).toList):=hzl;clear hzl;have hic:i<=cap:=by omega
 have hjc:j<=cap:=by omega
 have hjn:j<=n:=hj;clear hv hz hz1 hW1 hH1 hget hlen hh hd h1 hnews hsz;have mixed:Tryz.prog.follows Departure.mixedOrders=true:=by kernel_rfl
 go_enter Tryz.func203,Tryz.ntmps203
 go_wp2_with fail
 go_region_law_o (refine step_append_room rfl (.tmp 22) (.tmp 25) 27 rfl 81 i0 4 Tryz.underlying27 hi0 hz0 b 0 i cap (by simp[Act.eval,Act.put]) A (n-j) (cap-j) news (by simp[Act.eval,Act.put]) s1.out hsrc.out s2.out (by omega) (by rw[qx];exact s3.out) ?_;rw[qx,<-hW.out])
 go_wp2
 go_ret
 exact⟨rfl,by rw[X.out,Y.out]⟩
theorem akT(v u x:Value)(w:World):(callFunc 203 #[v,u,x]).run Tryz.prog w=.ok (.enter 203 #[v,u,x]) w:=
 cE (c:=(match Tryz.f203.body with|some c=>c|none=>.skip)) Tryz.func203 (by kernel_rfl) (by kernel_rfl) _ _
set_option maxRecDepth 100000 in
theorem aAM:cL Tryz.prog fun f' args imps=>if f'=203 then(WR args).map fun m=>(m,imps)else none:=by
 have hk:okT Tryz.prog 81=true:=by kernel_rfl
 have ht:tsize Tryz.prog 81=4:=by kernel_rfl
 have ho:(nB Tryz.prog 81).all (·.oneCell')=true:=by kernel_rfl
 obtain⟨i0,z,hi,hz,hcz,hzs⟩:=cG hk;have h1:i0.size=4:=by
  have h:tsize Tryz.prog 81=i0.size:=by unfold tsize;rw[hi]
  exact h.symm.trans ht
 refine @aq0 _ _ _ akT fun b n cap i j arr ty w hh hcap hij hj hsz hone=>?_
 refine(akS z i0 hi h1 (fun w=>?_) (hzs.trans ht) (fun v hv=>?_) b n cap i j arr ty w hh hcap hij hj hsz hone).mono fun e w' ⟨he,hw⟩=>⟨he,_,hw⟩
 ·simp[zeroValue,typeInfo,hi,hz]
 ·rw[hcz]at hv;exact kj.1 ho v hv
end Kw
namespace Kw
open Go Go.RowKit Go.Proofs Go.Shelf
variable [Gl]
set_option maxRecDepth 100000
theorem hi9:(Tryz.prog.info? (Tryz.lays221_ren.t 9)).map (fun i=>(i.zero,i.size,i.bytes))=some (some (.string ByteArray.empty),1,16):=by kernel_rfl
theorem U2(s:ByteArray)(w:World)(hs:s.size<=2000000):
 Calls Tryz.prog 87 #[.string s,.string ⟨#[59]⟩,.int .i64 1,.int .i64 (-1)] w fun e w'=>
  e=.returned (.slice (some ⟨w.heap.size,0,none⟩) ((jL [] s.data.toList).length+1) ((jL [] s.data.toList).length+1))/\
  w'=w.alloc (.cells (((jL [] s.data.toList++[nC [] s.data.toList]).map fun x=>Value.string (bs x)).toArray) 9):=by
 have hc:Lib.countB s ⟨#[59]⟩=(jL [] s.data.toList).length:=by
  show Lib.count s.data.toList [59]=_;rw[Lib.count_one,pI]
 have hC:Calls Tryz.prog 149 #[.string s,.string ⟨#[59]⟩] w fun e w'=>e=.returned (.int .i64 (Lib.countB s ⟨#[59]⟩))/\w'=w:=by
  refine(Any.strings_Count_one (ρ:=Tryz.lays221_ren) {Tryz.lays221 with} s 59 w).mono fun e w' ⟨he,hw⟩=>⟨?_,hw⟩
  rw[he];show _=Ending.returned (Value.int .i64 ((Lib.count s.data.toList [59]:Nat):Int));rw[Lib.count_one]
  rfl
 have hI:∀(x:ByteArray) (c:Array Value),x.size<=s.size->Calls Tryz.prog 150 #[.string x,.string ⟨#[59]⟩] (w.alloc (.cells c 9)) fun e w'=>e=.returned (.int .i64 (Lib.indexB x ⟨#[59]⟩))/\w'=w.alloc (.cells c 9):=fun x c _=>by
  refine(Any.strings_Index_one (ρ:=Tryz.lays221_ren) {Tryz.lays221 with} x 59 _).mono fun e w' ⟨he,hw⟩=>⟨?_,hw⟩
  rw[he];show _=Ending.returned (Value.int .i64 (Lib.index x.data.toList [59]));rw[Lib.index_one]
 have hle:(jL [] s.data.toList).length<=s.size:=by
  rw[pI];exact List.count_le_length
 have h:=Any.strings_genSplit_core Tryz.lays221 hi9 s ⟨#[59]⟩ 1 (-1) ((jL [] s.data.toList).length+1) w (by omega) (by decide) (by decide) hI hC (by decide) (by decide) (by rw[je (by decide),hc];omega)
 have e1:Lib.splitB ⟨#[59]⟩ 1 ((jL [] s.data.toList).length+1-1) s=(jL [] s.data.toList++[nC [] s.data.toList]).map bs:=by
  rw[Nat.add_sub_cancel,<-WN,<-hc];show Lib.splitB _ _ (Lib.count s.data.toList [59]) s=_;rw[Lib.count_one]
  rfl
 rw[e1]at h;have e2:((jL [] s.data.toList++[nC [] s.data.toList]).map bs).length=(jL [] s.data.toList).length+1:=by simp
 have e3:Lib.cellsOf ((jL [] s.data.toList++[nC [] s.data.toList]).map bs) ((jL [] s.data.toList).length+1)=((jL [] s.data.toList++[nC [] s.data.toList]).map fun x=>Value.string (bs x)).toArray:=by
  rw[<-e2,Lib.cellsOf_full,List.map_map];rfl
 rw[e2,e3]at h;exact h
theorem OE(s:ByteArray)(w:World)(hs:s.size<=2000000):
 Calls Tryz.prog 47 #[.string s,.string ⟨#[59]⟩] w fun e w'=>
  e=.returned (.slice (some ⟨w.heap.size,0,none⟩) ((jL [] s.data.toList).length+1) ((jL [] s.data.toList).length+1))/\
  w'=w.alloc (.cells (((jL [] s.data.toList++[nC [] s.data.toList]).map fun x=>Value.string (bs x)).toArray) 9):=by
 have c:=U2 s w hs
 go_enter Tryz.func47,Tryz.ntmps47
 go_wp2_with (go_at_call 87;refine c.mono ?_;rintro e w' ⟨rfl,hw⟩;rw[hw])
 go_ret
 exact⟨rfl,by rw[List.map_append];rfl⟩
theorem aoA(g n c:Nat)(hn:n<=c)(w:World):Calls Tryz.prog 88 #[.slice (some ⟨g,0,none⟩) n c] w fun e w'=>e=.returned (.slice (some ⟨g,0,none⟩) n n)/\w'=w:=by
 go_enter Tryz.func88,Tryz.ntmps88
 go_wp2
 go_ret
 exact⟨rfl,rfl⟩
theorem X6{w:World}{B:Nat}{v:Value}{n:Nat}{xs:List Value}(h:w.ownsRow B 9 1 v n xs)(hv:v≠ .slice none 0 0):
 ∃g cap cur,v=.slice (some ⟨g,0,none⟩) n cap/\n<=cap/\B<=g/\w.heap[g]?=some (.cells cur 9 (0,0))/\n<=cur.size/\cur.toList.take n=xs:=by
 obtain⟨_,⟨e,_⟩|⟨g,cap,cur,e,hb,hh,hle,_,hs,ht⟩⟩:=h
 ·exact absurd e hv
 ·exact⟨g,cap,cur,e,hle,hb,hh,by omega,by simpa using ht⟩
theorem ahY(b off n c:Nat)(zs:List ByteArray)(w:World)(hz:n<=zs.length)(hbig:n*16<=140737488355328)(hc:∀j,j<zs.length->w.cell? ⟨b,off+j,none⟩=some (.string (zs.getD j ByteArray.empty))):
 Calls Tryz.prog 48 #[.slice (some ⟨b,off,none⟩) n c] w fun e w'=>∃g cur,e=.returned (.slice (some ⟨g,0,none⟩) n n)/\w.heap.size<=g/\w'.heap[g]?=some (.cells cur 9 (0,0))/\n<=cur.size/\cur.toList.take n=(zs.take n).map Value.string/\Below w.heap.size w w':=by
 have k:=Tryz.slices_Clone_string b off n c zs w hz hbig hc;clear hc
 go_enter Tryz.func48,Tryz.ntmps48
 go_wp2_with (go_at_call 89;refine k.mono ?_;rintro e w' ⟨v',rfl,hown,hnn,hB⟩)
 obtain⟨g,cap,cur,rfl,hle,hg,hh,hsz,htk⟩:=X6 hown hnn;clear hown hnn;have k2:=aoA g n cap hle w';have A:Aside (w'.heap[g]?=some (.cells cur 9 (0,0))/\cur.toList.take n=(zs.take n).map Value.string):=⟨hh,htk⟩;clear hh htk
 go_wp2_with (go_at_call 88;refine k2.mono ?_;rintro e w'' ⟨rfl,rfl⟩)
 go_ret
 exact⟨g,cur,rfl,hg,A.out.1,hsz,A.out.2,hB⟩
theorem X7(w:World)(o:Go.Obj):(w.alloc o).heap[w.heap.size]?=some o:=by unfold World.alloc;simp
theorem X8(w:World)(l:List (List UInt8))(j:Nat)(hj:j< (l.map bs).length):
 (w.alloc (.cells ((l.map fun x=>Value.string (bs x)).toArray) 9)).cell? ⟨w.heap.size,0+j,none⟩=some (.string ((l.map bs).getD j ByteArray.empty)):=by
 rw[lM (X7 w _)];rw[kf]at hj;rw[qv,jo,qx,jj hj,jr,jo,jj hj]
 rfl
theorem U3{a b c:World}(h1:Below a.heap.size a b)(hs:a.heap.size<=b.heap.size)(h2:Below b.heap.size b c):Below a.heap.size a c:=
 ⟨h2.os.trans h1.os,h2.tape.trans h1.tape,h2.output.trans h1.output,kb h1.size h2.size,fun k hk=>(h2.block k (v3 hk hs)).trans (h1.block k hk)⟩
theorem U4(s:ByteArray)(w:World)(hs:s.size<=2000000):
 Calls Tryz.prog 11 #[.string s] w fun e w'=>∃g cur,e=.returned (.slice (some ⟨g,0,none⟩) (jL [] s.data.toList).length (jL [] s.data.toList).length)/\w.heap.size<=g/\w'.heap[g]?=some (.cells cur 9 (0,0))/\
  (jL [] s.data.toList).length<=cur.size/\cur.toList.take (jL [] s.data.toList).length=(jL [] s.data.toList).map (fun x=>Value.string (bs x))/\Below w.heap.size w w':=by
 have k:=OE s w hs;have hlen:(jL [] s.data.toList).length<=2000000:=by
  have h1:(jL [] s.data.toList).length<=s.size:=by rw[pI];exact List.count_le_length
  omega
 generalize hc:jL [] s.data.toList=cs at k hlen;generalize hr:nC [] s.data.toList=rs at k;clear hc hr;have hz:cs.length<=((cs++[rs]).map bs).length:=by rw[kf,jl];omega
 have k2:=ahY w.heap.size 0 cs.length (cs.length+1) ((cs++[rs]).map bs) (w.alloc (.cells (((cs++[rs]).map fun x=>Value.string (bs x)).toArray) 9)) hz (by omega) (X8 w (cs++[rs]))
 have ht:(((cs++[rs]).map bs).take cs.length).map Value.string=cs.map (fun x=>Value.string (bs x)):=by
  rw[<-List.map_take,List.take_left',List.map_map];rfl
  rfl
 rw[ht]at k2;have hB:Below w.heap.size w (w.alloc (.cells (((cs++[rs]).map fun x=>Value.string (bs x)).toArray) 9)):=(Below.refl _ w).alloc (kg _) _
 have hsz:w.heap.size<=(w.alloc (.cells (((cs++[rs]).map fun x=>Value.string (bs x)).toArray) 9)).heap.size:=hB.size
 generalize w.alloc (.cells (((cs++[rs]).map fun x=>Value.string (bs x)).toArray) 9)=w1 at k k2 hB hsz
 generalize hn:cs.length=n at k k2 hlen;have A:Aside (w.heap.size<=w1.heap.size/\Below w.heap.size w w1/\n<=2000000/\cs.length=n):=⟨hsz,hB,hlen,hn⟩;clear hsz hB hn ht hz;generalize cs.map (fun x=>Value.string (bs x))=vals at k2⊢
 go_enter Tryz.func11,Tryz.ntmps11
 go_wp2_with (go_at_call 47;refine k.mono ?_;rintro e w' ⟨rfl,rfl⟩)
 go_wp2_with (go_at_call 48;refine k2.mono ?_;rintro e w' ⟨g,cur,rfl,hg,hh,hsz,htk,hB2⟩)
 go_ret
 exact⟨g,cur,rfl,kb A.out.1 hg,hh,hsz,htk,U3 A.out.2.1 A.out.1 hB2⟩
theorem aoB(s:ByteArray)(w:World):(callFunc 11 #[.string s]).run Tryz.prog w=.ok (.enter 11 #[.string s]) w:=
 cE (c:=(match Tryz.f11.body with|some c=>c|none=>.skip)) Tryz.func11 (by kernel_rfl) (by kernel_rfl) _ _
theorem X9{w':World}{prot:Nat->Prop}{B g n:Nat}{cur:Array Value}{l:List (List UInt8)}(hn:l.length=n)(hg:B<=g)(hh:w'.heap[g]?=some (.cells cur 9 (0,0)))(hs:n<=cur.size)(ht:cur.toList.take n=l.map fun x=>Value.string (bs x)):
 axK B prot w' (.slice (some ⟨g,0,none⟩) n n) (l.map fun x=>[.str (bs x)]):=by
 subst hn;refine .inr ⟨g,l.length,1,cur,9,by rw[kf],hg,hh,⟨by omega,fun e=>by simpa using e⟩,by simp,fun i row hi=>?_⟩
 rw[jo]at hi;obtain⟨x,hx,e⟩:=kw.1 hi;subst e;refine⟨rfl,fun j m hj=>?_⟩
 cases j with
 |zero=>
  simp at hj;subst hj;have hil:i<l.length:=(jm.1 hx).1;refine⟨.string (bs x),?_,.str _⟩;have h1:(cur.toList.take l.length)[i]?=some (Value.string (bs x)):=by rw[ht,jo,hx];rfl
  rw[qp hil]at h1;simpa using h1
 |succ j=>simp at hj
theorem aoC:cL Tryz.prog fun f' args imps=>if f'=11 then(afG args).map fun m=>(m,imps)else none:=by
 refine Z4 (q:=afG) (fun args m h=>?_) fun args m h vals w prot hp hv=>?_
 ·unfold afG at h;split at h
  ·rfl
  ·cases h
 ·unfold afG at h;split at h
  ·rename_i s;split at h
   ·rename_i hs;cases h;have hv':vals= #[.string s]:=by
     obtain⟨l⟩:=vals;change Rl _ l _ at hv;cases hv with
     |cons h1 h2=>cases h2;cases h1;rfl
    subst hv';refine eV (aoB s w) ((U4 s w hs).mono fun e w' ⟨g,cur,he,hg,hh,hsz,ht,hB⟩=>⟨_,he,⟨_,rfl,X9 rfl hg hh hsz ht⟩,hB⟩)
   ·cases h
  ·cases h
end Kw
namespace Go.Proofs
open Go.Shelf
def Tryz.laysNm221_ren:Go.Shelf.Ren:=⟨fun|21=>244|27=>281|28=>282|35=>298|39=>308|n=>n,fun|22=>29|3=>3|4=>4|0=>0|n=>n,fun|n=>n⟩
theorem Tryz.laysNm221:Go.Proofs.Lays2.n21 Tryz.prog Tryz.laysNm221_ren:={
 mixed:=by kernel_rfl
 f21:=Tryz.func244.trans (congrArg some (by kernel_rfl))
 f27:=Tryz.func281.trans (congrArg some (by kernel_rfl))
 f28:=Tryz.func282.trans (congrArg some (by kernel_rfl))
 f35:=Tryz.func298.trans (congrArg some (by kernel_rfl))
 f39:=Tryz.func308.trans (congrArg some (by kernel_rfl))
 t0:=Tryz.underlying0
 a0:=Tryz.isAgg0
 z0:=Tryz.sizeOf0
 v0:=Tryz.zeroValue0
 t3:=Tryz.underlying3
 a3:=Tryz.isAgg3
 z3:=Tryz.sizeOf3
 v3:=Tryz.zeroValue3
 t4:=Tryz.underlying4
 a4:=Tryz.isAgg4
 z4:=Tryz.sizeOf4
 v4:=Tryz.zeroValue4
 t22:=Tryz.underlying29
 a22:=Tryz.isAgg29
 z22:=Tryz.sizeOf29
 v22:=Tryz.zeroValue29
 i3:=by kernel_rfl}
def Tryz.laysDF_ren:Go.Shelf.Ren:=⟨fun|10=>245|6=>133|n=>n,fun|22=>29|23=>3|25=>66|3=>3|4=>4|0=>0|n=>n,fun|n=>n⟩
theorem Tryz.laysDF:Go.Proofs.SlLaysH.n10 Tryz.prog Tryz.laysDF_ren:={
 mixed:=by kernel_rfl
 f6:=⟨Tryz.f133.name,by decide,Tryz.func133.trans (congrArg some (by kernel_rfl))⟩
 f10:=⟨Tryz.f245.name,by decide,Tryz.func245.trans (congrArg some (by kernel_rfl))⟩
 t0:=Tryz.underlying0
 a0:=Tryz.isAgg0
 z0:=Tryz.sizeOf0
 v0:=Tryz.zeroValue0
 t3:=Tryz.underlying3
 a3:=Tryz.isAgg3
 z3:=Tryz.sizeOf3
 v3:=Tryz.zeroValue3
 t4:=Tryz.underlying4
 a4:=Tryz.isAgg4
 z4:=Tryz.sizeOf4
 v4:=Tryz.zeroValue4
 t22:=Tryz.underlying29
 a22:=Tryz.isAgg29
 z22:=Tryz.sizeOf29
 v22:=Tryz.zeroValue29
 a23:=Tryz.isAgg3
 z23:=Tryz.sizeOf3
 t25:=Tryz.underlying66
 a25:=Tryz.isAgg66
 z25:=Tryz.sizeOf66
 v25:=Tryz.zeroValue66}
def Tryz.laysCo_ren:Go.Shelf.Ren:=⟨fun|31=>199|29=>242|n=>n,fun|22=>29|23=>3|4=>4|3=>3|0=>0|n=>n,fun|n=>n⟩
theorem Tryz.laysCo:Go.Proofs.SlLaysE.n31 Tryz.prog Tryz.laysCo_ren:={
 mixed:=by kernel_rfl
 f29:=⟨Tryz.f242.name,by decide,Tryz.func242.trans (congrArg some (by kernel_rfl))⟩
 f31:=⟨Tryz.f199.name,by decide,Tryz.func199.trans (congrArg some (by kernel_rfl))⟩
 t0:=Tryz.underlying0
 a0:=Tryz.isAgg0
 z0:=Tryz.sizeOf0
 v0:=Tryz.zeroValue0
 t3:=Tryz.underlying3
 a3:=Tryz.isAgg3
 z3:=Tryz.sizeOf3
 v3:=Tryz.zeroValue3
 t4:=Tryz.underlying4
 a4:=Tryz.isAgg4
 z4:=Tryz.sizeOf4
 v4:=Tryz.zeroValue4
 t22:=Tryz.underlying29
 a22:=Tryz.isAgg29
 z22:=Tryz.sizeOf29
 v22:=Tryz.zeroValue29
 a23:=Tryz.isAgg3
 z23:=Tryz.sizeOf3}
end Go.Proofs
