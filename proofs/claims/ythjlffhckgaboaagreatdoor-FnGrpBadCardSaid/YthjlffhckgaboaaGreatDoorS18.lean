import Derived.Test.YthjlffhckgaboaaGreatDoorS05
import Derived.Shelf.Strings.OnBuilder
import Derived.Shelf.Strconv.Itoa3
import Derived.Shelf.LaysC
import Derived.Shelf.Strconv.AtoiAll
import Derived.Shelf.Strings.Count
import Derived.Shelf.Strings.Split
import Derived.Shelf.Slices.Clone
import Derived.WalkKit
import Derived.Lib.Walk
import Derived.Lib.ItoaNum
import Derived.Lib.SmallJoins
import Derived.Lib.SliceRun
import Derived.Deep.RegionLaw
import Derived.Shelf.RegionOpenPlain
import Derived.Shelf.Spec.SlicesInsertGrow
import Derived.Shelf.SlicesE.DeleteFunc
import Derived.Shelf.SlicesE.Index
import Derived.Lib.OwnBridge
import Derived.Deep.RegionHeld3
import Derived.Deep.DrawnRows
set_option linter.unusedVariables false
set_option linter.unusedSimpArgs false
set_option linter.unusedSectionVars false
namespace Go.Proofs
open Go.Shelf
def Tryz.lays156_ren:Go.Shelf.Ren:=⟨fun|156=>209|165=>248|166=>249|169=>250|240=>287|241=>288|276=>304|277=>305|n=>n,fun|31=>30|9=>9|3=>3|4=>4|0=>0|20=>20|72=>223|76=>180|70=>221|37=>22|75=>179|127=>250|164=>270|5=>5|80=>225|n=>n,fun|n=>n⟩
theorem Tryz.lays156:Go.Proofs.Lays.n156 Tryz.prog Tryz.lays156_ren:={
 mixed:=by kernel_rfl
 f156:=Tryz.func209.trans (congrArg some (by kernel_rfl))
 f165:=Tryz.func248.trans (congrArg some (by kernel_rfl))
 f166:=Tryz.func249.trans (congrArg some (by kernel_rfl))
 f169:=Tryz.func250.trans (congrArg some (by kernel_rfl))
 f240:=Tryz.func287.trans (congrArg some (by kernel_rfl))
 f241:=Tryz.func288.trans (congrArg some (by kernel_rfl))
 f276:=Tryz.func304.trans (congrArg some (by kernel_rfl))
 f277:=Tryz.func305.trans (congrArg some (by kernel_rfl))
 t0:=Tryz.underlying0
 a0:=Tryz.isAgg0
 z0:=Tryz.sizeOf0
 v0:=Tryz.zeroValue0
 t3:=Tryz.underlying3
 a3:=Tryz.isAgg3
 z3:=Tryz.sizeOf3
 v3:=Tryz.zeroValue3
 t4:=Tryz.underlying4
 a4:=Tryz.isAgg4
 z4:=Tryz.sizeOf4
 v4:=Tryz.zeroValue4
 t9:=Tryz.underlying9
 a9:=Tryz.isAgg9
 z9:=Tryz.sizeOf9
 v9:=Tryz.zeroValue9
 t20:=Tryz.underlying20
 a20:=Tryz.isAgg20
 z20:=Tryz.sizeOf20
 v20:=Tryz.zeroValue20
 t31:=Tryz.underlying30
 a31:=Tryz.isAgg30
 z31:=Tryz.sizeOf30
 v31:=Tryz.zeroValue30
 t37:=Tryz.underlying22
 a37:=Tryz.isAgg22
 z37:=Tryz.sizeOf22
 v37:=Tryz.zeroValue22
 t70:=Tryz.underlying221
 a70:=Tryz.isAgg221
 z70:=Tryz.sizeOf221
 v70:=Tryz.zeroValue221
 t72:=Tryz.underlying223
 a72:=Tryz.isAgg223
 z72:=Tryz.sizeOf223
 v72:=Tryz.zeroValue223
 t75:=Tryz.underlying179
 a75:=Tryz.isAgg179
 z75:=Tryz.sizeOf179
 v75:=Tryz.zeroValue179
 t76:=Tryz.underlying180
 a76:=Tryz.isAgg180
 z76:=Tryz.sizeOf180
 v76:=Tryz.zeroValue180
 t127:=Tryz.underlying250
 a127:=Tryz.isAgg250
 z127:=Tryz.sizeOf250
 v127:=Tryz.zeroValue250
 t164:=Tryz.underlying270
 a164:=Tryz.isAgg270
 z164:=Tryz.sizeOf270
 v164:=Tryz.zeroValue270}
theorem Tryz.Builder_Extra_156:Builder.Extra Tryz.prog Tryz.lays156_ren:={
 sizeBuilder:=by kernel_rfl
 liesBuilder:=by kernel_rfl
 t5:=Tryz.underlying5
 a5:=Tryz.isAgg5
 z5:=Tryz.sizeOf5
 v5:=Tryz.zeroValue5
 infoByte:=by kernel_rfl
 cellsByte:=by kernel_rfl
 sizeByte:=by kernel_rfl
 neB5:=by decide}
open Go.RowKit in
theorem Tryz.strings_Join(bk o c:Nat)(xs:List ByteArray)(sep:ByteArray)(w:World)(hcells:∀(j:Nat) x,xs[j]?=some x->w.cell? ⟨bk,o+j,none⟩=some (.string x))(hbk:bk<w.heap.size)(hN:xs.length<=140737488355328)(hcap:xs.length<=c)(hlen:(Lib.join (xs.map (·.data.toList)) sep.data.toList).length<=140737488355328):
 Calls Tryz.prog 209 #[.slice (some ⟨bk,o,none⟩) xs.length c,.string sep] w fun e w'=>e=.returned (.string ⟨(Lib.join (xs.map (·.data.toList)) sep.data.toList).toArray⟩)/\Below w.heap.size w w':=Any.strings_Join Tryz.lays156 Tryz.Builder_Extra_156 bk o c xs sep w hcells hbk hN hcap hlen
def Tryz.lays171_ren:Go.Shelf.Ren:=⟨fun|171=>125|243=>207|246=>247|283=>283|284=>284|285=>285|286=>286|129=>300|317=>299|318=>301|319=>302|320=>303|337=>309|338=>310|n=>n,fun|3=>3|9=>9|2=>2|4=>4|171=>244|0=>0|53=>245|37=>22|5=>5|173=>248|212=>267|51=>260|20=>20|213=>268|46=>232|232=>279|233=>280|n=>n,fun|17=>5|18=>6|19=>7|n=>n⟩
theorem Tryz.lays171:Go.Proofs.Lays.n171 Tryz.prog Tryz.lays171_ren:={
 mixed:=by kernel_rfl
 f129:=Tryz.func300.trans (congrArg some (by kernel_rfl))
 f171:=Tryz.func125.trans (congrArg some (by kernel_rfl))
 f243:=Tryz.func207.trans (congrArg some (by kernel_rfl))
 f246:=Tryz.func247.trans (congrArg some (by kernel_rfl))
 f283:=Tryz.func283.trans (congrArg some (by kernel_rfl))
 f284:=Tryz.func284.trans (congrArg some (by kernel_rfl))
 f285:=Tryz.func285.trans (congrArg some (by kernel_rfl))
 f286:=Tryz.func286.trans (congrArg some (by kernel_rfl))
 f317:=Tryz.func299.trans (congrArg some (by kernel_rfl))
 f318:=Tryz.func301.trans (congrArg some (by kernel_rfl))
 f319:=Tryz.func302.trans (congrArg some (by kernel_rfl))
 f320:=Tryz.func303.trans (congrArg some (by kernel_rfl))
 f337:=Tryz.func309.trans (congrArg some (by kernel_rfl))
 f338:=Tryz.func310.trans (congrArg some (by kernel_rfl))
 t0:=Tryz.underlying0
 a0:=Tryz.isAgg0
 z0:=Tryz.sizeOf0
 v0:=Tryz.zeroValue0
 t2:=Tryz.underlying2
 a2:=Tryz.isAgg2
 z2:=Tryz.sizeOf2
 v2:=Tryz.zeroValue2
 t3:=Tryz.underlying3
 a3:=Tryz.isAgg3
 z3:=Tryz.sizeOf3
 v3:=Tryz.zeroValue3
 t4:=Tryz.underlying4
 a4:=Tryz.isAgg4
 z4:=Tryz.sizeOf4
 v4:=Tryz.zeroValue4
 t5:=Tryz.underlying5
 a5:=Tryz.isAgg5
 z5:=Tryz.sizeOf5
 v5:=Tryz.zeroValue5
 t9:=Tryz.underlying9
 a9:=Tryz.isAgg9
 z9:=Tryz.sizeOf9
 v9:=Tryz.zeroValue9
 t20:=Tryz.underlying20
 a20:=Tryz.isAgg20
 z20:=Tryz.sizeOf20
 v20:=Tryz.zeroValue20
 t37:=Tryz.underlying22
 a37:=Tryz.isAgg22
 z37:=Tryz.sizeOf22
 v37:=Tryz.zeroValue22
 t46:=Tryz.underlying232
 a46:=Tryz.isAgg232
 z46:=Tryz.sizeOf232
 v46:=Tryz.zeroValue232
 t51:=Tryz.underlying260
 a51:=Tryz.isAgg260
 z51:=Tryz.sizeOf260
 v51:=Tryz.zeroValue260
 t53:=Tryz.underlying245
 a53:=Tryz.isAgg245
 z53:=Tryz.sizeOf245
 v53:=Tryz.zeroValue245
 t171:=Tryz.underlying244
 a171:=Tryz.isAgg244
 z171:=Tryz.sizeOf244
 v171:=Tryz.zeroValue244
 t173:=Tryz.underlying248
 a173:=Tryz.isAgg248
 z173:=Tryz.sizeOf248
 v173:=Tryz.zeroValue248
 t212:=Tryz.underlying267
 a212:=Tryz.isAgg267
 z212:=Tryz.sizeOf267
 v212:=Tryz.zeroValue267
 t213:=Tryz.underlying268
 a213:=Tryz.isAgg268
 z213:=Tryz.sizeOf268
 t232:=Tryz.underlying279
 a232:=Tryz.isAgg279
 z232:=Tryz.sizeOf279
 v232:=Tryz.zeroValue279
 t233:=Tryz.underlying280
 a233:=Tryz.isAgg280
 z233:=Tryz.sizeOf280
 v233:=Tryz.zeroValue280
 g17:=by kernel_rfl
 g18:=by kernel_rfl
 g19:=by kernel_rfl}
def Tryz.laysC172_ren:Go.Shelf.Ren:=⟨fun|172=>146|244=>210|245=>211|247=>251|279=>252|280=>253|281=>254|282=>255|287=>289|316=>290|171=>125|205=>291|321=>306|322=>307|243=>207|246=>247|283=>283|284=>284|285=>285|286=>286|129=>300|317=>299|318=>301|319=>302|320=>303|337=>309|338=>310|n=>n,fun|9=>9|3=>3|75=>179|76=>180|4=>4|5=>5|167=>226|37=>22|0=>0|85=>227|2=>2|168=>229|53=>245|175=>251|46=>232|210=>254|127=>250|145=>276|143=>274|21=>21|171=>244|173=>248|212=>267|51=>260|20=>20|213=>268|232=>279|233=>280|80=>225|n=>n,fun|15=>1|16=>2|17=>5|18=>6|19=>7|n=>n⟩
theorem Tryz.laysC172:Go.Proofs.LaysC.n172 Tryz.prog Tryz.laysC172_ren:={
 mixed:=by kernel_rfl
 f129:=Tryz.func300.trans (congrArg some (by kernel_rfl))
 f171:=Tryz.func125.trans (congrArg some (by kernel_rfl))
 f172:=Tryz.func146.trans (congrArg some (by kernel_rfl))
 f205:=Tryz.func291.trans (congrArg some (by kernel_rfl))
 f243:=Tryz.func207.trans (congrArg some (by kernel_rfl))
 f244:=Tryz.func210.trans (congrArg some (by kernel_rfl))
 f245:=Tryz.func211.trans (congrArg some (by kernel_rfl))
 f246:=Tryz.func247.trans (congrArg some (by kernel_rfl))
 f247:=Tryz.func251.trans (congrArg some (by kernel_rfl))
 f279:=Tryz.func252.trans (congrArg some (by kernel_rfl))
 f280:=Tryz.func253.trans (congrArg some (by kernel_rfl))
 f281:=Tryz.func254.trans (congrArg some (by kernel_rfl))
 f282:=Tryz.func255.trans (congrArg some (by kernel_rfl))
 f283:=Tryz.func283.trans (congrArg some (by kernel_rfl))
 f284:=Tryz.func284.trans (congrArg some (by kernel_rfl))
 f285:=Tryz.func285.trans (congrArg some (by kernel_rfl))
 f286:=Tryz.func286.trans (congrArg some (by kernel_rfl))
 f287:=Tryz.func289.trans (congrArg some (by kernel_rfl))
 f316:=Tryz.func290.trans (congrArg some (by kernel_rfl))
 f317:=Tryz.func299.trans (congrArg some (by kernel_rfl))
 f318:=Tryz.func301.trans (congrArg some (by kernel_rfl))
 f319:=Tryz.func302.trans (congrArg some (by kernel_rfl))
 f320:=Tryz.func303.trans (congrArg some (by kernel_rfl))
 f321:=Tryz.func306.trans (congrArg some (by kernel_rfl))
 f322:=Tryz.func307.trans (congrArg some (by kernel_rfl))
 f337:=Tryz.func309.trans (congrArg some (by kernel_rfl))
 f338:=Tryz.func310.trans (congrArg some (by kernel_rfl))
 t0:=Tryz.underlying0
 a0:=Tryz.isAgg0
 z0:=Tryz.sizeOf0
 v0:=Tryz.zeroValue0
 t2:=Tryz.underlying2
 a2:=Tryz.isAgg2
 z2:=Tryz.sizeOf2
 v2:=Tryz.zeroValue2
 t3:=Tryz.underlying3
 a3:=Tryz.isAgg3
 z3:=Tryz.sizeOf3
 v3:=Tryz.zeroValue3
 t4:=Tryz.underlying4
 a4:=Tryz.isAgg4
 z4:=Tryz.sizeOf4
 v4:=Tryz.zeroValue4
 t5:=Tryz.underlying5
 a5:=Tryz.isAgg5
 z5:=Tryz.sizeOf5
 v5:=Tryz.zeroValue5
 t9:=Tryz.underlying9
 a9:=Tryz.isAgg9
 z9:=Tryz.sizeOf9
 v9:=Tryz.zeroValue9
 t20:=Tryz.underlying20
 a20:=Tryz.isAgg20
 z20:=Tryz.sizeOf20
 v20:=Tryz.zeroValue20
 t21:=Tryz.underlying21
 a21:=Tryz.isAgg21
 z21:=Tryz.sizeOf21
 v21:=Tryz.zeroValue21
 t37:=Tryz.underlying22
 a37:=Tryz.isAgg22
 z37:=Tryz.sizeOf22
 v37:=Tryz.zeroValue22
 t46:=Tryz.underlying232
 a46:=Tryz.isAgg232
 z46:=Tryz.sizeOf232
 v46:=Tryz.zeroValue232
 t51:=Tryz.underlying260
 a51:=Tryz.isAgg260
 z51:=Tryz.sizeOf260
 v51:=Tryz.zeroValue260
 t53:=Tryz.underlying245
 a53:=Tryz.isAgg245
 z53:=Tryz.sizeOf245
 v53:=Tryz.zeroValue245
 t75:=Tryz.underlying179
 a75:=Tryz.isAgg179
 z75:=Tryz.sizeOf179
 v75:=Tryz.zeroValue179
 t76:=Tryz.underlying180
 a76:=Tryz.isAgg180
 z76:=Tryz.sizeOf180
 v76:=Tryz.zeroValue180
 t85:=Tryz.underlying227
 a85:=Tryz.isAgg227
 z85:=Tryz.sizeOf227
 v85:=Tryz.zeroValue227
 t127:=Tryz.underlying250
 a127:=Tryz.isAgg250
 z127:=Tryz.sizeOf250
 v127:=Tryz.zeroValue250
 t143:=Tryz.underlying274
 a143:=Tryz.isAgg274
 z143:=Tryz.sizeOf274
 v143:=Tryz.zeroValue274
 t145:=Tryz.underlying276
 a145:=Tryz.isAgg276
 z145:=Tryz.sizeOf276
 v145:=Tryz.zeroValue276
 t167:=Tryz.underlying226
 a167:=Tryz.isAgg226
 z167:=Tryz.sizeOf226
 v167:=Tryz.zeroValue226
 t168:=Tryz.underlying229
 a168:=Tryz.isAgg229
 z168:=Tryz.sizeOf229
 v168:=Tryz.zeroValue229
 t171:=Tryz.underlying244
 a171:=Tryz.isAgg244
 z171:=Tryz.sizeOf244
 v171:=Tryz.zeroValue244
 t173:=Tryz.underlying248
 a173:=Tryz.isAgg248
 z173:=Tryz.sizeOf248
 v173:=Tryz.zeroValue248
 t175:=Tryz.underlying251
 a175:=Tryz.isAgg251
 z175:=Tryz.sizeOf251
 v175:=Tryz.zeroValue251
 t210:=Tryz.underlying254
 a210:=Tryz.isAgg254
 z210:=Tryz.sizeOf254
 v210:=Tryz.zeroValue254
 t212:=Tryz.underlying267
 a212:=Tryz.isAgg267
 z212:=Tryz.sizeOf267
 v212:=Tryz.zeroValue267
 t213:=Tryz.underlying268
 a213:=Tryz.isAgg268
 z213:=Tryz.sizeOf268
 t232:=Tryz.underlying279
 a232:=Tryz.isAgg279
 z232:=Tryz.sizeOf279
 v232:=Tryz.zeroValue279
 t233:=Tryz.underlying280
 a233:=Tryz.isAgg280
 z233:=Tryz.sizeOf280
 v233:=Tryz.zeroValue280
 g15:=by kernel_rfl
 g16:=by kernel_rfl
 g17:=by kernel_rfl
 g18:=by kernel_rfl
 g19:=by kernel_rfl
 t80:=Tryz.underlying225
 a80:=Tryz.isAgg225
 z80:=Tryz.sizeOf225
 v80:=Tryz.zeroValue225
 i0:=by kernel_rfl
 i2:=by kernel_rfl
 i3:=by kernel_rfl
 i4:=by kernel_rfl
 i5:=by kernel_rfl
 i9:=by kernel_rfl
 i20:=by kernel_rfl
 i21:=by kernel_rfl
 i37:=by kernel_rfl
 i46:=by kernel_rfl
 i51:=by kernel_rfl
 i53:=by kernel_rfl
 i75:=by kernel_rfl
 i76:=by kernel_rfl
 i80:=by kernel_rfl
 i85:=by kernel_rfl
 i127:=by kernel_rfl
 i143:=by kernel_rfl
 i145:=by kernel_rfl
 i167:=by kernel_rfl
 i168:=by kernel_rfl
 i171:=by kernel_rfl
 i173:=by kernel_rfl
 i175:=by kernel_rfl
 i210:=by kernel_rfl
 i212:=by kernel_rfl
 i232:=by kernel_rfl
 i233:=by kernel_rfl
 m15:=by kernel_rfl
 m16:=by kernel_rfl
 m17:=by kernel_rfl
 m18:=by kernel_rfl
 m19:=by kernel_rfl
 c0:=by kernel_rfl
 c2:=by kernel_rfl
 c3:=by kernel_rfl
 c4:=by kernel_rfl
 c5:=by kernel_rfl
 c9:=by kernel_rfl
 c20:=by kernel_rfl
 c21:=by kernel_rfl
 c37:=by kernel_rfl
 c46:=by kernel_rfl
 c51:=by kernel_rfl
 c53:=by kernel_rfl
 c75:=by kernel_rfl
 c76:=by kernel_rfl
 c80:=by kernel_rfl
 c85:=by kernel_rfl
 c127:=by kernel_rfl
 c143:=by kernel_rfl
 c145:=by kernel_rfl
 c167:=by kernel_rfl
 c168:=by kernel_rfl
 c171:=by kernel_rfl
 c173:=by kernel_rfl
 c175:=by kernel_rfl
 c210:=by kernel_rfl
 c212:=by kernel_rfl
 c213:=by kernel_rfl
 c232:=by kernel_rfl
 c233:=by kernel_rfl}
def Tryz.lays138_ren:Go.Shelf.Ren:=⟨fun|138=>149|195=>212|218=>214|143=>150|219=>215|217=>257|225=>258|224=>259|267=>260|266=>292|314=>293|n=>n,fun|9=>9|3=>3|4=>4|5=>5|0=>0|46=>232|146=>261|51=>260|n=>n,fun|1=>0|n=>n⟩
theorem Tryz.lays138:Go.Proofs.Lays.n138 Tryz.prog Tryz.lays138_ren:={
 mixed:=by kernel_rfl
 f138:=Tryz.func149.trans (congrArg some (by kernel_rfl))
 f143:=Tryz.func150.trans (congrArg some (by kernel_rfl))
 f195:=Tryz.func212.trans (congrArg some (by kernel_rfl))
 f217:=Tryz.func257.trans (congrArg some (by kernel_rfl))
 f218:=Tryz.func214.trans (congrArg some (by kernel_rfl))
 f219:=Tryz.func215.trans (congrArg some (by kernel_rfl))
 f224:=Tryz.func259.trans (congrArg some (by kernel_rfl))
 f225:=Tryz.func258.trans (congrArg some (by kernel_rfl))
 f266:=Tryz.func292.trans (congrArg some (by kernel_rfl))
 f267:=Tryz.func260.trans (congrArg some (by kernel_rfl))
 f314:=Tryz.func293.trans (congrArg some (by kernel_rfl))
 t0:=Tryz.underlying0
 a0:=Tryz.isAgg0
 z0:=Tryz.sizeOf0
 v0:=Tryz.zeroValue0
 t3:=Tryz.underlying3
 a3:=Tryz.isAgg3
 z3:=Tryz.sizeOf3
 v3:=Tryz.zeroValue3
 t4:=Tryz.underlying4
 a4:=Tryz.isAgg4
 z4:=Tryz.sizeOf4
 v4:=Tryz.zeroValue4
 t5:=Tryz.underlying5
 a5:=Tryz.isAgg5
 z5:=Tryz.sizeOf5
 v5:=Tryz.zeroValue5
 t9:=Tryz.underlying9
 a9:=Tryz.isAgg9
 z9:=Tryz.sizeOf9
 v9:=Tryz.zeroValue9
 t46:=Tryz.underlying232
 a46:=Tryz.isAgg232
 z46:=Tryz.sizeOf232
 v46:=Tryz.zeroValue232
 t51:=Tryz.underlying260
 a51:=Tryz.isAgg260
 z51:=Tryz.sizeOf260
 v51:=Tryz.zeroValue260
 t146:=Tryz.underlying261
 a146:=Tryz.isAgg261
 z146:=Tryz.sizeOf261
 v146:=Tryz.zeroValue261
 g1:=by kernel_rfl}
open Go.RowKit Go.Lib in
theorem Tryz.strings_Count_one(s:ByteArray)(c:UInt8)(w:World):
 Calls Tryz.prog 149 #[.string s,.string ⟨#[c]⟩] w fun e w'=>e=.returned (.int .i64 (Lib.countByte s.data.toList c))/\w'=w:=Any.strings_Count_one Tryz.lays138 s c w
end Go.Proofs
namespace Kw
open Go Go.RowKit Go.Proofs Go.Shelf
set_option maxRecDepth 100000
theorem mO{w:World}{B E sz:Nat}{v:Value}{n:Nat}{xs:List Value}(h:w.ownsRow B E sz v n xs)(hv:v≠ .slice none 0 0):
 ∃g cap cur,v=.slice (some ⟨g,0,none⟩) n cap/\n<=cap/\B<=g/\w.heap[g]?=some (.cells cur E (0,0))/\n*sz<=cur.size/\cur.toList.take (n*sz)=xs:=by
 obtain⟨_,⟨e,_⟩|⟨g,cap,cur,e,hb,hh,hle,_,hs,ht⟩⟩:=h
 ·exact absurd e hv
 ·exact⟨g,cap,cur,e,hle,hb,hh,by rw[hs];exact qh _ hle,ht⟩
def clR(C S E:Nat):Go.Shelf.Ren:=⟨fun|41=>C|n=>n,fun|22=>S|23=>E|4=>4|n=>n,fun|n=>n⟩
def rV(K:Nat):Prop:=∀(a:Addr) (n c:Nat),n<=c->∀w:World,Calls Tryz.prog K #[.slice (some a) n c] w fun e w'=>e=.returned (.slice (some a) n n)/\w'=w
def rX(K:Nat):Prop:=∀(c:Nat) (w:World),Calls Tryz.prog K #[.slice none 0 c] w fun e w'=>e=.returned (.slice none 0 0)/\w'=w
def lQ(i:Nat):Prop:=∀(n c:Nat) (w:World),Calls Tryz.prog i #[.slice none n c] w fun e w'=>e=.returned (.slice none 0 0)/\w'=w
def lR(i C E sz:Nat):Prop:=∀(a:Addr) (n c:Nat) (news:List Value) (w:World),(Calls Tryz.prog C #[.slice (some a) n c] w fun e w'=>∃v',e=.returned v'/\w'.ownsRow w.heap.size E sz v' n news/\v'≠ .slice none 0 0/\Below w.heap.size w w')->
    Calls Tryz.prog i #[.slice (some a) n c] w fun e w'=>∃g cur,e=.returned (.slice (some ⟨g,0,none⟩) n n)/\w.heap.size<=g/\w'.heap[g]?=some (.cells cur E (0,0))/\n*sz<=cur.size/\cur.toList.take (n*sz)=news/\Below w.heap.size w w'
theorem clG [Gl]{i C S E sz:Nat}(hsz:0<sz)(L:Go.Proofs.SlLaysE0.n41 Tryz.prog (clR C S E))(hk:(okT Tryz.prog E&&(tsize Tryz.prog E==sz)&&Nat.ble (fM Tryz.prog E) 1024)=true)(z23:∀w,(Go.sizeOf E).run Tryz.prog w=.ok sz w)(en:∀v w,(callFunc i #[v]).run Tryz.prog w=.ok (.enter i #[v]) w)(hN:lQ i)(hS:lR i C E sz):
 dB Tryz.prog fun f' args imps=>if f'=i then(dS sz 1024 args).map fun m=>(m,imps)else none:=by
 simp only[jf,beq_iff_eq]at hk;obtain⟨⟨hk,ht⟩,hb⟩:=hk;obtain⟨i0,z,hi,hz,_,hzs⟩:=hJ hk;have h1:i0.size=sz:=by rw[<-ht];unfold tsize;rw[hi]
 have h2:i0.bytes<=1024:=by
  have:=Nat.le_of_ble_eq_true hb;unfold fM at this;rw[hi]at this;exact this
 refine @XE _ _ _ sz 1024 E hsz en hN fun a n c news w hl hn hc ho=>?_
 have hnb:n*i0.bytes<=140737488355328:=ku (Nat.mul_le_mul_left n h2) (by omega)
 by_cases h0:0<n
 ·obtain⟨hs,hc⟩:=hc h0;obtain⟨b,off,spot⟩:=a;simp only at hs;subst hs;exact hS _ n c news w (AnyE.slices_Clone L i0 z sz i0.bytes hi hz h1 rfl (by rw[hzs,ht]) hsz z23 b off n c news w hl (by unfold maxLen;omega) hnb hc ho)
 ·obtain rfl:n=0:=by omega
  obtain rfl:news=[]:=vt.1 (by omega)
  exact hS _ 0 c [] w (abS L i0 z sz i0.bytes hi hz h1 rfl (by rw[hzs,ht]) hsz z23 a c w)
theorem Y5:Go.Proofs.SlLaysE0.n41 Tryz.prog (clR 89 30 9):={
 mixed:=by kernel_rfl
 f41:=⟨Tryz.f89.name,by decide,Tryz.func89.trans (vg some (by kernel_rfl))⟩
 t4:=Tryz.underlying4
 a4:=Tryz.isAgg4
 z4:=Tryz.sizeOf4
 v4:=Tryz.zeroValue4
 t22:=Tryz.underlying30
 a22:=Tryz.isAgg30
 z22:=Tryz.sizeOf30
 v22:=Tryz.zeroValue30}
theorem SB:rV 88:=fun a n c hn w=>by
 go_enter Tryz.func88,Tryz.ntmps88
 go_wp2
 go_ret
 exact⟨rfl,rfl⟩
theorem NA:rX 88:=fun c w=>by
 go_enter Tryz.func88,Tryz.ntmps88
 go_wp2
 go_ret
 exact⟨rfl,rfl⟩
theorem UP:lR 48 89 9 1:=fun a n c news w k=>by
 go_enter Tryz.func48,Tryz.ntmps48
 go_wp2_with (go_at_call 89;refine k.mono ?_;rintro e w' ⟨v',rfl,hown,hnn,hB⟩)
 obtain⟨g,cap,cur,rfl,hle,hg,hh⟩:=mO hown hnn;clear hown hnn;have k2:=SB ⟨g,0,none⟩ n cap hle w';have A:Aside _:=hh;clear hh
 go_wp2_with (go_at_call 88;refine k2.mono ?_;rintro e w'' ⟨rfl,rfl⟩)
 go_ret
 exact⟨g,cur,rfl,hg,A.out.1,A.out.2.1,A.out.2.2,hB⟩
theorem UQ:lQ 48:=fun n c w=>by
 have k:=AnyE.slices_Clone_nil Y5 n c w;have k2:=NA 0 w
 go_enter Tryz.func48,Tryz.ntmps48
 go_wp2_with (first|(go_at_call 89;refine k.mono ?_;rintro e w' ⟨rfl,rfl⟩)|(go_at_call 88;refine k2.mono ?_;rintro e w'' ⟨rfl,rfl⟩))
 go_ret
 exact⟨rfl,rfl⟩
theorem Y6 [Gl]:dB Tryz.prog fun f' args imps=>if f'=48 then(dS 1 1024 args).map fun m=>(m,imps)else none:=
 clG (by decide) Y5 (by kernel_rfl) Tryz.sizeOf9 (fun v w=>dA (c:=(match Tryz.f48.body with|some c=>c|none=>.skip)) Tryz.func48 (by kernel_rfl) (by kernel_rfl) _ _) UQ UP
theorem Y7:Go.Proofs.SlLaysE0.n41 Tryz.prog (clR 154 71 73):={
 mixed:=by kernel_rfl
 f41:=⟨Tryz.f154.name,by decide,Tryz.func154.trans (vg some (by kernel_rfl))⟩
 t4:=Tryz.underlying4
 a4:=Tryz.isAgg4
 z4:=Tryz.sizeOf4
 v4:=Tryz.zeroValue4
 t22:=Tryz.underlying71
 a22:=Tryz.isAgg71
 z22:=Tryz.sizeOf71
 v22:=Tryz.zeroValue71}
theorem Y8:rV 153:=fun a n c hn w=>by
 go_enter Tryz.func153,Tryz.ntmps153
 go_wp2
 go_ret
 exact⟨rfl,rfl⟩
theorem UR:rX 153:=fun c w=>by
 go_enter Tryz.func153,Tryz.ntmps153
 go_wp2
 go_ret
 exact⟨rfl,rfl⟩
theorem US:lR 92 154 73 2:=fun a n c news w k=>by
 go_enter Tryz.func92,Tryz.ntmps92
 go_wp2_with (go_at_call 154;refine k.mono ?_;rintro e w' ⟨v',rfl,hown,hnn,hB⟩)
 obtain⟨g,cap,cur,rfl,hle,hg,hh⟩:=mO hown hnn;clear hown hnn;have k2:=Y8 ⟨g,0,none⟩ n cap hle w';have A:Aside _:=hh;clear hh
 go_wp2_with (go_at_call 153;refine k2.mono ?_;rintro e w'' ⟨rfl,rfl⟩)
 go_ret
 exact⟨g,cur,rfl,hg,A.out.1,A.out.2.1,A.out.2.2,hB⟩
theorem UT:lQ 92:=fun n c w=>by
 have k:=AnyE.slices_Clone_nil Y7 n c w;have k2:=UR 0 w
 go_enter Tryz.func92,Tryz.ntmps92
 go_wp2_with (first|(go_at_call 154;refine k.mono ?_;rintro e w' ⟨rfl,rfl⟩)|(go_at_call 153;refine k2.mono ?_;rintro e w'' ⟨rfl,rfl⟩))
 go_ret
 exact⟨rfl,rfl⟩
theorem Y9 [Gl]:dB Tryz.prog fun f' args imps=>if f'=92 then(dS 2 1024 args).map fun m=>(m,imps)else none:=
 clG (by decide) Y7 (by kernel_rfl) Tryz.sizeOf73 (fun v w=>dA (c:=(match Tryz.f92.body with|some c=>c|none=>.skip)) Tryz.func92 (by kernel_rfl) (by kernel_rfl) _ _) UT US
theorem SC:Go.Proofs.SlLaysE0.n41 Tryz.prog (clR 172 26 43):={
 mixed:=by kernel_rfl
 f41:=⟨Tryz.f172.name,by decide,Tryz.func172.trans (vg some (by kernel_rfl))⟩
 t4:=Tryz.underlying4
 a4:=Tryz.isAgg4
 z4:=Tryz.sizeOf4
 v4:=Tryz.zeroValue4
 t22:=Tryz.underlying26
 a22:=Tryz.isAgg26
 z22:=Tryz.sizeOf26
 v22:=Tryz.zeroValue26}
theorem ZA:rV 171:=fun a n c hn w=>by
 go_enter Tryz.func171,Tryz.ntmps171
 go_wp2
 go_ret
 exact⟨rfl,rfl⟩
theorem UU:rX 171:=fun c w=>by
 go_enter Tryz.func171,Tryz.ntmps171
 go_wp2
 go_ret
 exact⟨rfl,rfl⟩
theorem PM:lR 105 172 43 7:=fun a n c news w k=>by
 go_enter Tryz.func105,Tryz.ntmps105
 go_wp2_with (go_at_call 172;refine k.mono ?_;rintro e w' ⟨v',rfl,hown,hnn,hB⟩)
 obtain⟨g,cap,cur,rfl,hle,hg,hh⟩:=mO hown hnn;clear hown hnn;have k2:=ZA ⟨g,0,none⟩ n cap hle w';have A:Aside _:=hh;clear hh
 go_wp2_with (go_at_call 171;refine k2.mono ?_;rintro e w'' ⟨rfl,rfl⟩)
 go_ret
 exact⟨g,cur,rfl,hg,A.out.1,A.out.2.1,A.out.2.2,hB⟩
theorem PN:lQ 105:=fun n c w=>by
 have k:=AnyE.slices_Clone_nil SC n c w;have k2:=UU 0 w
 go_enter Tryz.func105,Tryz.ntmps105
 go_wp2_with (first|(go_at_call 172;refine k.mono ?_;rintro e w' ⟨rfl,rfl⟩)|(go_at_call 171;refine k2.mono ?_;rintro e w'' ⟨rfl,rfl⟩))
 go_ret
 exact⟨rfl,rfl⟩
theorem UV [Gl]:dB Tryz.prog fun f' args imps=>if f'=105 then(dS 7 1024 args).map fun m=>(m,imps)else none:=
 clG (by decide) SC (by kernel_rfl) Tryz.sizeOf43 (fun v w=>dA (c:=(match Tryz.f105.body with|some c=>c|none=>.skip)) Tryz.func105 (by kernel_rfl) (by kernel_rfl) _ _) PN PM
theorem SD:Go.Proofs.SlLaysE0.n41 Tryz.prog (clR 174 27 81):={
 mixed:=by kernel_rfl
 f41:=⟨Tryz.f174.name,by decide,Tryz.func174.trans (vg some (by kernel_rfl))⟩
 t4:=Tryz.underlying4
 a4:=Tryz.isAgg4
 z4:=Tryz.sizeOf4
 v4:=Tryz.zeroValue4
 t22:=Tryz.underlying27
 a22:=Tryz.isAgg27
 z22:=Tryz.sizeOf27
 v22:=Tryz.zeroValue27}
theorem ZB:rV 173:=fun a n c hn w=>by
 go_enter Tryz.func173,Tryz.ntmps173
 go_wp2
 go_ret
 exact⟨rfl,rfl⟩
theorem UW:rX 173:=fun c w=>by
 go_enter Tryz.func173,Tryz.ntmps173
 go_wp2
 go_ret
 exact⟨rfl,rfl⟩
theorem PO:lR 106 174 81 4:=fun a n c news w k=>by
 go_enter Tryz.func106,Tryz.ntmps106
 go_wp2_with (go_at_call 174;refine k.mono ?_;rintro e w' ⟨v',rfl,hown,hnn,hB⟩)
 obtain⟨g,cap,cur,rfl,hle,hg,hh⟩:=mO hown hnn;clear hown hnn;have k2:=ZB ⟨g,0,none⟩ n cap hle w';have A:Aside _:=hh;clear hh
 go_wp2_with (go_at_call 173;refine k2.mono ?_;rintro e w'' ⟨rfl,rfl⟩)
 go_ret
 exact⟨g,cur,rfl,hg,A.out.1,A.out.2.1,A.out.2.2,hB⟩
theorem PP:lQ 106:=fun n c w=>by
 have k:=AnyE.slices_Clone_nil SD n c w;have k2:=UW 0 w
 go_enter Tryz.func106,Tryz.ntmps106
 go_wp2_with (first|(go_at_call 174;refine k.mono ?_;rintro e w' ⟨rfl,rfl⟩)|(go_at_call 173;refine k2.mono ?_;rintro e w'' ⟨rfl,rfl⟩))
 go_ret
 exact⟨rfl,rfl⟩
theorem UX [Gl]:dB Tryz.prog fun f' args imps=>if f'=106 then(dS 4 1024 args).map fun m=>(m,imps)else none:=
 clG (by decide) SD (by kernel_rfl) Tryz.sizeOf81 (fun v w=>dA (c:=(match Tryz.f106.body with|some c=>c|none=>.skip)) Tryz.func106 (by kernel_rfl) (by kernel_rfl) _ _) PP PO
theorem SE:Go.Proofs.SlLaysE0.n41 Tryz.prog (clR 176 28 77):={
 mixed:=by kernel_rfl
 f41:=⟨Tryz.f176.name,by decide,Tryz.func176.trans (vg some (by kernel_rfl))⟩
 t4:=Tryz.underlying4
 a4:=Tryz.isAgg4
 z4:=Tryz.sizeOf4
 v4:=Tryz.zeroValue4
 t22:=Tryz.underlying28
 a22:=Tryz.isAgg28
 z22:=Tryz.sizeOf28
 v22:=Tryz.zeroValue28}
theorem ZC:rV 175:=fun a n c hn w=>by
 go_enter Tryz.func175,Tryz.ntmps175
 go_wp2
 go_ret
 exact⟨rfl,rfl⟩
theorem UY:rX 175:=fun c w=>by
 go_enter Tryz.func175,Tryz.ntmps175
 go_wp2
 go_ret
 exact⟨rfl,rfl⟩
theorem PQ:lR 107 176 77 13:=fun a n c news w k=>by
 go_enter Tryz.func107,Tryz.ntmps107
 go_wp2_with (go_at_call 176;refine k.mono ?_;rintro e w' ⟨v',rfl,hown,hnn,hB⟩)
 obtain⟨g,cap,cur,rfl,hle,hg,hh⟩:=mO hown hnn;clear hown hnn;have k2:=ZC ⟨g,0,none⟩ n cap hle w';have A:Aside _:=hh;clear hh
 go_wp2_with (go_at_call 175;refine k2.mono ?_;rintro e w'' ⟨rfl,rfl⟩)
 go_ret
 exact⟨g,cur,rfl,hg,A.out.1,A.out.2.1,A.out.2.2,hB⟩
theorem PS:lQ 107:=fun n c w=>by
 have k:=AnyE.slices_Clone_nil SE n c w;have k2:=UY 0 w
 go_enter Tryz.func107,Tryz.ntmps107
 go_wp2_with (first|(go_at_call 176;refine k.mono ?_;rintro e w' ⟨rfl,rfl⟩)|(go_at_call 175;refine k2.mono ?_;rintro e w'' ⟨rfl,rfl⟩))
 go_ret
 exact⟨rfl,rfl⟩
theorem UZ [Gl]:dB Tryz.prog fun f' args imps=>if f'=107 then(dS 13 1024 args).map fun m=>(m,imps)else none:=
 clG (by decide) SE (by kernel_rfl) Tryz.sizeOf77 (fun v w=>dA (c:=(match Tryz.f107.body with|some c=>c|none=>.skip)) Tryz.func107 (by kernel_rfl) (by kernel_rfl) _ _) PS PQ
theorem KN:Go.Proofs.SlLaysE0.n41 Tryz.prog (clR 178 29 3):={
 mixed:=by kernel_rfl
 f41:=⟨Tryz.f178.name,by decide,Tryz.func178.trans (vg some (by kernel_rfl))⟩
 t4:=Tryz.underlying4
 a4:=Tryz.isAgg4
 z4:=Tryz.sizeOf4
 v4:=Tryz.zeroValue4
 t22:=Tryz.underlying29
 a22:=Tryz.isAgg29
 z22:=Tryz.sizeOf29
 v22:=Tryz.zeroValue29}
theorem NB:rV 177:=fun a n c hn w=>by
 go_enter Tryz.func177,Tryz.ntmps177
 go_wp2
 go_ret
 exact⟨rfl,rfl⟩
theorem I3:rX 177:=fun c w=>by
 go_enter Tryz.func177,Tryz.ntmps177
 go_wp2
 go_ret
 exact⟨rfl,rfl⟩
theorem FM:lR 108 178 3 1:=fun a n c news w k=>by
 go_enter Tryz.func108,Tryz.ntmps108
 go_wp2_with (go_at_call 178;refine k.mono ?_;rintro e w' ⟨v',rfl,hown,hnn,hB⟩)
 obtain⟨g,cap,cur,rfl,hle,hg,hh⟩:=mO hown hnn;clear hown hnn;have k2:=NB ⟨g,0,none⟩ n cap hle w';have A:Aside _:=hh;clear hh
 go_wp2_with (go_at_call 177;refine k2.mono ?_;rintro e w'' ⟨rfl,rfl⟩)
 go_ret
 exact⟨g,cur,rfl,hg,A.out.1,A.out.2.1,A.out.2.2,hB⟩
theorem PT:lQ 108:=fun n c w=>by
 have k:=AnyE.slices_Clone_nil KN n c w;have k2:=I3 0 w
 go_enter Tryz.func108,Tryz.ntmps108
 go_wp2_with (first|(go_at_call 178;refine k.mono ?_;rintro e w' ⟨rfl,rfl⟩)|(go_at_call 177;refine k2.mono ?_;rintro e w'' ⟨rfl,rfl⟩))
 go_ret
 exact⟨rfl,rfl⟩
theorem U0 [Gl]:dB Tryz.prog fun f' args imps=>if f'=108 then(dS 1 1024 args).map fun m=>(m,imps)else none:=
 clG (by decide) KN (by kernel_rfl) Tryz.sizeOf3 (fun v w=>dA (c:=(match Tryz.f108.body with|some c=>c|none=>.skip)) Tryz.func108 (by kernel_rfl) (by kernel_rfl) _ _) PT FM
theorem SF:Go.Proofs.SlLaysE0.n41 Tryz.prog (clR 180 31 87):={
 mixed:=by kernel_rfl
 f41:=⟨Tryz.f180.name,by decide,Tryz.func180.trans (vg some (by kernel_rfl))⟩
 t4:=Tryz.underlying4
 a4:=Tryz.isAgg4
 z4:=Tryz.sizeOf4
 v4:=Tryz.zeroValue4
 t22:=Tryz.underlying31
 a22:=Tryz.isAgg31
 z22:=Tryz.sizeOf31
 v22:=Tryz.zeroValue31}
theorem ZD:rV 179:=fun a n c hn w=>by
 go_enter Tryz.func179,Tryz.ntmps179
 go_wp2
 go_ret
 exact⟨rfl,rfl⟩
theorem U1:rX 179:=fun c w=>by
 go_enter Tryz.func179,Tryz.ntmps179
 go_wp2
 go_ret
 exact⟨rfl,rfl⟩
theorem PU:lR 109 180 87 2:=fun a n c news w k=>by
 go_enter Tryz.func109,Tryz.ntmps109
 go_wp2_with (go_at_call 180;refine k.mono ?_;rintro e w' ⟨v',rfl,hown,hnn,hB⟩)
 obtain⟨g,cap,cur,rfl,hle,hg,hh⟩:=mO hown hnn;clear hown hnn;have k2:=ZD ⟨g,0,none⟩ n cap hle w';have A:Aside _:=hh;clear hh
 go_wp2_with (go_at_call 179;refine k2.mono ?_;rintro e w'' ⟨rfl,rfl⟩)
 go_ret
 exact⟨g,cur,rfl,hg,A.out.1,A.out.2.1,A.out.2.2,hB⟩
theorem PV:lQ 109:=fun n c w=>by
 have k:=AnyE.slices_Clone_nil SF n c w;have k2:=U1 0 w
 go_enter Tryz.func109,Tryz.ntmps109
 go_wp2_with (first|(go_at_call 180;refine k.mono ?_;rintro e w' ⟨rfl,rfl⟩)|(go_at_call 179;refine k2.mono ?_;rintro e w'' ⟨rfl,rfl⟩))
 go_ret
 exact⟨rfl,rfl⟩
theorem U2 [Gl]:dB Tryz.prog fun f' args imps=>if f'=109 then(dS 2 1024 args).map fun m=>(m,imps)else none:=
 clG (by decide) SF (by kernel_rfl) Tryz.sizeOf87 (fun v w=>dA (c:=(match Tryz.f109.body with|some c=>c|none=>.skip)) Tryz.func109 (by kernel_rfl) (by kernel_rfl) _ _) PV PU
theorem SG:Go.Proofs.SlLaysE0.n41 Tryz.prog (clR 182 32 91):={
 mixed:=by kernel_rfl
 f41:=⟨Tryz.f182.name,by decide,Tryz.func182.trans (vg some (by kernel_rfl))⟩
 t4:=Tryz.underlying4
 a4:=Tryz.isAgg4
 z4:=Tryz.sizeOf4
 v4:=Tryz.zeroValue4
 t22:=Tryz.underlying32
 a22:=Tryz.isAgg32
 z22:=Tryz.sizeOf32
 v22:=Tryz.zeroValue32}
theorem ZE:rV 181:=fun a n c hn w=>by
 go_enter Tryz.func181,Tryz.ntmps181
 go_wp2
 go_ret
 exact⟨rfl,rfl⟩
theorem U3:rX 181:=fun c w=>by
 go_enter Tryz.func181,Tryz.ntmps181
 go_wp2
 go_ret
 exact⟨rfl,rfl⟩
theorem PW:lR 110 182 91 4:=fun a n c news w k=>by
 go_enter Tryz.func110,Tryz.ntmps110
 go_wp2_with (go_at_call 182;refine k.mono ?_;rintro e w' ⟨v',rfl,hown,hnn,hB⟩)
 obtain⟨g,cap,cur,rfl,hle,hg,hh⟩:=mO hown hnn;clear hown hnn;have k2:=ZE ⟨g,0,none⟩ n cap hle w';have A:Aside _:=hh;clear hh
 go_wp2_with (go_at_call 181;refine k2.mono ?_;rintro e w'' ⟨rfl,rfl⟩)
 go_ret
 exact⟨g,cur,rfl,hg,A.out.1,A.out.2.1,A.out.2.2,hB⟩
theorem PX:lQ 110:=fun n c w=>by
 have k:=AnyE.slices_Clone_nil SG n c w;have k2:=U3 0 w
 go_enter Tryz.func110,Tryz.ntmps110
 go_wp2_with (first|(go_at_call 182;refine k.mono ?_;rintro e w' ⟨rfl,rfl⟩)|(go_at_call 181;refine k2.mono ?_;rintro e w'' ⟨rfl,rfl⟩))
 go_ret
 exact⟨rfl,rfl⟩
theorem U4 [Gl]:dB Tryz.prog fun f' args imps=>if f'=110 then(dS 4 1024 args).map fun m=>(m,imps)else none:=
 clG (by decide) SG (by kernel_rfl) Tryz.sizeOf91 (fun v w=>dA (c:=(match Tryz.f110.body with|some c=>c|none=>.skip)) Tryz.func110 (by kernel_rfl) (by kernel_rfl) _ _) PX PW
theorem SH:Go.Proofs.SlLaysE0.n41 Tryz.prog (clR 184 33 68):={
 mixed:=by kernel_rfl
 f41:=⟨Tryz.f184.name,by decide,Tryz.func184.trans (vg some (by kernel_rfl))⟩
 t4:=Tryz.underlying4
 a4:=Tryz.isAgg4
 z4:=Tryz.sizeOf4
 v4:=Tryz.zeroValue4
 t22:=Tryz.underlying33
 a22:=Tryz.isAgg33
 z22:=Tryz.sizeOf33
 v22:=Tryz.zeroValue33}
theorem ZF:rV 183:=fun a n c hn w=>by
 go_enter Tryz.func183,Tryz.ntmps183
 go_wp2
 go_ret
 exact⟨rfl,rfl⟩
theorem U5:rX 183:=fun c w=>by
 go_enter Tryz.func183,Tryz.ntmps183
 go_wp2
 go_ret
 exact⟨rfl,rfl⟩
theorem PY:lR 111 184 68 1:=fun a n c news w k=>by
 go_enter Tryz.func111,Tryz.ntmps111
 go_wp2_with (go_at_call 184;refine k.mono ?_;rintro e w' ⟨v',rfl,hown,hnn,hB⟩)
 obtain⟨g,cap,cur,rfl,hle,hg,hh⟩:=mO hown hnn;clear hown hnn;have k2:=ZF ⟨g,0,none⟩ n cap hle w';have A:Aside _:=hh;clear hh
 go_wp2_with (go_at_call 183;refine k2.mono ?_;rintro e w'' ⟨rfl,rfl⟩)
 go_ret
 exact⟨g,cur,rfl,hg,A.out.1,A.out.2.1,A.out.2.2,hB⟩
theorem PZ:lQ 111:=fun n c w=>by
 have k:=AnyE.slices_Clone_nil SH n c w;have k2:=U5 0 w
 go_enter Tryz.func111,Tryz.ntmps111
 go_wp2_with (first|(go_at_call 184;refine k.mono ?_;rintro e w' ⟨rfl,rfl⟩)|(go_at_call 183;refine k2.mono ?_;rintro e w'' ⟨rfl,rfl⟩))
 go_ret
 exact⟨rfl,rfl⟩
theorem U6 [Gl]:dB Tryz.prog fun f' args imps=>if f'=111 then(dS 1 1024 args).map fun m=>(m,imps)else none:=
 clG (by decide) SH (by kernel_rfl) Tryz.sizeOf68 (fun v w=>dA (c:=(match Tryz.f111.body with|some c=>c|none=>.skip)) Tryz.func111 (by kernel_rfl) (by kernel_rfl) _ _) PZ PY
theorem SI:Go.Proofs.SlLaysE0.n41 Tryz.prog (clR 186 34 95):={
 mixed:=by kernel_rfl
 f41:=⟨Tryz.f186.name,by decide,Tryz.func186.trans (vg some (by kernel_rfl))⟩
 t4:=Tryz.underlying4
 a4:=Tryz.isAgg4
 z4:=Tryz.sizeOf4
 v4:=Tryz.zeroValue4
 t22:=Tryz.underlying34
 a22:=Tryz.isAgg34
 z22:=Tryz.sizeOf34
 v22:=Tryz.zeroValue34}
theorem ZG:rV 185:=fun a n c hn w=>by
 go_enter Tryz.func185,Tryz.ntmps185
 go_wp2
 go_ret
 exact⟨rfl,rfl⟩
theorem U7:rX 185:=fun c w=>by
 go_enter Tryz.func185,Tryz.ntmps185
 go_wp2
 go_ret
 exact⟨rfl,rfl⟩
theorem P0:lR 112 186 95 2:=fun a n c news w k=>by
 go_enter Tryz.func112,Tryz.ntmps112
 go_wp2_with (go_at_call 186;refine k.mono ?_;rintro e w' ⟨v',rfl,hown,hnn,hB⟩)
 obtain⟨g,cap,cur,rfl,hle,hg,hh⟩:=mO hown hnn;clear hown hnn;have k2:=ZG ⟨g,0,none⟩ n cap hle w';have A:Aside _:=hh;clear hh
 go_wp2_with (go_at_call 185;refine k2.mono ?_;rintro e w'' ⟨rfl,rfl⟩)
 go_ret
 exact⟨g,cur,rfl,hg,A.out.1,A.out.2.1,A.out.2.2,hB⟩
theorem P1:lQ 112:=fun n c w=>by
 have k:=AnyE.slices_Clone_nil SI n c w;have k2:=U7 0 w
 go_enter Tryz.func112,Tryz.ntmps112
 go_wp2_with (first|(go_at_call 186;refine k.mono ?_;rintro e w' ⟨rfl,rfl⟩)|(go_at_call 185;refine k2.mono ?_;rintro e w'' ⟨rfl,rfl⟩))
 go_ret
 exact⟨rfl,rfl⟩
theorem U8 [Gl]:dB Tryz.prog fun f' args imps=>if f'=112 then(dS 2 1024 args).map fun m=>(m,imps)else none:=
 clG (by decide) SI (by kernel_rfl) Tryz.sizeOf95 (fun v w=>dA (c:=(match Tryz.f112.body with|some c=>c|none=>.skip)) Tryz.func112 (by kernel_rfl) (by kernel_rfl) _ _) P1 P0
theorem SJ:Go.Proofs.SlLaysE0.n41 Tryz.prog (clR 235 41 109):={
 mixed:=by kernel_rfl
 f41:=⟨Tryz.f235.name,by decide,Tryz.func235.trans (vg some (by kernel_rfl))⟩
 t4:=Tryz.underlying4
 a4:=Tryz.isAgg4
 z4:=Tryz.sizeOf4
 v4:=Tryz.zeroValue4
 t22:=Tryz.underlying41
 a22:=Tryz.isAgg41
 z22:=Tryz.sizeOf41
 v22:=Tryz.zeroValue41}
theorem ZH:rV 234:=fun a n c hn w=>by
 go_enter Tryz.func234,Tryz.ntmps234
 go_wp2
 go_ret
 exact⟨rfl,rfl⟩
theorem U9:rX 234:=fun c w=>by
 go_enter Tryz.func234,Tryz.ntmps234
 go_wp2
 go_ret
 exact⟨rfl,rfl⟩
theorem P2:lR 188 235 109 2:=fun a n c news w k=>by
 go_enter Tryz.func188,Tryz.ntmps188
 go_wp2_with (go_at_call 235;refine k.mono ?_;rintro e w' ⟨v',rfl,hown,hnn,hB⟩)
 obtain⟨g,cap,cur,rfl,hle,hg,hh⟩:=mO hown hnn;clear hown hnn;have k2:=ZH ⟨g,0,none⟩ n cap hle w';have A:Aside _:=hh;clear hh
 go_wp2_with (go_at_call 234;refine k2.mono ?_;rintro e w'' ⟨rfl,rfl⟩)
 go_ret
 exact⟨g,cur,rfl,hg,A.out.1,A.out.2.1,A.out.2.2,hB⟩
theorem P3:lQ 188:=fun n c w=>by
 have k:=AnyE.slices_Clone_nil SJ n c w;have k2:=U9 0 w
 go_enter Tryz.func188,Tryz.ntmps188
 go_wp2_with (first|(go_at_call 235;refine k.mono ?_;rintro e w' ⟨rfl,rfl⟩)|(go_at_call 234;refine k2.mono ?_;rintro e w'' ⟨rfl,rfl⟩))
 go_ret
 exact⟨rfl,rfl⟩
theorem VA [Gl]:dB Tryz.prog fun f' args imps=>if f'=188 then(dS 2 1024 args).map fun m=>(m,imps)else none:=
 clG (by decide) SJ (by kernel_rfl) Tryz.sizeOf109 (fun v w=>dA (c:=(match Tryz.f188.body with|some c=>c|none=>.skip)) Tryz.func188 (by kernel_rfl) (by kernel_rfl) _ _) P3 P2
theorem SK:Go.Proofs.SlLaysE0.n41 Tryz.prog (clR 237 68 124):={
 mixed:=by kernel_rfl
 f41:=⟨Tryz.f237.name,by decide,Tryz.func237.trans (vg some (by kernel_rfl))⟩
 t4:=Tryz.underlying4
 a4:=Tryz.isAgg4
 z4:=Tryz.sizeOf4
 v4:=Tryz.zeroValue4
 t22:=Tryz.underlying68
 a22:=Tryz.isAgg68
 z22:=Tryz.sizeOf68
 v22:=Tryz.zeroValue68}
theorem ZI:rV 236:=fun a n c hn w=>by
 go_enter Tryz.func236,Tryz.ntmps236
 go_wp2
 go_ret
 exact⟨rfl,rfl⟩
theorem VB:rX 236:=fun c w=>by
 go_enter Tryz.func236,Tryz.ntmps236
 go_wp2
 go_ret
 exact⟨rfl,rfl⟩
theorem P4:lR 189 237 124 3:=fun a n c news w k=>by
 go_enter Tryz.func189,Tryz.ntmps189
 go_wp2_with (go_at_call 237;refine k.mono ?_;rintro e w' ⟨v',rfl,hown,hnn,hB⟩)
 obtain⟨g,cap,cur,rfl,hle,hg,hh⟩:=mO hown hnn;clear hown hnn;have k2:=ZI ⟨g,0,none⟩ n cap hle w';have A:Aside _:=hh;clear hh
 go_wp2_with (go_at_call 236;refine k2.mono ?_;rintro e w'' ⟨rfl,rfl⟩)
 go_ret
 exact⟨g,cur,rfl,hg,A.out.1,A.out.2.1,A.out.2.2,hB⟩
theorem P5:lQ 189:=fun n c w=>by
 have k:=AnyE.slices_Clone_nil SK n c w;have k2:=VB 0 w
 go_enter Tryz.func189,Tryz.ntmps189
 go_wp2_with (first|(go_at_call 237;refine k.mono ?_;rintro e w' ⟨rfl,rfl⟩)|(go_at_call 236;refine k2.mono ?_;rintro e w'' ⟨rfl,rfl⟩))
 go_ret
 exact⟨rfl,rfl⟩
theorem VC [Gl]:dB Tryz.prog fun f' args imps=>if f'=189 then(dS 3 1024 args).map fun m=>(m,imps)else none:=
 clG (by decide) SK (by kernel_rfl) Tryz.sizeOf124 (fun v w=>dA (c:=(match Tryz.f189.body with|some c=>c|none=>.skip)) Tryz.func189 (by kernel_rfl) (by kernel_rfl) _ _) P5 P4
end Kw
namespace Kw
open Go Go.RowKit
variable [Gl]
theorem JM{w:World}{prot:Nat->Prop}{vals:Array Value}{m:MV}(hv:Rl (fun v m=>SV w prot v m) vals.toList [m]):∃v,vals= #[v]/\SV w prot v m:=by
 obtain⟨l⟩:=vals;change Rl _ l _ at hv;cases hv with
 |cons h1 h2=>cases h2;exact⟨_,rfl,h1⟩
theorem abP{w:World}{prot:Nat->Prop}{vals:Array Value}{m n:MV}(hv:Rl (fun v m=>SV w prot v m) vals.toList [m,n]):∃v u,vals= #[v,u]/\SV w prot v m/\SV w prot u n:=by
 obtain⟨l⟩:=vals;change Rl _ l _ at hv;cases hv with
 |cons h1 h2=>cases h2 with|cons h3 h4=>cases h4;exact⟨_,_,rfl,h1,h3⟩
theorem Q4{P:Program}{K:FuncId}(enter:∀v w,(callFunc K #[v]).run P w=.ok (.enter K #[v]) w)
 (hs:∀(a:Addr) (n c:Nat),n<=c->∀w,Calls P K #[.slice (some a) n c] w fun e w'=>e=.returned (.slice (some a) n n)/\w'=w)
 (hn:∀(c:Nat) (w:World),Calls P K #[.slice none 0 c] w fun e w'=>e=.returned (.slice none 0 0)/\w'=w):
 dB P fun f' args imps=>if f'=K then(BK args).map fun m=>(m,imps)else none:=by
 refine KC (q:=BK) (fun args m h=>?_) fun args m h vals w prot hp hv=>?_
 ·unfold BK at h;split at h
  ·rfl
  ·cases h
 unfold BK at h;split at h
 case h_2=>cases h
 cases h;obtain⟨v,e,hsv⟩:=JM hv;subst e;refine f5 (enter v w) ?_;cases hsv with
 | @sl a n c rows sz vf hl hc hrow had hsv=>
   cases a with
   |none=>
    have h0:n=0:=by
     by_cases h0:0<n
     ·obtain⟨ad,e,_⟩:=had h0;cases e
     ·omega
    subst h0;refine(hn c w).mono fun e w' ⟨he,hw⟩=>⟨_,he,.one ?_ rfl,by rw[hw];exact Below.refl _ w⟩
    subst hw;exact .sl sz vf hl (kg _) hrow (fun h=>absurd h (yg 0)) hsv
   |some ad=>
    refine(hs ad n c hc w).mono fun e w' ⟨he,hw⟩=>⟨_,he,.one ?_ rfl,by rw[hw];exact Below.refl _ w⟩
    subst hw;exact .sl sz vf hl (kg _) hrow had hsv
theorem TM(n:Int)(h0:0<=n)(h1:n<100):(⟨(Lib.decDigits n.toNat).toArray⟩:ByteArray)=bs (if n<10 then[(48+n).toNat.toUInt8]else[(48+n/10).toNat.toUInt8,(48+n%10).toNat.toUInt8]):=by
 obtain⟨k,rfl⟩:=kv h0;rw[ki];unfold bs
 congr 2
 unfold Lib.decDigits;by_cases h:k<10
 ·rw[dif_pos h,jd (by omega)]
  congr 1
 ·rw[dif_neg h,jb (by omega)]
  unfold Lib.decDigits;rw[dif_pos (by omega)]
  have e1:(48+(k:Int)/10).toNat=48+k/10:=by omega
  have e2:(48+(k:Int)%10).toNat=48+k%10:=by omega
  rw[e1,e2]
  rfl
theorem abQ{P:Program}{F:FuncId}(enter:∀v w,(callFunc F #[v]).run P w=.ok (.enter F #[v]) w)
 (hc:∀(i:Nat),i<100->∀w:World,Calls P F #[.int .i64 i] w fun e w'=>e=.returned (.string ⟨(Lib.decDigits i).toArray⟩)/\w'=w):
 dB P fun f' args imps=>if f'=F then(xK args).map fun m=>(m,imps)else none:=by
 refine KC (q:=xK) (fun args m h=>?_) fun args m h vals w prot hp hv=>?_
 ·unfold xK at h;split at h
  ·rfl
  ·cases h
 unfold xK at h;split at h
 case h_2=>cases h
 rename_i n;split at h
 case isFalse=>cases h
 rename_i hn;cases h;obtain⟨v,e,hsv⟩:=JM hv;subst e;cases hsv;refine f5 (enter _ w) ?_;have h:=hc n.toNat (by omega) w
 rw[vh hn.1,TM n hn.1 hn.2]at h;exact h.mono fun e w' ⟨he,hw⟩=>⟨_,he,.one (.str _) rfl,by rw[hw];exact Below.refl _ w⟩
theorem xB:∀{rows:List Row} {l:List (List UInt8)},qJ rows=some l->rows=l.map fun s=>[.str (bs s)]
 |[],l,h=>by cases h;rfl
 |[]::_,l,h=>by cases h
 |(_::_::_)::_,l,h=>by simp[qJ]at h
 |[m]::r,l,h=>by
  cases m<;>first|(cases h;done)|skip
  rename_i s;simp only[qJ]at h;obtain⟨t,ht,e⟩:=ww.1 h;cases e;rw[vi,<-xB ht,abY]
theorem H2:∀(l:List (List UInt8)),([]:List UInt8).intercalate l=l.flatten:=by
 intro l;unfold List.intercalate;induction l with
 |nil=>rfl
 |cons a t ih=>
  cases t with
  |nil=>rfl
  |cons b t=>simp only[List.intersperse,List.flatten_cons,qc]at ih⊢;rw[ih]
theorem abR{P:Program}{F:FuncId}(enter:∀v u w,(callFunc F #[v,u]).run P w=.ok (.enter F #[v,u]) w)
 (hc:∀(bk o c:Nat) (xs:List ByteArray) (sep:ByteArray) (w:World),(∀(j:Nat) x,xs[j]?=some x->w.cell? ⟨bk,o+j,none⟩=some (.string x))->bk<w.heap.size->xs.length<=140737488355328->xs.length<=c->(Lib.join (xs.map (·.data.toList)) sep.data.toList).length<=140737488355328->
  Calls P F #[.slice (some ⟨bk,o,none⟩) xs.length c,.string sep] w fun e w'=>e=.returned (.string ⟨(Lib.join (xs.map (·.data.toList)) sep.data.toList).toArray⟩)/\Below w.heap.size w w'):
 dB P fun f' args imps=>if f'=F then(xL args).map fun m=>(m,imps)else none:=by
 refine KC (q:=xL) (fun args m h=>?_) fun args m h vals w prot hp hv=>?_
 ·unfold xL at h;split at h
  ·rfl
  ·cases h
 unfold xL at h;split at h
 case h_2=>cases h
 rename_i rows sep;obtain⟨l,hl,h⟩:=ww.1 h;split at h
 case isFalse=>cases h
 rename_i hh;obtain⟨hsep,hlen,htot,hpos⟩:=hh;cases h;obtain⟨v,u,e,hsv,hsu⟩:=abP hv;subst e;cases hsu;refine f5 (enter _ _ w) ?_;have hrows:=xB hl;cases hsv with
 | @sl a n c _ sz vf hn hcap hrow had hsv=>
   have hnl:l.length=n:=by rw[<-hn,hrows,kb]
   obtain⟨ad,ea,hsp,hpr,hcell⟩:=had (by omega)
   subst ea;obtain⟨b,off,spot⟩:=ad;simp only at hsp;subst hsp;have hsz:sz=1:=by
    have h0:l[0]?=some (l[0]'hpos):=ji hpos;have h1:rows[0]?=some [.str (bs (l[0]'hpos))]:=by rw[hrows,jq,h0];rfl
    exact(hrow 0 _ h1).symm
   subst hsz;have h:=hc b off c (l.map bs) sep w (fun j x hj=>?_) (hp _ hpr) (by simp;omega) (by simp;omega) ?_
   ·rw[kb,hnl]at h;refine h.mono fun e w' ⟨he,hB⟩=>⟨_,he,.one ?_ rfl,hB⟩
    have e1:(l.map bs).map (·.data.toList)=l:=by rw[List.map_map];exact(wx (fun _ _=>rfl)).trans (List.map_id l)
    rw[e1,hsep];unfold Lib.join;rw[H2];exact .str _
   ·rw[jq]at hj;obtain⟨s,hs,e⟩:=kj.1 hj;subst e;have h1:rows[j]?=some [.str (bs s)]:=by rw[hrows,jq,hs];rfl
    have h2:=hcell j _ 0 _ h1 rfl;have h3:=hsv j _ 0 _ h1 rfl;rw[Nat.mul_one,wc]at h2;rw[h2];generalize vf j 0=z at h3;cases h3;rfl
   ·have e1:(l.map bs).map (·.data.toList)=l:=by rw[List.map_map];exact(wx (fun _ _=>rfl)).trans (List.map_id l)
    rw[e1,hsep];unfold Lib.join;rw[H2];omega
end Kw
namespace Kw
open Go Go.RowKit Go.Proofs Go.Shelf Go.Joins
set_option maxRecDepth 100000
section
variable [Gl]
theorem ajM:dB Tryz.prog fun f' args imps=>if f'=125 then(xK args).map fun m=>(m,imps)else none:=
 @abQ _ _ 125 (fun v w=>dA (c:=(match Tryz.f125.body with|some c=>c|none=>.skip)) Tryz.func125 (by kernel_rfl) (by kernel_rfl) _ _) fun i hi w=>Any.strconv_Itoa_small Tryz.lays171 i hi w
theorem AR(s:ByteArray)(w:World):(callFunc 146 #[.string s]).run Tryz.prog w=.ok (.enter 146 #[.string s]) w:=
 dA (c:=(match Tryz.f146.body with|some c=>c|none=>.skip)) Tryz.func146 (by kernel_rfl) (by kernel_rfl) _ _
end
def af5 [Gl]:Prop:=Gl.glr 1=some (.iface false)/\Gl.glr 2=some (.iface false)
theorem M9 [Gl]{prot:Nat->Prop}{w:World}(h:sI prot w){v:Nat}(e:Gl.glr v=some (.iface false)):∃t x,w.cell? ⟨v,0,none⟩=some (.iface t x):=by
 obtain⟨_,x,hx,hs⟩:=h v _ e;cases hs;exact⟨_,_,hx⟩
theorem ajN [Gl](hE:af5):dB Tryz.prog fun f' args imps=>if f'=146 then(BL args).map fun m=>(m,imps)else none:=by
 refine R4 (q:=BL) (fun args m h=>?_) fun args m h vals w prot hp hg hv=>?_
 ·unfold BL at h;split at h
  ·rfl
  ·cases h
 ·unfold BL at h;split at h
  case h_2=>cases h
  rename_i s;split at h
  case isFalse=>cases h
  rename_i hs;obtain⟨v,e,hsv⟩:=JM hv;subst e;cases hsv;obtain⟨t1,x1,c1⟩:=M9 hg hE.1;obtain⟨t2,x2,c2⟩:=M9 hg hE.2;cases hn:Lib.atoiAll s.data.toList with
  |ok n=>
   rw[hn]at h;cases h;refine f5 (AR s w) ((Any.strconv_Atoi_ok Tryz.laysC172 s (by omega) n hn w).mono fun e w' ⟨he,ht⟩=>⟨_,he,?_,?_⟩)
   ·exact .tup (.cons (.int _ _) (.cons .ifN .nil))
   ·rcases ht with rfl|⟨t,rfl⟩
    ·exact Below.refl _ _
    ·exact Lib.bytesWorld_below _ _ _
  |range=>
   rw[hn]at h;cases h;refine f5 (AR s w) ((Any.strconv_Atoi_range Tryz.laysC172 s (by omega) hn _ w c2 (.inr ⟨_,_,rfl⟩)).mono fun e w' ⟨N,he,_,_,hB⟩=>⟨_,he,?_,hB⟩)
   exact .tup (.cons (.int _ _) (.cons (.ifS _ _) .nil))
  |_=>
   rw[hn]at h;cases h;refine f5 (AR s w) ((Any.strconv_Atoi_syntax Tryz.laysC172 s (by omega) hn _ w c1 (.inr ⟨_,_,rfl⟩)).mono fun e w' ⟨N,he,_,_,hB⟩=>⟨_,he,?_,hB⟩)
   exact .tup (.cons (.int _ _) (.cons (.ifS _ _) .nil))
section
variable [Gl]
theorem acN(s c:ByteArray)(w:World):(callFunc 149 #[.string s,.string c]).run Tryz.prog w=.ok (.enter 149 #[.string s,.string c]) w:=
 dA (c:=(match Tryz.f149.body with|some c=>c|none=>.skip)) Tryz.func149 (by kernel_rfl) (by kernel_rfl) _ _
theorem af6:dB Tryz.prog fun f' args imps=>if f'=149 then(wI args).map fun m=>(m,imps)else none:=by
 refine KC (q:=wI) (fun args m h=>?_) fun args m h vals w prot hp hv=>?_
 ·unfold wI at h;split at h
  ·rfl
  ·cases h
 ·unfold wI at h;split at h
  case h_2=>cases h
  rename_i s c;split at h
  case h_2=>cases h
  rename_i b hb;cases h;have hc:c=⟨#[b]⟩:=by
   obtain⟨⟨l⟩⟩:=c;have:l=[b]:=hb;subst this;rfl
  subst hc;have hv':vals= #[.string s,.string ⟨#[b]⟩]:=by
   obtain⟨l⟩:=vals;change Rl _ l _ at hv;cases hv with
   |cons h1 h2=>cases h2 with|cons h2 h3=>cases h3;cases h1;cases h2;rfl
  subst hv';refine f5 (acN s _ w) ((Tryz.strings_Count_one s b w).mono fun e w' ⟨he,hw⟩=>⟨_,he,.one ?_ rfl,by rw[hw];exact Below.refl _ w⟩)
  have e:Lib.countByte s.data.toList b=s.data.toList.count b:=by
   first|rfl|simp[Lib.countByte,List.count]|(unfold Lib.countByte;rfl)
  rw[e];exact .int _ _
theorem UO:dB Tryz.prog fun f' args imps=>if f'=177 then(BK args).map fun m=>(m,imps)else none:=
 @Q4 _ _ 177 (fun v w=>dA (c:=(match Tryz.f177.body with|some c=>c|none=>.skip)) Tryz.func177 (by kernel_rfl) (by kernel_rfl) _ _) NB I3
theorem Y4:dB Tryz.prog fun f' args imps=>if f'=88 then(BK args).map fun m=>(m,imps)else none:=
 @Q4 _ _ 88 (fun v w=>dA (c:=(match Tryz.f88.body with|some c=>c|none=>.skip)) Tryz.func88 (by kernel_rfl) (by kernel_rfl) _ _) SB NA
theorem ajO:dB Tryz.prog fun f' args imps=>if f'=209 then(xL args).map fun m=>(m,imps)else none:=
 @abR _ _ 209 (fun v u w=>dA (c:=(match Tryz.f209.body with|some c=>c|none=>.skip)) Tryz.func209 (by kernel_rfl) (by kernel_rfl) _ _) Tryz.strings_Join
end
end Kw
namespace Kw
open Go Go.RowKit
variable [Gl]
def ow(arr:Array Value):Nat->List Value->Array Value
 |_,[]=>arr
 |o,v::r=>ow (arr.setIfInBounds o v) (o+1) r
theorem qF:∀(vs:List Value) (arr:Array Value) (o:Nat),(ow arr o vs).size=arr.size
 |[],_,_=>rfl
 |v::r,arr,o=>by rw[ow,qF r];simp
theorem wC:∀(vs:List Value) (arr:Array Value) (o k:Nat),k<o\/o+vs.length<=k->(ow arr o vs)[k]?=arr[k]?
 |[],_,_,_,_=>rfl
 |v::r,arr,o,k,h=>by
  rw[ow,wC r _ _ _ (by simp at h;omega)]
  exact Array.getElem?_setIfInBounds_ne (by simp at h;omega)
theorem LM:∀(vs:List Value) (arr:Array Value) (o k:Nat),k<vs.length->o+vs.length<=arr.size->(ow arr o vs)[o+k]?=vs[k]?
 |[],_,_,_,h,_=>by simp at h
 |v::r,arr,o,k,h,hs=>by
  simp only[je]at h hs;cases k with
  |zero=>
   rw[ow,wC r _ _ _ (by omega)]
   rw[wc,Array.getElem?_setIfInBounds_self_of_lt (by omega)]
   rfl
  |succ k=>
   rw[ow,show o+(k+1)=o+1+k by omega,LM r _ _ k (by omega) (by simp;omega)]
   rfl
theorem fD{b:Nat}{ty:TypeId}{fz:Nat×Nat}:∀(vs:List Value) (o:Nat) (w:World) (arr:Array Value),w.heap[b]?=some (.cells arr ty fz)->(w.setCells b o vs).heap[b]?=some (.cells (ow arr o vs) ty fz)
 |[],_,_,_,h=>h
 |v::r,o,w,arr,h=>by
  rw[World.setCells,ow];refine fD r (o+1) _ _ ?_;unfold World.setCell;simp[Array.getElem?_modify,h]
theorem gT{b:Nat}:∀(vs:List Value) (o:Nat) (w:World),(w.setCells b o vs).heap.size=w.heap.size
 |[],_,_=>rfl
 |v::r,o,w=>by rw[World.setCells,gT r];unfold World.setCell;simp
theorem kQ{b i:Nat}(hne:i≠b):∀(vs:List Value) (o:Nat) (w:World),(w.setCells b o vs).heap[i]?=w.heap[i]?
 |[],_,_=>rfl
 |v::r,o,w=>by rw[World.setCells,kQ hne r];unfold World.setCell;simp[Array.getElem?_modify,Ne.symm hne]
theorem oO{b:Nat}:∀(vs:List Value) (o:Nat) (w:World),(w.setCells b o vs).os=w.os/\(w.setCells b o vs).tape=w.tape/\(w.setCells b o vs).output=w.output
 |[],_,_=>⟨rfl,rfl,rfl⟩
 |v::r,o,w=>by rw[World.setCells];exact oO r (o+1) (w.setCell ⟨b,o,none⟩ v)
theorem qG{w:World}{b o:Nat}{arr:Array Value}{ty:TypeId}{fz:Nat×Nat}(h:w.heap[b]?=some (.cells arr ty fz)):w.cell? ⟨b,o,none⟩=arr[o]?:=by
 simp[World.cell?,h]
theorem uI{w:World}{b o:Nat}{arr:Array Value}{ty:TypeId}(h:w.heap[b]?=some (.cells arr ty (0,0))):w.frozen? ⟨b,o,none⟩=false:=by
 simp[World.frozen?,h]
theorem DP{P:Program}(w:World)(t e ty:TypeId)(z:Value)(ht:P.underlying t=some (.slice e))(hv:∀w,(zeroValue e).run P w=.ok z w)(h1:∀v∈z.cells.toList,v.oneCell'=true)(hz:0<z.cells.size)(b o n c:Nat)(hn:0<n)
 (hc:∀j,j<n*z.cells.size->(w.cell? ⟨b,o+j,none⟩).isSome=true) (hf:∀j,j<n*z.cells.size->w.frozen? ⟨b,o+j,none⟩=false):
 (Builtin.clear_ #[t] ty #[.slice (some ⟨b,o,none⟩) n c]).run P w=.ok (.tuple #[]) (w.setCells b o (Builtin.zeroCells z.cells n).toList):=by
 have hl:(Builtin.zeroCells z.cells n).toList.length=n*z.cells.size:=by simp[Builtin.zeroCells]
 have hst:=run_storeCells_cells (P:=P) b o (Builtin.zeroCells z.cells n).toList 0 w (by rw[hl];simpa using hc) (by rw[hl];simpa using hf) (by
  intro v hv';simp only[Builtin.zeroCells,Array.toList_map,qb]at hv';obtain⟨i,_,e⟩:=hv';have hlt:i%z.cells.size<z.cells.size:=Nat.mod_lt _ hz;rw[getElem!_pos z.cells (i%z.cells.size) hlt]at e;rw[<-e];exact h1 _ (by simp))
 simp only[wc]at hst;obtain⟨m,rfl⟩:∃m,n=m+1:=⟨n-1,by omega⟩
 simp[Builtin.clear_,run_underlying ht,hv,hst]
theorem ae8{P:Program}{F:FuncId}(enter:∀v u x w,(callFunc F #[v,u,x]).run P w=.ok (.enter F #[v,u,x]) w)
 (hs:∀(b n cap i j:Nat) (arr:Array Value) (ty:TypeId) (w:World),w.heap[b]?=some (.cells arr ty (0,0))->n<=cap->i<j->j<=n->cap*4<=arr.size->(∀(k:Nat) (u:Value),k<n*4->arr[k]?=some u->u.oneCell'=true)->
  Calls P F #[.slice (some ⟨b,0,none⟩) n cap,.int .i64 i,.int .i64 j] w fun e w'=>e=.returned (.slice (some ⟨b,0,none⟩) (i+(n-j)) cap)/\
   ∃zl,w'=(w.drew.setCells b (i*4) ((arr.toList.drop (j*4)).take ((n-j)*4))).setCells b ((i+(n-j))*4) zl):
 dB P fun f' args imps=>if f'=F then(OZ args).map fun m=>(m,imps)else none:=by
 intro f' args imps res vals w gs prot fa fo h p;simp only at h;split at h
 case isFalse=>simp at h
 rename_i ef;subst ef;obtain⟨m,hm,e⟩:=kj.1 h;subst e;unfold OZ at hm;split at hm
 case h_2=>cases hm
 rename_i rows i0 j0;split at hm
 case isFalse=>cases hm
 rename_i hok;cases hm;rw[jf,ja]at hok;obtain⟨hok,hi0,hij,hj⟩:=hok;obtain⟨i,rfl⟩:=kv hi0;obtain⟨j,rfl⟩:=kv (show 0<=j0 by omega)
 obtain⟨vl⟩:=vals;have pvs:=p.vs;change BVs _ _ w vl _ fa at pvs;cases pvs with
 | @cons v _ f1 vs _ fs h1 ht=>
   obtain⟨efs,hv⟩:=ht.im rfl;subst efs;cases hv with
   |cons h2 h3=>
    cases h3 with
    |cons h3 h4=>
     cases h4;cases h2;cases h3;cases h1 with
     |one h1=>
      cases h1 with
      |rv h=>cases h;rename_i h;cases h
      |ownK0=>simp at hj;omega
      | @ownK b cap sz arr ty _ hh hn hroom hl hr=>
        have hlen:∀(i:Nat) (row:Row),rows[i]?=some row->row.length=4:=fun i row hi=>xI.1 hok _ (qd hi)
        have hsz:sz=4:=by
         have h0:rows[0]?=some (rows[0]'(by omega)):=ji (by omega)
         rw[<-(hr 0 _ h0).1,hlen 0 _ h0]
        subst hsz;have hijn:i<j:=by omega
        have hjn:j<=rows.length:=by omega
        have hone:∀(k:Nat) (u:Value),k<rows.length*4->arr[k]?=some u->u.oneCell'=true:=fun k u hk hu=>by
         have hq:k/4<rows.length:=by omega
         have h0:rows[k/4]?=some (rows[k/4]'hq):=ji hq;have hl4:=hlen _ _ h0;obtain⟨x,hx,hsx⟩:=(hr _ _ h0).2 (k%4) _ (ji (by omega))
         rw[show k/4*4+k%4=k by omega,hu]at hx
         cases hx;exact Q5 hsx
        refine f5 (enter _ _ _ w) ((hs b rows.length cap i j arr ty w hh hl hijn hjn hroom.1 hone).mono fun e w' ⟨he,zl,hw⟩=>⟨_,he,?_⟩)
        have hnews:((arr.toList.drop (j*4)).take ((rows.length-j)*4)).length=(rows.length-j)*4:=by have:=hroom.1;simp;omega
        generalize hnw:(arr.toList.drop (j*4)).take ((rows.length-j)*4)=news at hw hnews;have hh':w'.heap[b]?=some (.cells (ow (ow arr (i*4) news) ((i+(rows.length-j))*4) zl) ty (0,0)):=by
         rw[hw];exact fD _ _ _ _ (fD _ _ _ _ hh)
        have hoth:∀x,x≠b->w'.heap[x]?=w.heap[x]?:=fun x hx=>by
         rw[hw,kQ hx,kQ hx];rfl
        have hsize:w'.heap.size=w.heap.size:=by rw[hw,gT,gT];rfl
        have hrest:w'.os=w.os/\w'.tape=w.tape/\w'.output=w.output:=by
         rw[hw];obtain⟨a1,a2,a3⟩:=oO zl ((i+(rows.length-j))*4) (b:=b) (w.drew.setCells b (i*4) news);obtain⟨b1,b2,b3⟩:=oO news (i*4) (b:=b) w.drew;exact⟨a1.trans b1,a2.trans b2,a3.trans b3⟩
        have hpb:∀x,prot x->w'.heap[x]?=w.heap[x]?:=fun x hx=>hoth x fun e=>hn (by rw[<-e];exact hx)
        have hnl:(rows.take i++rows.drop j).length=i+(rows.length-j):=by simp;omega
        have hnb:b∉fo++blks gs:=fun hm=>by
         have:=p.nod;simp at this;simp at hm;exact hm.elim this.1.1 this.1.2
        have L:Later (gB gs prot) (gB gs prot) (cuB imps) (cuB imps) w w':=
         ⟨fun _ _ e=>.inl e,fun _ _ _ _ e=>.inr ⟨ju _,.inl e⟩,fun _ e=>.inr ⟨ju _,.inl e⟩,fun _ e=>e,fun _ h=>h,hpb⟩
        have hget:∀(q k:Nat),q<i+(rows.length-j)->k<4->(ow (ow arr (i*4) news) ((i+(rows.length-j))*4) zl)[q*4+k]?=arr[(if q<i then q else q-i+j)*4+k]?:=fun q k hq hk=>by
         rw[wC _ _ _ _ (.inl (by omega))]
         by_cases hqi:q<i
         ·rw[jd hqi,wC _ _ _ _ (.inl (by omega))]
         ·rw[jb hqi,show q*4+k=i*4+((q-i)*4+k) by omega,LM _ _ _ _ (by rw[hnews];omega) (by have:=hroom.1;rw[hnews];omega),<-hnw,qm (by omega),v5,qe]
          congr 1;omega
        have hrow:∀(q:Nat) (row:Row),(rows.take i++rows.drop j)[q]?=some row->q<i+(rows.length-j)/\rows[if q<i then q else q-i+j]?=some row:=fun q row hq=>by
         have hlt:=(jl.1 hq).1;rw[hnl]at hlt;refine⟨hlt,?_⟩;by_cases hqi:q<i
         ·rw[jd hqi,<-hq,vb (by simp;omega),qm hqi]
         ·rw[jb hqi,<-hq,vw (by simp;omega),v5]
          congr 1;simp;omega
        refine⟨[],prot,[b],fo,?_,?_,?_,?_,fun x hx=>by rw[hsize];exact p.plt x hx,?_⟩
        ·rw[jz,<-hnl];refine .one (.one (.ownK hh' hn ⟨by rw[qF,qF];exact hroom.1,fun _=>.inr ⟨rfl,rfl⟩⟩ (by rw[hnl];omega) fun q row hq=>?_)) (fun ms e=>by cases e)
         obtain⟨hq1,hq2⟩:=hrow q row hq;refine⟨hlen _ _ hq2,fun k mk hk=>?_⟩
         obtain⟨x,hx,hsx⟩:=(hr _ _ hq2).2 k mk hk;have hk4:k<4:=by have:=(jl.1 hk).1;rw[hlen _ _ hq2]at this;exact this
         exact⟨x,(hget q k hq1 hk4).trans hx,hsx.mono (fun _ h=>h) hpb⟩
        ·rw[jz];exact p.os.mono L (fun x hx=>⟨hoth x fun e=>hnb (by simp[<-e,hx]),p.os.np x hx⟩) fun y hy x e=>⟨hoth x fun e'=>hnb (by rw[<-e'];exact jn _ (eZ.2 ⟨y,hy,e⟩)),id⟩
        ·rw[jz];simpa using p.nod
        ·rw[jz,hsize];simpa using p.lt
        ·rw[jz];refine⟨hrest.1,hrest.2.1,hrest.2.2,Nat.le_of_eq hsize.symm,fun x _ hx=>hoth x fun e=>hx (by simp[e]),fun x hx=>.inr (by simpa using hx),fun _ h=>h,fun _ h=>.inl h⟩
end Kw
namespace Kw
open Go Go.RowKit Go.Proofs Go.Shelf
variable [Gl]
set_option maxHeartbeats 4000000 in
set_option maxRecDepth 1000000 in
theorem acO(z:Value)(i0:TypeInfo)(hi0:Tryz.prog.info? 81=some i0)(hz0:i0.size=4)(hv:∀w,(zeroValue 81).run Tryz.prog w=.ok z w)(hz:z.cells.size=4)(hz1:∀v∈z.cells.toList,v.oneCell'=true)
 (b n cap i j:Nat) (arr:Array Value) (ty:TypeId) (w:World) (hh:w.heap[b]?=some (.cells arr ty (0,0))) (hcap:n<=cap) (hij:i<j) (hj:j<=n) (hsz:cap*4<=arr.size)
 (h1:∀(k:Nat) (u:Value),k<n*4->arr[k]?=some u->u.oneCell'=true):
 Calls Tryz.prog 203 #[.slice (some ⟨b,0,none⟩) n cap,.int .i64 i,.int .i64 j] w fun e w'=>e=.returned (.slice (some ⟨b,0,none⟩) (i+(n-j)) cap)/\
  w'=(w.drew.setCells b (i*4) ((arr.toList.drop (j*4)).take ((n-j)*4))).setCells b ((i+(n-j))*4) (Builtin.zeroCells z.cells (n-(i+(n-j)))).toList:=by
 obtain⟨news,hnews⟩:∃news,news=(arr.toList.drop (j*4)).take ((n-j)*4):=⟨_,rfl⟩;have hlen:news.length=(n-j)*4:=by rw[hnews];simp;omega
 have hget:∀t,t< (n-j)*4->news[t]?=arr[j*4+t]?:=by
  intro t ht;rw[hnews,qm ht,v5,qe]
 have hd:w.drew.heap[b]?=some (.cells arr ty (0,0)):=hh;obtain⟨A,hA,hsrc⟩:∃A:Addr,(if cap=j then some (⟨b,0,none⟩:Addr)else some ⟨b,j*4,none⟩)=some A/\Hid (∀t u,news[t]?=some u->w.drew.cell? (A.add t)=some u):=by
  by_cases h:cap=j
  ·refine⟨⟨b,0,none⟩,by simp[h],fun t u hu=>?_⟩
   have h0:news.length=0:=by rw[hlen];omega
   rw[vt.1 h0]at hu;simp at hu
  ·refine⟨⟨b,j*4,none⟩,by simp[h],fun t u hu=>?_⟩
   have ht:t< (n-j)*4:=by
    have:=(jl.1 hu).1
    rwa [hlen]at this
   rw[hget t ht]at hu;rw[Addr.add_lit,qG hd];exact hu
 have s1:Hid (news.length=(n-j)*4):=hlen;have s2:Hid (∀u∈news,u.oneCell'=true):=by
  intro u hu;obtain⟨t,ht,e⟩:=List.getElem_of_mem hu;have ht':t< (n-j)*4:=by rw[<-hlen];exact ht
  have h2:=hget t ht';rw[ji ht,e]at h2;exact h1 _ _ (by omega) h2.symm
 have s3:Hid (∀t,t<news.length->(w.drew.cell? ⟨b,i*4+t,none⟩).isSome=true/\w.drew.frozen? ⟨b,i*4+t,none⟩=false):=by
  intro t ht;rw[hlen]at ht;rw[qG hd,uI hd];refine⟨?_,rfl⟩;rw[ka (by omega)];rfl
 obtain⟨W1,hW1⟩:∃W1,W1=w.drew.setCells b (i*4) news:=⟨_,rfl⟩;have hH1:W1.heap[b]?=some (.cells (ow arr (i*4) news) ty (0,0)):=by rw[hW1];exact fD _ _ _ _ hd
 obtain⟨zl,hzl⟩:∃zl,zl=(Builtin.zeroCells z.cells (n-(i+(n-j)))).toList:=⟨_,rfl⟩;have hcl:∀ty,(Builtin.clear_ #[27] ty #[.slice (some ⟨b,(i+(n-j))*4,none⟩) (n-(i+(n-j))) (cap-(i+(n-j)))]).run Tryz.prog W1=.ok (.tuple #[]) (W1.setCells b ((i+(n-j))*4) zl):=
  fun ty=>hzl▸DP W1 _ 81 ty z Tryz.underlying27 hv hz1 (by omega) b ((i+(n-j))*4) _ _ (by omega) (fun t ht=>by
   rw[hz]at ht;rw[qG hH1,ka (by rw[qF];omega)];rfl) (fun t ht=>uI hH1)
 have hW:Hid (W1=w.drew.setCells b (i*4) news):=hW1;have X0:W1=w.drew.setCells b (i*4) ((arr.toList.drop (j*4)).take ((n-j)*4)):=by rw[hW1,hnews]
 have X:Aside (W1=w.drew.setCells b (i*4) ((arr.toList.drop (j*4)).take ((n-j)*4))):=X0;clear X0;have Y:Aside (zl=(Builtin.zeroCells z.cells (n-(i+(n-j)))).toList):=hzl;clear hzl;have hic:i<=cap:=by omega
 have hjc:j<=cap:=by omega
 have hjn:j<=n:=hj;clear hv hz hz1 hW1 hH1 hget hlen hh hd h1 hnews hsz;have mixed:Tryz.prog.follows Departure.mixedOrders=true:=by kernel_rfl
 go_enter Tryz.func203,Tryz.ntmps203
 go_wp2_with fail
 go_region_law_o (refine step_append_room rfl (.tmp 22) (.tmp 25) 27 rfl 81 i0 4 Tryz.underlying27 hi0 hz0 b 0 i cap (by simp[Act.eval,Act.put]) A (n-j) (cap-j) news (by simp[Act.eval,Act.put]) s1.out hsrc.out s2.out (by omega) (by rw[qr];exact s3.out) ?_;rw[qr,<-hW.out])
 go_wp2
 go_ret
 exact⟨rfl,by rw[X.out,Y.out]⟩
theorem acP(v u x:Value)(w:World):(callFunc 203 #[v,u,x]).run Tryz.prog w=.ok (.enter 203 #[v,u,x]) w:=
 dA (c:=(match Tryz.f203.body with|some c=>c|none=>.skip)) Tryz.func203 (by kernel_rfl) (by kernel_rfl) _ _
set_option maxRecDepth 100000 in
theorem am5:dB Tryz.prog fun f' args imps=>if f'=203 then(OZ args).map fun m=>(m,imps)else none:=by
 have hk:okT Tryz.prog 81=true:=by kernel_rfl
 have ht:tsize Tryz.prog 81=4:=by kernel_rfl
 have ho:(lI Tryz.prog 81).all (·.oneCell')=true:=by kernel_rfl
 obtain⟨i0,z,hi,hz,hcz,hzs⟩:=hJ hk;have h1:i0.size=4:=by
  have h:tsize Tryz.prog 81=i0.size:=by unfold tsize;rw[hi]
  exact h.symm.trans ht
 refine @ae8 _ _ _ acP fun b n cap i j arr ty w hh hcap hij hj hsz hone=>?_
 refine(acO z i0 hi h1 (fun w=>?_) (hzs.trans ht) (fun v hv=>?_) b n cap i j arr ty w hh hcap hij hj hsz hone).mono fun e w' ⟨he,hw⟩=>⟨he,_,hw⟩
 ·simp[zeroValue,typeInfo,hi,hz]
 ·rw[hcz]at hv;exact ko.1 ho v hv
end Kw
namespace Go.Proofs
open Go.Shelf
def Tryz.laysNm221_ren:Go.Shelf.Ren:=⟨fun|21=>244|27=>281|28=>282|35=>298|39=>308|n=>n,fun|22=>29|3=>3|4=>4|0=>0|n=>n,fun|n=>n⟩
theorem Tryz.laysNm221:Go.Proofs.Lays2.n21 Tryz.prog Tryz.laysNm221_ren:={
 mixed:=by kernel_rfl
 f21:=Tryz.func244.trans (congrArg some (by kernel_rfl))
 f27:=Tryz.func281.trans (congrArg some (by kernel_rfl))
 f28:=Tryz.func282.trans (congrArg some (by kernel_rfl))
 f35:=Tryz.func298.trans (congrArg some (by kernel_rfl))
 f39:=Tryz.func308.trans (congrArg some (by kernel_rfl))
 t0:=Tryz.underlying0
 a0:=Tryz.isAgg0
 z0:=Tryz.sizeOf0
 v0:=Tryz.zeroValue0
 t3:=Tryz.underlying3
 a3:=Tryz.isAgg3
 z3:=Tryz.sizeOf3
 v3:=Tryz.zeroValue3
 t4:=Tryz.underlying4
 a4:=Tryz.isAgg4
 z4:=Tryz.sizeOf4
 v4:=Tryz.zeroValue4
 t22:=Tryz.underlying29
 a22:=Tryz.isAgg29
 z22:=Tryz.sizeOf29
 v22:=Tryz.zeroValue29
 i3:=by kernel_rfl}
def Tryz.laysDF_ren:Go.Shelf.Ren:=⟨fun|10=>245|6=>133|n=>n,fun|22=>29|23=>3|25=>66|3=>3|4=>4|0=>0|n=>n,fun|n=>n⟩
theorem Tryz.laysDF:Go.Proofs.SlLaysH.n10 Tryz.prog Tryz.laysDF_ren:={
 mixed:=by kernel_rfl
 f6:=⟨Tryz.f133.name,by decide,Tryz.func133.trans (congrArg some (by kernel_rfl))⟩
 f10:=⟨Tryz.f245.name,by decide,Tryz.func245.trans (congrArg some (by kernel_rfl))⟩
 t0:=Tryz.underlying0
 a0:=Tryz.isAgg0
 z0:=Tryz.sizeOf0
 v0:=Tryz.zeroValue0
 t3:=Tryz.underlying3
 a3:=Tryz.isAgg3
 z3:=Tryz.sizeOf3
 v3:=Tryz.zeroValue3
 t4:=Tryz.underlying4
 a4:=Tryz.isAgg4
 z4:=Tryz.sizeOf4
 v4:=Tryz.zeroValue4
 t22:=Tryz.underlying29
 a22:=Tryz.isAgg29
 z22:=Tryz.sizeOf29
 v22:=Tryz.zeroValue29
 a23:=Tryz.isAgg3
 z23:=Tryz.sizeOf3
 t25:=Tryz.underlying66
 a25:=Tryz.isAgg66
 z25:=Tryz.sizeOf66
 v25:=Tryz.zeroValue66}
def Tryz.laysCo_ren:Go.Shelf.Ren:=⟨fun|31=>199|29=>242|n=>n,fun|22=>29|23=>3|4=>4|3=>3|0=>0|n=>n,fun|n=>n⟩
theorem Tryz.laysCo:Go.Proofs.SlLaysE.n31 Tryz.prog Tryz.laysCo_ren:={
 mixed:=by kernel_rfl
 f29:=⟨Tryz.f242.name,by decide,Tryz.func242.trans (congrArg some (by kernel_rfl))⟩
 f31:=⟨Tryz.f199.name,by decide,Tryz.func199.trans (congrArg some (by kernel_rfl))⟩
 t0:=Tryz.underlying0
 a0:=Tryz.isAgg0
 z0:=Tryz.sizeOf0
 v0:=Tryz.zeroValue0
 t3:=Tryz.underlying3
 a3:=Tryz.isAgg3
 z3:=Tryz.sizeOf3
 v3:=Tryz.zeroValue3
 t4:=Tryz.underlying4
 a4:=Tryz.isAgg4
 z4:=Tryz.sizeOf4
 v4:=Tryz.zeroValue4
 t22:=Tryz.underlying29
 a22:=Tryz.isAgg29
 z22:=Tryz.sizeOf29
 v22:=Tryz.zeroValue29
 a23:=Tryz.isAgg3
 z23:=Tryz.sizeOf3}
end Go.Proofs
namespace Kw
open Go Go.RowKit Go.Proofs Go.Shelf
abbrev vI:Int->Value:=Value.int .i64
theorem vI_one(l:List Int):∀u∈l.map vI,u.oneCell'=true:=fun u hu=>by
 obtain⟨x,_,rfl⟩:=qb.1 hu;rfl
variable [Gl]
theorem zQ(b off n c:Nat)(l:List Int)(w:World)(hl:l.length=n)(hn:0<n)(hb:n<=100000)(hc:∀j v,(l.map vI)[j]?=some v->w.cell? ⟨b,off+j,none⟩=some v):
 Calls Tryz.prog 108 #[.slice (some ⟨b,off,none⟩) n c] w fun e w'=>∃g cur,e=.returned (.slice (some ⟨g,0,none⟩) n n)/\w.heap.size<=g/\w'.heap[g]?=some (.cells cur 3 (0,0))/\n*1<=cur.size/\cur.toList.take (n*1)=l.map vI/\Below w.heap.size w w':=by
 have hk:okT Tryz.prog 3=true:=by kernel_rfl
 have ht:tsize Tryz.prog 3=1:=by kernel_rfl
 have hbb:Nat.ble (fM Tryz.prog 3) 1024=true:=by kernel_rfl
 obtain⟨i0,z,hi,hz,_,hzs⟩:=hJ hk;have h1:i0.size=1:=by rw[<-ht];unfold tsize;rw[hi]
 have h2:i0.bytes<=1024:=by
  have:=Nat.le_of_ble_eq_true hbb;unfold fM at this;rw[hi]at this;exact this
 have hnb:n*i0.bytes<=140737488355328:=ku (Nat.mul_le_mul_left n h2) (by omega)
 exact FM _ n c (l.map vI) w (AnyE.slices_Clone KN i0 z 1 i0.bytes hi hz h1 rfl (by rw[hzs,ht]) (by decide) Tryz.sizeOf3 b off n c (l.map vI) w (by simp;omega) (by unfold maxLen;omega) hnb hc (vI_one l))
theorem ai3(b off n c:Nat)(l:List Int)(x:Int)(V:World)(hl:l.length=n)(hn:n<=1000)(hc:∀j v,(l.map vI)[j]?=some v->V.cell? ⟨b,off+j,none⟩=some v):
 Calls Tryz.prog 199 #[.slice (some ⟨b,off,none⟩) n c,.int .i64 x] V fun e w'=>e=.returned (.bool (l.any fun y=>x==y))/\w'=V:=by
 have h:=AnyE.slices_Contains Tryz.laysCo vI (fun x y=>x==y) (EqlAt.int _ _ _) b off n c l x V (by omega) (by omega) (fun j hj=>hc j _ (by rw[jq,ji hj,getElem!_pos l j hj];rfl))
 rw[List.take_of_length_le (by omega)]at h
 exact h
theorem mP{B b:Nat}{a:World}(hb:B<=b):∀(vs:List Value) (o:Nat) {w:World},Below B a w->Below B a (w.setCells b o vs)
 |[],_,_,h=>h
 |v::r,o,w,h=>by
  rw[World.setCells];exact mP hb r (o+1) (h.setCell (p:=⟨b,o,none⟩) hb v)
theorem Z6(cs:List Value)(x:Value)(i:Nat)(hi:i<cs.length)(R:Array Value)(hR:R.size=cs.length+1\/cs.length+1<=R.size)(h:∀k,k<i->R[k]?=cs[k]?):
 (ow (ow R i [x]) (i+1) (cs.drop i)).toList.take (cs.length+1)=cs.take i++x::cs.drop i:=by
 have hs:cs.length+1<=R.size:=by omega
 have hd:(cs.drop i).length=cs.length-i:=wz;refine List.ext_getElem? fun k=>?_
 rw[ye];by_cases hk:k<cs.length+1
 ·rw[jd hk,qe];by_cases h1:k<i
  ·rw[wC _ _ _ _ (.inl (by omega)),wC _ _ _ _ (.inl h1),h k h1,vb (by rw[ve];omega),qm h1]
  ·by_cases h2:k=i
   ·subst h2;rw[wC _ _ _ _ (.inl (by omega))]
    have:=LM [x] R k 0 (by simp) (by simp;omega)
    rw[wc]at this;rw[this,vw (by rw[ve];omega),ve,show k-min k cs.length=0 by omega]
    rfl
   ·have:=LM (cs.drop i) (ow R i [x]) (i+1) (k-(i+1)) (by omega) (by rw[qF];omega)
    rw[show i+1+(k-(i+1))=k by omega]at this
    rw[this,vw (by rw[ve];omega),ve,show k-min i cs.length=(k-(i+1))+1 by omega,List.getElem?_cons_succ]
 ·rw[jb hk,qi (by rw[jk,je,ve];omega)]
theorem SL(k:Nat):(Builtin.zeroCells (Value.int .i64 0).cells k).size=k:=by simp[Builtin.zeroCells,Value.cells]
theorem ai4(g n i q vc:Nat)(l:List Int)(x:Int)(V:World)(hl:l.length=n)(hi:i<=n)(hn:n<=1000)(hn0:0<n)(hcs:∀j v,(l.map vI)[j]?=some v->V.cell? ⟨g,0+j,none⟩=some v)(hx:V.cell? ⟨q,0,none⟩=some (vI x)):
 Calls Tryz.prog 244 #[.slice (some ⟨g,0,none⟩) n n,.int .i64 i,.slice (some ⟨q,0,none⟩) 1 vc] V fun e w'=>∃cap arr,e=.returned (.slice (some ⟨V.heap.size,0,none⟩) (n+1) cap)/\n+1<=cap/\w'.heap[V.heap.size]?=some (.cells arr 3 (0,0))/\
  n+1<=arr.size/\arr.toList.take (n+1)=(l.take i++x::l.drop i).map vI/\V.heap.size<w'.heap.size/\Below V.heap.size V w':=by
 have hvs:∀j v,[vI x][j]?=some v->V.cell? ⟨q,0+j,none⟩=some v:=fun j v h=>by
  cases j with
  |succ j=>simp at h
  |zero=>simp at h;rw[<-h];exact hx
 have hml:(l.map vI).length=n:=by rw[kb];exact hl
 have hmp:(l.take i++x::l.drop i).map vI=(l.map vI).take i++vI x::(l.map vI).drop i:=by
  rw[List.map_append,vi,List.map_take,List.map_drop]
 rw[hmp];by_cases hlt:i<n
 ·refine(Any2.slices_Insert_int_grow Tryz.laysNm221 g 0 n n i q 0 1 vc (l.map vI) [vI x] V hlt (by decide) (kg _) (by omega) (by omega) hml rfl hcs hvs (vI_one l) (vI_one [x])).mono fun e w' ⟨he,hw⟩=>?_
  have hge:=grownCap_ge V (n+1) n (Tryz.laysNm221_ren.t 3);obtain⟨ROW,hROW⟩:∃ROW:Array Value,ROW=(((l.map vI).take i).toArray++Builtin.zeroCells (Value.int .i64 0).cells (n+1-i)++Builtin.zeroCells (Value.int .i64 0).cells (grownCap V (n+1) n (Tryz.laysNm221_ren.t 3)-(n+1))):=⟨_,rfl⟩;rw[<-hROW]at hw;have h0:((V.alloc (.cells ROW (Tryz.laysNm221_ren.t 3))).drew).heap[V.heap.size]?=some (.cells ROW 3 (0,0)):=by
   show(V.heap.push _)[V.heap.size]?=_;rw[Array.getElem?_push_size];rfl
  have h1:=fD [vI x] i _ _ h0;have h2:=fD ((l.map vI).drop i) (i+1) _ _ (show(((V.alloc (.cells ROW (Tryz.laysNm221_ren.t 3))).drew.setCells V.heap.size i [vI x]).drew).heap[V.heap.size]?=_ from h1)
  have hsz:n+1<=ROW.size:=by rw[hROW];simp only[Array.size_append,SL,List.size_toArray,ve];omega
  refine⟨_,ow (ow ROW i [vI x]) (i+1) ((l.map vI).drop i),he,hge,?_,?_,?_,?_,?_⟩
  ·rw[hw];exact h2
  ·rw[qF,qF];exact hsz
  ·have:=Z6 (l.map vI) (vI x) i (by omega) ROW (.inr (by omega)) (fun k hk=>by
    rw[hROW,wl (by simp only[Array.size_append,List.size_toArray,ve];omega),wl (by simp only[List.size_toArray,ve];omega),qn,qm hk])
   rw[hml]at this;exact this
  ·rw[hw,gT];show V.heap.size< ((V.alloc (.cells ROW (Tryz.laysNm221_ren.t 3))).drew.setCells V.heap.size i [vI x]).heap.size;rw[gT];show V.heap.size< (V.heap.push _).size;rw[Array.size_push];omega
  ·rw[hw];exact mP (kg _) _ _ (Below.drew (mP (kg _) _ _ (Below.drew ((Below.refl _ V).alloc (kg _) _))))
 ·obtain rfl:i=n:=by omega
  refine(Any2.slices_Insert_int_end_grow Tryz.laysNm221 (some ⟨g,0,none⟩) i i q 0 1 vc (l.map vI) [vI x] V (by decide) (kg _) (by omega) (by omega) hml rfl (fun h=>by cases h) (fun a ha j v hj=>by cases ha;rw[Addr.add_lit];exact hcs j v hj) hvs (vI_one [x])).mono fun e w' ⟨he,hw⟩=>?_
  have hge:=grownCap_ge V (i+1) i (Tryz.laysNm221_ren.t 3);refine⟨_,_,he,hge,by rw[hw];show(V.heap.push _)[V.heap.size]?=_;rw[Array.getElem?_push_size];rfl,?_,?_,?_,?_⟩
  ·simp only[Array.size_append,SL,List.size_toArray,jk,hml,je,jj];omega
  ·rw[List.take_of_length_le (l:=l.map vI) (by omega),jm (by omega),Array.toList_append,List.toList_toArray,List.take_left' (by simp[hl])]
  ·rw[hw];show V.heap.size< (V.heap.push _).size;rw[Array.size_push];omega
  ·rw[hw];exact(Below.drew (Below.refl _ V)).alloc (kg _) _
theorem SM(M k:Int)(B:Nat)(W:World)(hM: -1000000<=M/\M<=1000000)(hc:W.cell? ⟨B,1,none⟩=some (.int .i64 M)):
 FnGives Tryz.prog 246 #[.pointer (some ⟨B,0,none⟩)] #[.int .i64 k] (.bool (decide (k<=M-8))) W:=by
 show Calls Tryz.prog 246 #[.int .i64 k,.pointer (some ⟨B,0,none⟩)] W _;obtain⟨h0,h1⟩:=hM
 go_enter Tryz.func246,Tryz.ntmps246
 go_wp2
 all_goals (go_ret;exact⟨by simp_all,0,rfl⟩)
theorem ai5(M:Int)(q B m cap:Nat)(r:List Int)(W:World)(hM: -1000000<=M/\M<=1000000)(hB:B<W.heap.size)(hne:B≠q)(hc:W.cell? ⟨B,1,none⟩=some (.int .i64 M))(hm:r.length=m)(hm2:m<=2000)(hcap:m<=cap)
 (hcs:∀j v,(r.map vI)[j]?=some v->W.cell? ⟨q,0+j,none⟩=some v) (hfz:∀j,j<m->W.frozen? ⟨q,0+j,none⟩=false):
 Calls Tryz.prog 245 #[.slice (some ⟨q,0,none⟩) m cap,.func (.func 246) #[] #[.pointer (some ⟨B,0,none⟩)]] W fun e w'=>e=.returned (.slice (some ⟨q,0,none⟩) (r.filter fun k=>!decide (k<=M-8)).length cap)/\
  (∀j v,((r.filter fun k=>!decide (k<=M-8)).map vI)[j]?=some v->w'.cell? ⟨q,0+j,none⟩=some v)/\Below q W w':=by
 have eg:∀args w,(callFunc 246 args).run Tryz.prog w=.ok (.enter 246 args) w:=enters_of Tryz.func246 (by kernel_rfl) rfl
 have hH:Go.Sort.Holds vI W q 0 r.toArray:=fun j hj=>by
  have hj':j<r.length:=by simpa using hj
  refine⟨hcs j _ ?_,hfz j (by omega)⟩
  rw[jq,ji hj'];simp[getElem!_pos,hj']
 have hpa:PredAt Tryz.prog 246 #[.pointer (some ⟨B,0,none⟩)] vI (fun k=>decide (k<=M-8)) W:=fun W' x hb=>SM M x B W' hM ((hb.cell (p:=⟨B,1,none⟩) hB).trans hc)
 have hpo:PredOver Tryz.prog 246 #[.pointer (some ⟨B,0,none⟩)] vI (fun k=>decide (k<=M-8)) q 0 r.toArray.size W:=fun n os dk x _=>SM M x B _ hM (by
  unfold sortWorld;rw[Go.Sort.cell?_grow _ _ _ (by show B< (Go.Sort.putRow _ _ _ _ _).heap.size;rw[Go.Sort.size_putRow];exact hB),Go.Sort.cell?_putRow_other _ _ q 0 _ _ (Or.inl hne)]
  exact hc)
 have h:=AnyE.slices_DeleteFunc Tryz.laysDF vI (fun _=>rfl) (fun k=>decide (k<=M-8)) 246 #[.pointer (some ⟨B,0,none⟩)] eg 0 Tryz.zeroValue3 q 0 cap r.toArray W hpa hpo hH (by simp;omega) (by simp;omega)
 have hsz:r.toArray.size=m:=by simpa using hm
 rw[hsz]at h;refine(show Calls Tryz.prog 245 _ _ _ from h).mono fun e w' ⟨he,qq,hw⟩=>⟨he,?_,?_⟩
 ·have hlen:(r.filter fun k=>!decide (k<=M-8)).length<=m:=by rw[<-hm];exact qz _ _
  have hh:=Go.Sort.holds_putRow vI (Go.Sort.ahead W qq) q 0 r.toArray ((r.filter fun k=>!decide (k<=M-8))++List.replicate (m-(r.filter fun k=>!decide (k<=M-8)).length) 0).toArray hH (by simp;omega)
  intro j v hj;have hj':j< (r.filter fun k=>!decide (k<=M-8)).length:=by
   have:=(jl.1 hj).1;simpa using this
  rw[hw];have:=(hh j (by simp;omega)).1
  rw[this,<-hj,jq,ji hj'];simp only[vj]
  congr 2
  rw[getElem!_pos _ j (by simp;omega)]
  simp[List.getElem_append_left hj']
 ·rw[hw];exact Go.Lib.below_putRow (Below.refl _ W) (kg _)
end Kw
namespace Kw
open Go Go.RowKit Go.Proofs Go.Shelf
attribute [local go_sem↓] Go.wp_at_zero Go.wp_at_succ
variable [Gl]
theorem SN{U V W:World}{H:Nat}{v0 v1 v2:Value}(hU:H<U.heap.size)(h:V.cell? ⟨H,0,none⟩=some v0/\V.cell? ⟨H,1,none⟩=some v1/\V.cell? ⟨H,2,none⟩=some v2/\Aside (Below U.heap.size U V))(hB:Below V.heap.size V W):W.cell? ⟨H,0,none⟩=some v0/\W.cell? ⟨H,1,none⟩=some v1/\W.cell? ⟨H,2,none⟩=some v2/\Aside (Below U.heap.size U W):=by
 obtain⟨a,b,c,d⟩:=h;have hs:=d.out.size;have hlt:H<V.heap.size:=by omega
 exact⟨(hB.cell hlt).trans a,(hB.cell hlt).trans b,(hB.cell hlt).trans c,Below.trans d.out (hB.mono hs)⟩
theorem NF{U V:World}{H:Nat}{v0 v1 v2:Value}(hU:H<U.heap.size)(o:Go.Obj)(h:V.cell? ⟨H,0,none⟩=some v0/\V.cell? ⟨H,1,none⟩=some v1/\V.cell? ⟨H,2,none⟩=some v2/\Aside (Below U.heap.size U V)):(V.alloc o).cell? ⟨H,0,none⟩=some v0/\(V.alloc o).cell? ⟨H,1,none⟩=some v1/\(V.alloc o).cell? ⟨H,2,none⟩=some v2/\Aside (Below U.heap.size U (V.alloc o)):=
 SN hU h ((Below.refl _ V).alloc (kg _) o)
theorem Z7{U V:World}{H:Nat}{v0 v1 v2:Value}{o:Go.Obj}(o':Go.Obj)(hU:H<U.heap.size)(hV:U.heap.size<=V.heap.size)(h:(V.alloc o).cell? ⟨H,0,none⟩=some v0/\(V.alloc o).cell? ⟨H,1,none⟩=some v1/\(V.alloc o).cell? ⟨H,2,none⟩=some v2/\Aside (Below U.heap.size U (V.alloc o))):(V.alloc o').cell? ⟨H,0,none⟩=some v0/\(V.alloc o').cell? ⟨H,1,none⟩=some v1/\(V.alloc o').cell? ⟨H,2,none⟩=some v2/\Aside (Below U.heap.size U (V.alloc o')):=by
 obtain⟨a,b,c,d⟩:=h;have hB:Below V.heap.size (V.alloc o) (V.alloc o'):=⟨rfl,rfl,rfl,by simp,fun k hk=>by rw[Below.heap_alloc _ _ _ hk,Below.heap_alloc _ _ _ hk]⟩
 have hH:H<V.heap.size:=by omega
 exact⟨(hB.cell hH).trans a,(hB.cell hH).trans b,(hB.cell hH).trans c,Below.trans d.out (hB.mono hV)⟩
theorem P8{U V:World}{H:Nat}{v0 v1 v2:Value}{p:Addr}(u:Value)(hU:H<U.heap.size)(hp:U.heap.size<=p.block)(h:V.cell? ⟨H,0,none⟩=some v0/\V.cell? ⟨H,1,none⟩=some v1/\V.cell? ⟨H,2,none⟩=some v2/\Aside (Below U.heap.size U V)):(V.setCell p u).cell? ⟨H,0,none⟩=some v0/\(V.setCell p u).cell? ⟨H,1,none⟩=some v1/\(V.setCell p u).cell? ⟨H,2,none⟩=some v2/\Aside (Below U.heap.size U (V.setCell p u)):=by
 obtain⟨a,b,c,d⟩:=h;have hB:Below U.heap.size V (V.setCell p u):=(Below.refl _ V).setCell hp u;exact⟨(hB.cell hU).trans a,(hB.cell hU).trans b,(hB.cell hU).trans c,Below.trans d.out hB⟩
def TkV(U:World)(B g n:Nat)(l:List Int)(s:ByteArray)(M:Int)(V:World):Prop:=
 Below U.heap.size U V/\U.heap.size<=B/\U.heap.size<=g/\g≠B/\B<V.heap.size/\V.cell? ⟨B,0,none⟩=some (.string s)/\V.cell? ⟨B,1,none⟩=some (.int .i64 M)/\V.cell? ⟨B,2,none⟩=some (.slice (some ⟨g,0,none⟩) n n)/\(∀i,V.frozen? ⟨B,i,none⟩=false)/\
  ∀j v,(l.map vI)[j]?=some v->V.cell? ⟨g,0+j,none⟩=some v
theorem zR{V:World}{g n:Nat}{cur:Array Value}{l:List Int}{ty:TypeId}{fz:Nat×Nat}(hh:V.heap[g]?=some (.cells cur ty fz))(htk:cur.toList.take (n*1)=l.map vI):∀j v,(l.map vI)[j]?=some v->V.cell? ⟨g,0+j,none⟩=some v:=fun j v hj=>by
 rw[qG hh,qr,<-qe];rw[<-htk,ye]at hj;split at hj
 ·exact hj
 ·cases hj
theorem tkA{U V w':World}{g n:Nat}{cur:Array Value}{l:List Int}{s:ByteArray}{M:Int}(hV:Below U.heap.size U V)(hB:Below V.heap.size V w')(hg:V.heap.size<=g)(hh:w'.heap[g]?=some (.cells cur 3 (0,0)))(htk:cur.toList.take (n*1)=l.map vI):
 TkV U w'.heap.size g n l s M (w'.alloc (.cells #[.string s,.int .i64 M,.slice (some ⟨g,0,none⟩) n n] 124)):=by
 have hUV:=hV.size;have hs:=hB.size;have hgl:g<w'.heap.size:=by
  rcases vq g w'.heap.size with h|h
  ·exact h
  ·rw[yc h]at hh;cases hh
 refine⟨(Below.trans hV (hB.mono hUV)).alloc (by omega) _,by omega,by omega,by omega,by simp,by simp,by simp,by simp,fun i=>World.frozen?_alloc_at (w:=w') _ _ _ i rfl,zR (V:=w'.alloc _) (ty:=3) (fz:=(0,0)) (by rw[Below.heap_alloc _ _ _ hgl];exact hh) htk⟩
theorem tkB{U V w':World}{g n:Nat}{cur:Array Value}{l:List Int}{s:ByteArray}{M:Int}(hV:Below U.heap.size U V)(hB:Below V.heap.size V w')(hg:V.heap.size<=g)(hh:w'.heap[g]?=some (.cells cur 3 (0,0)))(htk:cur.toList.take (n*1)=l.map vI){B:Nat}(hUB:U.heap.size<=B)(hBV:B<V.heap.size)
 {arr:Array Value} (hb:V.heap[B]?=some (.cells arr 124 (0,0))) (ha:arr.size=3):
 TkV U B g n l s M (((w'.setCell ⟨B,0,none⟩ (.string s)).setCell ⟨B,1,none⟩ (.int .i64 M)).setCell ⟨B,2,none⟩ (.slice (some ⟨g,0,none⟩) n n)):=by
 have hs:=hB.size;have hUV:=hV.size;have h0:w'.heap[B]?=some (.cells arr 124 (0,0)):=(hB.block B hBV).trans hb;have h3:(((w'.setCell ⟨B,0,none⟩ (.string s)).setCell ⟨B,1,none⟩ (.int .i64 M)).setCell ⟨B,2,none⟩ (.slice (some ⟨g,0,none⟩) n n)).heap[B]?=some (.cells (ow arr 0 [.string s,.int .i64 M,.slice (some ⟨g,0,none⟩) n n]) 124 (0,0)):=fD [.string s,.int .i64 M,.slice (some ⟨g,0,none⟩) n n] 0 w' arr h0;have hne:g≠B:=by omega
 have hg3:(((w'.setCell ⟨B,0,none⟩ (.string s)).setCell ⟨B,1,none⟩ (.int .i64 M)).setCell ⟨B,2,none⟩ (.slice (some ⟨g,0,none⟩) n n)).heap[g]?=some (.cells cur 3 (0,0)):=(kQ hne [.string s,.int .i64 M,.slice (some ⟨g,0,none⟩) n n] 0 w').trans hh;have hc:∀k,k<3->(ow arr 0 [.string s,.int .i64 M,.slice (some ⟨g,0,none⟩) n n])[k]?=[Value.string s,.int .i64 M,.slice (some ⟨g,0,none⟩) n n][k]?:=fun k hk=>by
  have:=LM [.string s,.int .i64 M,.slice (some ⟨g,0,none⟩) n n] arr 0 k hk (by simp;omega)
  rw[qr]at this;exact this
 refine⟨Below.trans hV (((((Below.refl _ _).setCell (p:=⟨B,0,none⟩) hUB _).setCell (p:=⟨B,1,none⟩) hUB _).setCell (p:=⟨B,2,none⟩) hUB _)|>fun h=>Below.trans (hB.mono hUV) h),hUB,by omega,hne,?_,?_,?_,?_,fun i=>uI h3,zR hg3 htk⟩
 ·have:(((w'.setCell ⟨B,0,none⟩ (.string s)).setCell ⟨B,1,none⟩ (.int .i64 M)).setCell ⟨B,2,none⟩ (.slice (some ⟨g,0,none⟩) n n)).heap.size=w'.heap.size:=gT [.string s,.int .i64 M,.slice (some ⟨g,0,none⟩) n n] 0 w';rw[this];omega
 ·rw[qG h3,hc 0 (by decide)];rfl
 ·rw[qG h3,hc 1 (by decide)];rfl
 ·rw[qG h3,hc 2 (by decide)];rfl
theorem P9:∀(l:List Int) (x:Int) (i:Nat),i<=l.length->(∀j,j<i->x<l[j]!)->(i<l.length->¬x<l[i]!)->gJ l x=l.take i++x::l.drop i
 |[],x,i,hi,_,_=>by
  obtain rfl:i=0:=by simpa using hi
  rfl
 |y::l,x,0,_,_,h=>by
  have h1:¬x<y:=h (by simp)
  simp[gJ,List.takeWhile_cons,List.dropWhile_cons,h1]
 |y::l,x,i+1,hi,hA,hE=>by
  have h1:x<y:=hA 0 (by omega)
  have ih:=P9 l x i (by simpa using hi) (fun j hj=>by have:=hA (j+1) (by omega);simpa using this) (fun h=>by have:=hE (by simpa using h);simpa using this)
  unfold gJ at ih⊢;rw[List.takeWhile_cons,List.dropWhile_cons,jd (by simpa using h1),jd (by simpa using h1),List.take_succ_cons,List.drop_succ_cons,List.cons_append,ih,List.cons_append]
theorem keep_len{l:List Int}{top x:Int}:0< ((gJ l x).filter fun k=>!decide (k<=max top x-8)).length\/x<=top-8:=by
 by_cases h:x<=top-8
 ·exact .inr h
 ·refine .inl (qx.2 fun e=>?_)
  have hm:x∈(gJ l x).filter fun k=>!decide (k<=max top x-8):=by
   refine vd.2 ⟨by unfold gJ;simp,?_⟩
   have:¬x<=max top x-8:=by omega
   simp only[this,decide_false,Bool.not_false]
  rw[e]at hm;cases hm
def Fx(W:World)(B R:Nat)(s:ByteArray)(M:Int)(v:Value):Prop:=
 W.cell? ⟨B,0,none⟩=some (.string s)/\W.cell? ⟨B,1,none⟩=some (.int .i64 M)/\W.cell? ⟨B,2,none⟩=some v/\(∀i,W.frozen? ⟨B,i,none⟩=false)/\
   W.cell? ⟨R,0,none⟩=some (.string {data:= #[]})/\W.cell? ⟨R,1,none⟩=some (.int .i64 0)/\W.cell? ⟨R,2,none⟩=some (.slice none 0 0)/\∀i,W.frozen? ⟨R,i,none⟩=false
theorem Fx.below{V W:World}{B R K:Nat}{s:ByteArray}{M:Int}{v:Value}(h:Fx V B R s M v)(hB:Below K V W)(h1:B<K)(h2:R<K):Fx W B R s M v:=by
 obtain⟨a,b,c,d,e,f,g,i⟩:=h;exact⟨(hB.cell h1).trans a,(hB.cell h1).trans b,(hB.cell h1).trans c,fun j=>(hB.frozen h1).trans (d j),(hB.cell h2).trans e,(hB.cell h2).trans f,(hB.cell h2).trans g,fun j=>(hB.frozen h2).trans (i j)⟩
theorem C8{W:World}{B o R p:Nat}{v:Value}(h:R≠B):(W.setCell ⟨B,o,none⟩ v).cell? ⟨R,p,none⟩=W.cell? ⟨R,p,none⟩:=World.cell?_of_block (Below.heap_setCell _ _ _ _ h)
theorem Fx.set{W:World}{B R:Nat}{s:ByteArray}{M:Int}{v:Value}(u:Value)(h:Fx W B R s M v)(hne:R≠B):Fx (W.setCell ⟨B,2,none⟩ u) B R s M u:=by
 obtain⟨a,b,c,d,e,f,g,i⟩:=h;refine⟨?_,?_,?_,fun j=>?_,(C8 hne).trans e,(C8 hne).trans f,(C8 hne).trans g,fun j=>(World.frozen?_of_block (Below.heap_setCell _ _ _ _ hne)).trans (i j)⟩
 ·exact(World.cell?_setCell_other _ _ _ _ (by simp)).trans a
 ·exact(World.cell?_setCell_other _ _ _ _ (by simp)).trans b
 ·exact World.cell?_setCell_same _ _ _ c
 ·rw[World.frozen?_setCell];exact d j
theorem NG{U V:World}{B R g n i:Nat}{l:List Int}{s:ByteArray}{M x:Int}(T:TkV U B g n l s M V)(hR:R<U.heap.size)(F:Fx V B R s M (.slice (some ⟨g,0,none⟩) n n))(hl:l.length=n)(hi:i<=n)(hn:0<n)(hb:n<=1000)(hI:gJ l x=l.take i++x::l.drop i):
 Calls Tryz.prog 244 #[.slice (some ⟨g,0,none⟩) n n,.int .i64 i,.slice (some ⟨V.heap.size,0,none⟩) 1 1] (V.alloc (.cells #[.int .i64 x] 3)) fun e W=>∃cap,e=.returned (.slice (some ⟨V.heap.size+1,0,none⟩) (n+1) cap)/\
  Aside (n+1<=cap/\Below U.heap.size U W/\V.heap.size+1<W.heap.size/\(∀j v,((gJ l x).map vI)[j]?=some v->W.cell? ⟨V.heap.size+1,0+j,none⟩=some v)/\∀j,W.frozen? ⟨V.heap.size+1,j,none⟩=false)/\Fx W B R s M (.slice (some ⟨g,0,none⟩) n n):=by
 obtain⟨t1,t2,t3,t4,t5,t6,t7,t8,t9,t10⟩:=T;have hs1:(V.alloc (.cells #[.int .i64 x] 3)).heap.size=V.heap.size+1:=by simp
 have kins:=ai4 g n i V.heap.size 1 l x (V.alloc (.cells #[.int .i64 x] 3)) hl hi hb hn (fun j v hj=>Lib.cell?_alloc_some _ (t10 j v hj)) (by simp)
 rw[hs1]at kins;refine kins.mono fun e W ⟨cap,arr,he,hcap,hh,hsz,htk,hlt,hB⟩=>⟨cap,he,⟨hcap,?_,hlt,?_,fun j=>uI hh⟩,?_⟩
 ·exact Below.trans t1 (Below.trans ((Below.refl _ V).alloc t1.size _) (hB.mono (by have:=t1.size;omega)))
 ·exact zR (n:=n+1) hh (by rw[Nat.mul_one,htk,<-hI])
 ·exact F.below (Below.trans ((Below.refl V.heap.size V).alloc (kg _) _) (hB.mono (by omega))) t5 (by have:=t1.size;omega)
theorem NH{U V:World}{B R g n:Nat}{l r:List Int}{s:ByteArray}{M x:Int}(hV:U.heap.size<=V.heap.size)(hUB:U.heap.size<=B)(hBV:B<V.heap.size)(hR:R<U.heap.size)(hM0: -1000000<=M)(hM1:M<=1000000)(hil:(gJ l x).length=n+1)(hb:n<=1000)(hr:(gJ l x).filter (fun k=>!decide (k<=M-8))=r)(cap:Nat)(W:World)
 (hA:Aside (n+1<=cap/\Below U.heap.size U W/\V.heap.size+1<W.heap.size/\(∀j v,((gJ l x).map vI)[j]?=some v->W.cell? ⟨V.heap.size+1,0+j,none⟩=some v)/\∀j,W.frozen? ⟨V.heap.size+1,j,none⟩=false)) (F:Fx W B R s M (.slice (some ⟨g,0,none⟩) n n)):
 Calls Tryz.prog 245 #[.slice (some ⟨V.heap.size+1,0,none⟩) (n+1) cap,.func (.func 246) #[] #[.pointer (some ⟨B,0,none⟩)]] (W.setCell ⟨B,2,none⟩ (.slice (some ⟨V.heap.size+1,0,none⟩) (n+1) cap)) fun e w3=>e=.returned (.slice (some ⟨V.heap.size+1,0,none⟩) r.length cap)/\
  Aside (Below U.heap.size U w3/\V.heap.size+1<w3.heap.size/\∀j v,(r.map vI)[j]?=some v->w3.cell? ⟨V.heap.size+1,0+j,none⟩=some v)/\Fx w3 B R s M (.slice (some ⟨V.heap.size+1,0,none⟩) (n+1) cap):=by
 obtain⟨hcap,hB,hlt,hcs,hfz⟩:=hA.out;have hne:V.heap.size+1≠B:=by omega
 have hsz:(W.setCell ⟨B,2,none⟩ (.slice (some ⟨V.heap.size+1,0,none⟩) (n+1) cap)).heap.size=W.heap.size:=by simp[World.setCell]
 have F2:=F.set (.slice (some ⟨V.heap.size+1,0,none⟩) (n+1) cap) (by omega)
 have k:=ai5 M (V.heap.size+1) B (n+1) cap (gJ l x) _ ⟨hM0,hM1⟩ (by rw[hsz];omega) (by omega) F2.2.1 hil (by omega) hcap (fun j v hj=>(C8 hne).trans (hcs j v hj)) (fun j _=>(World.frozen?_of_block (Below.heap_setCell _ _ _ _ hne)).trans (hfz _))
 rw[hr]at k;refine k.mono fun e w3 ⟨he,hc3,hB3⟩=>⟨he,⟨?_,?_,hc3⟩,F2.below hB3 (by omega) (by omega)⟩
 ·exact Below.trans (hB.setCell (p:=⟨B,2,none⟩) hUB _) (hB3.mono (by omega))
 ·have:=hB3.size;omega
theorem FS{U V:World}{B R n:Nat}{r:List Int}{s:ByteArray}{M:Int}(hV:U.heap.size<=V.heap.size)(hBV:B<V.heap.size)(hR:R<U.heap.size)(hr0:0<r.length)(hr1:r.length<=2000)(cap:Nat)(w3:World)
 (hA:Aside (Below U.heap.size U w3/\V.heap.size+1<w3.heap.size/\∀j v,(r.map vI)[j]?=some v->w3.cell? ⟨V.heap.size+1,0+j,none⟩=some v)) (F:Fx w3 B R s M (.slice (some ⟨V.heap.size+1,0,none⟩) (n+1) cap)):
 Calls Tryz.prog 108 #[.slice (some ⟨V.heap.size+1,0,none⟩) r.length cap] w3 fun e w4=>∃g2,e=.returned (.slice (some ⟨g2,0,none⟩) r.length r.length)/\
  Aside (Below U.heap.size U w4/\U.heap.size<=g2/\g2≠B/\g2≠R/\∀j v,(r.map vI)[j]?=some v->w4.cell? ⟨g2,0+j,none⟩=some v)/\Fx w4 B R s M (.slice (some ⟨V.heap.size+1,0,none⟩) (n+1) cap):=by
 obtain⟨hB,hlt,hc⟩:=hA.out;refine(zQ (V.heap.size+1) 0 r.length cap r w3 rfl hr0 (by omega) hc).mono fun e w4 ⟨g2,cur,he,hg,hh,hsz,htk,hB4⟩=>⟨g2,he,⟨Below.trans hB (hB4.mono hB.size),by omega,by omega,by omega,zR hh htk⟩,F.below hB4 (by omega) (by have:=hB.size;omega)⟩
theorem SO{W:World}{o:Go.Obj}{k:Nat}(h:k=W.heap.size):(W.alloc o).heap[k]?=some o:=by
 subst h;show(W.heap.push o)[W.heap.size]?=_;rw[Array.getElem?_push_size]
theorem QA{H:Nat}{V W:World}(hB:Below V.heap.size V W)(i:Nat)(h:(V.cell? ⟨H+2,i,none⟩).isSome=true):W.cell? ⟨H+2,i,none⟩=V.cell? ⟨H+2,i,none⟩/\W.frozen? ⟨H+2,i,none⟩=V.frozen? ⟨H+2,i,none⟩:=by
 obtain⟨v,hv⟩:=qt.1 h;have hlt:H+2<V.heap.size:=block_lt_of_cell hv;exact⟨hB.cell hlt,hB.frozen hlt⟩
theorem VY{U V:World}{H:Nat}{v0 v1 v2:Value}(hU:H<U.heap.size)(o:Go.Obj)(h:V.drew.cell? ⟨H,0,none⟩=some v0/\V.drew.cell? ⟨H,1,none⟩=some v1/\V.drew.cell? ⟨H,2,none⟩=some v2/\Aside (Below U.heap.size U V.drew)):(V.alloc o).drew.cell? ⟨H,0,none⟩=some v0/\(V.alloc o).drew.cell? ⟨H,1,none⟩=some v1/\(V.alloc o).drew.cell? ⟨H,2,none⟩=some v2/\Aside (Below U.heap.size U (V.alloc o).drew):=
 NF (V:=V.drew) hU o h
theorem Z8{W:World}{o:Go.Obj}{k:Nat}(h:k=W.heap.size):((W.alloc o).drew).heap[k]?=some o:=SO h
end Kw
