/- Contracts of the kit, laid at this program (written by the tool lay-plain and a program of ours): texts and numbers. -/
import Derived.Shelf.Strings.Builder1
import Derived.Shelf.Strings.Builder2
import Derived.Shelf.Strings.OnBuilder
import Derived.Shelf.Small.Strs
import Derived.Shelf.Strings.BuilderF
import Derived.Shelf.Utf8.RuneCount
import Derived.Shelf.Strings.Builder2Cap
import Derived.Shelf.Strconv.Atoi
import Derived.Shelf.Strconv.Itoa0
import Derived.Shelf.Strconv.Itoa1
import Derived.Shelf.LaysM
import Derived.Shelf.Strconv.Itoa2
import Derived.Shelf.Strconv.Itoa3
import Derived.Shelf.Strconv.AtoiErrFast
import Derived.Shelf.Strconv.ParseIntEmpty
import Derived.Shelf.Strconv.AtoiFail
import Derived.Shelf.Strconv.Clone
import Derived.Shelf.Strconv.SyntaxError
import Derived.Shelf.LaysC
import Derived.Shelf.Strconv.ToError
import Derived.Shelf.Strconv.Lower
import Derived.Shelf.Strconv.ParseUint10
import Derived.Shelf.Strconv.ParseUint10Empty
import Derived.Shelf.Strconv.ParseUint10Any
import Derived.Shelf.Strconv.ParseInt10
import Derived.Shelf.Strconv.AtoiLong
import Derived.Shelf.Strconv.AtoiInnerAll
import Derived.Shelf.Strconv.RangeError
import Derived.Shelf.Strconv.ToErrorRange
import Derived.Shelf.Strconv.AtoiAll
import Derived.Shelf.Strings.Search1
import Derived.Shelf.Strings.Search2
import Derived.Shelf.Strings.Search3
import Derived.Shelf.Strings.Count
import Derived.Shelf.Strings.Shaped
import Derived.Shelf.Strings.Prefix
import Derived.Shelf.Strings.Split
import Derived.Shelf.Strings.RuneCount
import Derived.Shelf.Bits.Mul64
import Derived.Shelf.Strings.Repeat
import Derived.Test.YtognhcibcocbkaaGreatDoorZ01
import Derived.Test.YtognhcibcocbkaaGreatDoorChecked
import Derived.Tactics
import Derived.Tactics2
import Derived.Defers
import Derived.Laws.Pointers
import Derived.Laws.LoneSync
import Derived.RegionTactic
import Derived.RegionCalls
import Derived.ChangeAlike
import Derived.WalkKit
import Derived.LoopN
import Derived.Deep.WholeRow
import Derived.Lib.LazyBuf
import Derived.Lib.ConvBytes
import Derived.Laws.IdiomStrings
namespace Go.Proofs.YtognhcibcocbkaaGreatDoor
open Go.Shelf
set_option maxRecDepth 100000
def qay:Go.Shelf.Ren:=⟨fun|137=>36|217=>53|266=>73|n=>n,fun|9=>9|5=>5|3=>3|n=>n,fun|n=>n⟩
theorem lays137:Go.Proofs.Lays.n137 Tryz.prog qay:={
 mixed:=by kernel_rfl
 f137:=Tryz.func36.trans (congrArg some (by kernel_rfl))
 f217:=Tryz.func53.trans (congrArg some (by kernel_rfl))
 f266:=Tryz.func73.trans (congrArg some (by kernel_rfl))
 t3:=Tryz.underlying3
 a3:=Tryz.isAgg3
 z3:=Tryz.sizeOf3
 v3:=Tryz.zeroValue3
 t5:=Tryz.underlying5
 a5:=Tryz.isAgg5
 z5:=Tryz.sizeOf5
 v5:=Tryz.zeroValue5
 t9:=Tryz.underlying9
 a9:=Tryz.isAgg9
 z9:=Tryz.sizeOf9
 v9:=Tryz.zeroValue9 }
def qb2:Go.Shelf.Ren:=⟨fun|171=>66|243=>90|246=>103|283=>110|284=>111|285=>112|286=>113|129=>123|317=>122|318=>124|319=>125|320=>126|337=>138|338=>139|n=>n,fun|3=>3|9=>9|2=>2|4=>4|171=>153|0=>0|53=>127|37=>87|5=>5|173=>156|212=>176|51=>124|20=>20|213=>177|46=>103|232=>216|233=>217|n=>n,fun|17=>1|18=>4|19=>5|n=>n⟩
theorem laysM171:Go.Proofs.LaysM.n171 Tryz.prog qb2:={
 mixed:=by kernel_rfl
 f129:=Tryz.func123.trans (congrArg some (by kernel_rfl))
 f171:=Tryz.func66.trans (congrArg some (by kernel_rfl))
 f243:=Tryz.func90.trans (congrArg some (by kernel_rfl))
 f246:=Tryz.func103.trans (congrArg some (by kernel_rfl))
 f283:=Tryz.func110.trans (congrArg some (by kernel_rfl))
 f284:=Tryz.func111.trans (congrArg some (by kernel_rfl))
 f285:=Tryz.func112.trans (congrArg some (by kernel_rfl))
 f286:=Tryz.func113.trans (congrArg some (by kernel_rfl))
 f317:=Tryz.func122.trans (congrArg some (by kernel_rfl))
 f318:=Tryz.func124.trans (congrArg some (by kernel_rfl))
 f319:=Tryz.func125.trans (congrArg some (by kernel_rfl))
 f320:=Tryz.func126.trans (congrArg some (by kernel_rfl))
 f337:=Tryz.func138.trans (congrArg some (by kernel_rfl))
 f338:=Tryz.func139.trans (congrArg some (by kernel_rfl))
 t0:=Tryz.underlying0
 a0:=Tryz.isAgg0
 z0:=Tryz.sizeOf0
 v0:=Tryz.zeroValue0
 t2:=Tryz.underlying2
 a2:=Tryz.isAgg2
 z2:=Tryz.sizeOf2
 v2:=Tryz.zeroValue2
 t3:=Tryz.underlying3
 a3:=Tryz.isAgg3
 z3:=Tryz.sizeOf3
 v3:=Tryz.zeroValue3
 t4:=Tryz.underlying4
 a4:=Tryz.isAgg4
 z4:=Tryz.sizeOf4
 v4:=Tryz.zeroValue4
 t5:=Tryz.underlying5
 a5:=Tryz.isAgg5
 z5:=Tryz.sizeOf5
 v5:=Tryz.zeroValue5
 t9:=Tryz.underlying9
 a9:=Tryz.isAgg9
 z9:=Tryz.sizeOf9
 v9:=Tryz.zeroValue9
 t20:=Tryz.underlying20
 a20:=Tryz.isAgg20
 z20:=Tryz.sizeOf20
 v20:=Tryz.zeroValue20
 t37:=Tryz.underlying87
 a37:=Tryz.isAgg87
 z37:=Tryz.sizeOf87
 v37:=Tryz.zeroValue87
 t46:=Tryz.underlying103
 a46:=Tryz.isAgg103
 z46:=Tryz.sizeOf103
 v46:=Tryz.zeroValue103
 t51:=Tryz.underlying124
 a51:=Tryz.isAgg124
 z51:=Tryz.sizeOf124
 v51:=Tryz.zeroValue124
 t53:=Tryz.underlying127
 a53:=Tryz.isAgg127
 z53:=Tryz.sizeOf127
 v53:=Tryz.zeroValue127
 t171:=Tryz.underlying153
 a171:=Tryz.isAgg153
 z171:=Tryz.sizeOf153
 v171:=Tryz.zeroValue153
 t173:=Tryz.underlying156
 a173:=Tryz.isAgg156
 z173:=Tryz.sizeOf156
 v173:=Tryz.zeroValue156
 t212:=Tryz.underlying176
 a212:=Tryz.isAgg176
 z212:=Tryz.sizeOf176
 v212:=Tryz.zeroValue176
 t213:=Tryz.underlying177
 a213:=Tryz.isAgg177
 z213:=Tryz.sizeOf177
 t232:=Tryz.underlying216
 a232:=Tryz.isAgg216
 z232:=Tryz.sizeOf216
 v232:=Tryz.zeroValue216
 t233:=Tryz.underlying217
 a233:=Tryz.isAgg217
 z233:=Tryz.sizeOf217
 v233:=Tryz.zeroValue217
 g17:=by kernel_rfl
 g18:=by kernel_rfl
 g19:=by kernel_rfl
 i0:=by kernel_rfl
 i2:=by kernel_rfl
 i3:=by kernel_rfl
 i4:=by kernel_rfl
 i5:=by kernel_rfl
 i9:=by kernel_rfl
 i20:=by kernel_rfl
 i37:=by kernel_rfl
 i46:=by kernel_rfl
 i51:=by kernel_rfl
 i53:=by kernel_rfl
 i171:=by kernel_rfl
 i173:=by kernel_rfl
 i212:=by kernel_rfl
 i232:=by kernel_rfl
 i233:=by kernel_rfl
 m17:=by kernel_rfl
 m18:=by kernel_rfl
 m19:=by kernel_rfl }
def qb1:Go.Shelf.Ren:=⟨fun|172=>104|244=>114|245=>115|247=>127|279=>128|280=>129|281=>130|282=>131|287=>140|316=>141|171=>66|205=>142|321=>152|322=>153|243=>90|246=>103|283=>110|284=>111|285=>112|286=>113|129=>123|317=>122|318=>124|319=>125|320=>126|337=>138|338=>139|n=>n,fun|9=>9|3=>3|75=>111|76=>112|4=>4|5=>5|167=>179|37=>87|0=>0|85=>180|2=>2|168=>182|53=>127|175=>200|46=>103|210=>203|127=>130|145=>221|143=>219|21=>21|171=>153|173=>156|212=>176|51=>124|20=>20|213=>177|232=>216|233=>217|80=>114|n=>n,fun|15=>2|16=>3|17=>1|18=>4|19=>5|n=>n⟩
theorem laysC172:Go.Proofs.LaysC.n172 Tryz.prog qb1:={
 mixed:=by kernel_rfl
 f129:=Tryz.func123.trans (congrArg some (by kernel_rfl))
 f171:=Tryz.func66.trans (congrArg some (by kernel_rfl))
 f172:=Tryz.func104.trans (congrArg some (by kernel_rfl))
 f205:=Tryz.func142.trans (congrArg some (by kernel_rfl))
 f243:=Tryz.func90.trans (congrArg some (by kernel_rfl))
 f244:=Tryz.func114.trans (congrArg some (by kernel_rfl))
 f245:=Tryz.func115.trans (congrArg some (by kernel_rfl))
 f246:=Tryz.func103.trans (congrArg some (by kernel_rfl))
 f247:=Tryz.func127.trans (congrArg some (by kernel_rfl))
 f279:=Tryz.func128.trans (congrArg some (by kernel_rfl))
 f280:=Tryz.func129.trans (congrArg some (by kernel_rfl))
 f281:=Tryz.func130.trans (congrArg some (by kernel_rfl))
 f282:=Tryz.func131.trans (congrArg some (by kernel_rfl))
 f283:=Tryz.func110.trans (congrArg some (by kernel_rfl))
 f284:=Tryz.func111.trans (congrArg some (by kernel_rfl))
 f285:=Tryz.func112.trans (congrArg some (by kernel_rfl))
 f286:=Tryz.func113.trans (congrArg some (by kernel_rfl))
 f287:=Tryz.func140.trans (congrArg some (by kernel_rfl))
 f316:=Tryz.func141.trans (congrArg some (by kernel_rfl))
 f317:=Tryz.func122.trans (congrArg some (by kernel_rfl))
 f318:=Tryz.func124.trans (congrArg some (by kernel_rfl))
 f319:=Tryz.func125.trans (congrArg some (by kernel_rfl))
 f320:=Tryz.func126.trans (congrArg some (by kernel_rfl))
 f321:=Tryz.func152.trans (congrArg some (by kernel_rfl))
 f322:=Tryz.func153.trans (congrArg some (by kernel_rfl))
 f337:=Tryz.func138.trans (congrArg some (by kernel_rfl))
 f338:=Tryz.func139.trans (congrArg some (by kernel_rfl))
 t0:=Tryz.underlying0
 a0:=Tryz.isAgg0
 z0:=Tryz.sizeOf0
 v0:=Tryz.zeroValue0
 t2:=Tryz.underlying2
 a2:=Tryz.isAgg2
 z2:=Tryz.sizeOf2
 v2:=Tryz.zeroValue2
 t3:=Tryz.underlying3
 a3:=Tryz.isAgg3
 z3:=Tryz.sizeOf3
 v3:=Tryz.zeroValue3
 t4:=Tryz.underlying4
 a4:=Tryz.isAgg4
 z4:=Tryz.sizeOf4
 v4:=Tryz.zeroValue4
 t5:=Tryz.underlying5
 a5:=Tryz.isAgg5
 z5:=Tryz.sizeOf5
 v5:=Tryz.zeroValue5
 t9:=Tryz.underlying9
 a9:=Tryz.isAgg9
 z9:=Tryz.sizeOf9
 v9:=Tryz.zeroValue9
 t20:=Tryz.underlying20
 a20:=Tryz.isAgg20
 z20:=Tryz.sizeOf20
 v20:=Tryz.zeroValue20
 t21:=Tryz.underlying21
 a21:=Tryz.isAgg21
 z21:=Tryz.sizeOf21
 v21:=Tryz.zeroValue21
 t37:=Tryz.underlying87
 a37:=Tryz.isAgg87
 z37:=Tryz.sizeOf87
 v37:=Tryz.zeroValue87
 t46:=Tryz.underlying103
 a46:=Tryz.isAgg103
 z46:=Tryz.sizeOf103
 v46:=Tryz.zeroValue103
 t51:=Tryz.underlying124
 a51:=Tryz.isAgg124
 z51:=Tryz.sizeOf124
 v51:=Tryz.zeroValue124
 t53:=Tryz.underlying127
 a53:=Tryz.isAgg127
 z53:=Tryz.sizeOf127
 v53:=Tryz.zeroValue127
 t75:=Tryz.underlying111
 a75:=Tryz.isAgg111
 z75:=Tryz.sizeOf111
 v75:=Tryz.zeroValue111
 t76:=Tryz.underlying112
 a76:=Tryz.isAgg112
 z76:=Tryz.sizeOf112
 v76:=Tryz.zeroValue112
 t85:=Tryz.underlying180
 a85:=Tryz.isAgg180
 z85:=Tryz.sizeOf180
 v85:=Tryz.zeroValue180
 t127:=Tryz.underlying130
 a127:=Tryz.isAgg130
 z127:=Tryz.sizeOf130
 v127:=Tryz.zeroValue130
 t143:=Tryz.underlying219
 a143:=Tryz.isAgg219
 z143:=Tryz.sizeOf219
 v143:=Tryz.zeroValue219
 t145:=Tryz.underlying221
 a145:=Tryz.isAgg221
 z145:=Tryz.sizeOf221
 v145:=Tryz.zeroValue221
 t167:=Tryz.underlying179
 a167:=Tryz.isAgg179
 z167:=Tryz.sizeOf179
 v167:=Tryz.zeroValue179
 t168:=Tryz.underlying182
 a168:=Tryz.isAgg182
 z168:=Tryz.sizeOf182
 v168:=Tryz.zeroValue182
 t171:=Tryz.underlying153
 a171:=Tryz.isAgg153
 z171:=Tryz.sizeOf153
 v171:=Tryz.zeroValue153
 t173:=Tryz.underlying156
 a173:=Tryz.isAgg156
 z173:=Tryz.sizeOf156
 v173:=Tryz.zeroValue156
 t175:=Tryz.underlying200
 a175:=Tryz.isAgg200
 z175:=Tryz.sizeOf200
 v175:=Tryz.zeroValue200
 t210:=Tryz.underlying203
 a210:=Tryz.isAgg203
 z210:=Tryz.sizeOf203
 v210:=Tryz.zeroValue203
 t212:=Tryz.underlying176
 a212:=Tryz.isAgg176
 z212:=Tryz.sizeOf176
 v212:=Tryz.zeroValue176
 t213:=Tryz.underlying177
 a213:=Tryz.isAgg177
 z213:=Tryz.sizeOf177
 t232:=Tryz.underlying216
 a232:=Tryz.isAgg216
 z232:=Tryz.sizeOf216
 v232:=Tryz.zeroValue216
 t233:=Tryz.underlying217
 a233:=Tryz.isAgg217
 z233:=Tryz.sizeOf217
 v233:=Tryz.zeroValue217
 g15:=by kernel_rfl
 g16:=by kernel_rfl
 g17:=by kernel_rfl
 g18:=by kernel_rfl
 g19:=by kernel_rfl
 t80:=Tryz.underlying114
 a80:=Tryz.isAgg114
 z80:=Tryz.sizeOf114
 v80:=Tryz.zeroValue114
 i0:=by kernel_rfl
 i2:=by kernel_rfl
 i3:=by kernel_rfl
 i4:=by kernel_rfl
 i5:=by kernel_rfl
 i9:=by kernel_rfl
 i20:=by kernel_rfl
 i21:=by kernel_rfl
 i37:=by kernel_rfl
 i46:=by kernel_rfl
 i51:=by kernel_rfl
 i53:=by kernel_rfl
 i75:=by kernel_rfl
 i76:=by kernel_rfl
 i80:=by kernel_rfl
 i85:=by kernel_rfl
 i127:=by kernel_rfl
 i143:=by kernel_rfl
 i145:=by kernel_rfl
 i167:=by kernel_rfl
 i168:=by kernel_rfl
 i171:=by kernel_rfl
 i173:=by kernel_rfl
 i175:=by kernel_rfl
 i210:=by kernel_rfl
 i212:=by kernel_rfl
 i232:=by kernel_rfl
 i233:=by kernel_rfl
 m15:=by kernel_rfl
 m16:=by kernel_rfl
 m17:=by kernel_rfl
 m18:=by kernel_rfl
 m19:=by kernel_rfl
 c0:=by kernel_rfl
 c2:=by kernel_rfl
 c3:=by kernel_rfl
 c4:=by kernel_rfl
 c5:=by kernel_rfl
 c9:=by kernel_rfl
 c20:=by kernel_rfl
 c21:=by kernel_rfl
 c37:=by kernel_rfl
 c46:=by kernel_rfl
 c51:=by kernel_rfl
 c53:=by kernel_rfl
 c75:=by kernel_rfl
 c76:=by kernel_rfl
 c80:=by kernel_rfl
 c85:=by kernel_rfl
 c127:=by kernel_rfl
 c143:=by kernel_rfl
 c145:=by kernel_rfl
 c167:=by kernel_rfl
 c168:=by kernel_rfl
 c171:=by kernel_rfl
 c173:=by kernel_rfl
 c175:=by kernel_rfl
 c210:=by kernel_rfl
 c212:=by kernel_rfl
 c213:=by kernel_rfl
 c232:=by kernel_rfl
 c233:=by kernel_rfl }
def qaz:Go.Shelf.Ren:=⟨fun|138=>188|195=>189|218=>190|143=>191|219=>192|217=>53|225=>193|224=>194|267=>195|266=>73|314=>196|n=>n,fun|9=>9|3=>3|4=>4|5=>5|0=>0|46=>103|146=>125|51=>124|n=>n,fun|1=>0|n=>n⟩
theorem lays138:Go.Proofs.Lays.n138 Tryz.prog qaz:={
 mixed:=by kernel_rfl
 f138:=Tryz.func188.trans (congrArg some (by kernel_rfl))
 f143:=Tryz.func191.trans (congrArg some (by kernel_rfl))
 f195:=Tryz.func189.trans (congrArg some (by kernel_rfl))
 f217:=Tryz.func53.trans (congrArg some (by kernel_rfl))
 f218:=Tryz.func190.trans (congrArg some (by kernel_rfl))
 f219:=Tryz.func192.trans (congrArg some (by kernel_rfl))
 f224:=Tryz.func194.trans (congrArg some (by kernel_rfl))
 f225:=Tryz.func193.trans (congrArg some (by kernel_rfl))
 f266:=Tryz.func73.trans (congrArg some (by kernel_rfl))
 f267:=Tryz.func195.trans (congrArg some (by kernel_rfl))
 f314:=Tryz.func196.trans (congrArg some (by kernel_rfl))
 t0:=Tryz.underlying0
 a0:=Tryz.isAgg0
 z0:=Tryz.sizeOf0
 v0:=Tryz.zeroValue0
 t3:=Tryz.underlying3
 a3:=Tryz.isAgg3
 z3:=Tryz.sizeOf3
 v3:=Tryz.zeroValue3
 t4:=Tryz.underlying4
 a4:=Tryz.isAgg4
 z4:=Tryz.sizeOf4
 v4:=Tryz.zeroValue4
 t5:=Tryz.underlying5
 a5:=Tryz.isAgg5
 z5:=Tryz.sizeOf5
 v5:=Tryz.zeroValue5
 t9:=Tryz.underlying9
 a9:=Tryz.isAgg9
 z9:=Tryz.sizeOf9
 v9:=Tryz.zeroValue9
 t46:=Tryz.underlying103
 a46:=Tryz.isAgg103
 z46:=Tryz.sizeOf103
 v46:=Tryz.zeroValue103
 t51:=Tryz.underlying124
 a51:=Tryz.isAgg124
 z51:=Tryz.sizeOf124
 v51:=Tryz.zeroValue124
 t146:=Tryz.underlying125
 a146:=Tryz.isAgg125
 z146:=Tryz.sizeOf125
 v146:=Tryz.zeroValue125
 g1:=by kernel_rfl }
def qb0:Go.Shelf.Ren:=⟨fun|156=>86|165=>81|166=>82|169=>84|240=>99|241=>100|276=>105|277=>106|n=>n,fun|31=>66|9=>9|3=>3|4=>4|0=>0|20=>20|72=>108|76=>112|70=>106|37=>87|75=>111|127=>130|164=>148|5=>5|80=>114|n=>n,fun|n=>n⟩
theorem lays156:Go.Proofs.Lays.n156 Tryz.prog qb0:={
 mixed:=by kernel_rfl
 f156:=Tryz.func86.trans (congrArg some (by kernel_rfl))
 f165:=Tryz.func81.trans (congrArg some (by kernel_rfl))
 f166:=Tryz.func82.trans (congrArg some (by kernel_rfl))
 f169:=Tryz.func84.trans (congrArg some (by kernel_rfl))
 f240:=Tryz.func99.trans (congrArg some (by kernel_rfl))
 f241:=Tryz.func100.trans (congrArg some (by kernel_rfl))
 f276:=Tryz.func105.trans (congrArg some (by kernel_rfl))
 f277:=Tryz.func106.trans (congrArg some (by kernel_rfl))
 t0:=Tryz.underlying0
 a0:=Tryz.isAgg0
 z0:=Tryz.sizeOf0
 v0:=Tryz.zeroValue0
 t3:=Tryz.underlying3
 a3:=Tryz.isAgg3
 z3:=Tryz.sizeOf3
 v3:=Tryz.zeroValue3
 t4:=Tryz.underlying4
 a4:=Tryz.isAgg4
 z4:=Tryz.sizeOf4
 v4:=Tryz.zeroValue4
 t9:=Tryz.underlying9
 a9:=Tryz.isAgg9
 z9:=Tryz.sizeOf9
 v9:=Tryz.zeroValue9
 t20:=Tryz.underlying20
 a20:=Tryz.isAgg20
 z20:=Tryz.sizeOf20
 v20:=Tryz.zeroValue20
 t31:=Tryz.underlying66
 a31:=Tryz.isAgg66
 z31:=Tryz.sizeOf66
 v31:=Tryz.zeroValue66
 t37:=Tryz.underlying87
 a37:=Tryz.isAgg87
 z37:=Tryz.sizeOf87
 v37:=Tryz.zeroValue87
 t70:=Tryz.underlying106
 a70:=Tryz.isAgg106
 z70:=Tryz.sizeOf106
 v70:=Tryz.zeroValue106
 t72:=Tryz.underlying108
 a72:=Tryz.isAgg108
 z72:=Tryz.sizeOf108
 v72:=Tryz.zeroValue108
 t75:=Tryz.underlying111
 a75:=Tryz.isAgg111
 z75:=Tryz.sizeOf111
 v75:=Tryz.zeroValue111
 t76:=Tryz.underlying112
 a76:=Tryz.isAgg112
 z76:=Tryz.sizeOf112
 v76:=Tryz.zeroValue112
 t127:=Tryz.underlying130
 a127:=Tryz.isAgg130
 z127:=Tryz.sizeOf130
 v127:=Tryz.zeroValue130
 t164:=Tryz.underlying148
 a164:=Tryz.isAgg148
 z164:=Tryz.sizeOf148
 v164:=Tryz.zeroValue148 }
def qax:Go.Shelf.Ren:=⟨fun|105=>61|212=>79|99=>80|165=>81|166=>82|170=>83|169=>84|263=>96|264=>97|206=>98|240=>99|241=>100|276=>105|277=>106|n=>n,fun|9=>9|3=>3|4=>4|20=>20|0=>0|46=>103|109=>104|5=>5|72=>108|76=>112|51=>124|146=>125|53=>127|148=>128|70=>106|37=>87|75=>111|127=>130|164=>148|80=>114|n=>n,fun|n=>n⟩
theorem lays105:Go.Proofs.Lays.n105 Tryz.prog qax:={
 mixed:=by kernel_rfl
 f99:=Tryz.func80.trans (congrArg some (by kernel_rfl))
 f105:=Tryz.func61.trans (congrArg some (by kernel_rfl))
 f165:=Tryz.func81.trans (congrArg some (by kernel_rfl))
 f166:=Tryz.func82.trans (congrArg some (by kernel_rfl))
 f169:=Tryz.func84.trans (congrArg some (by kernel_rfl))
 f170:=Tryz.func83.trans (congrArg some (by kernel_rfl))
 f206:=Tryz.func98.trans (congrArg some (by kernel_rfl))
 f212:=Tryz.func79.trans (congrArg some (by kernel_rfl))
 f240:=Tryz.func99.trans (congrArg some (by kernel_rfl))
 f241:=Tryz.func100.trans (congrArg some (by kernel_rfl))
 f263:=Tryz.func96.trans (congrArg some (by kernel_rfl))
 f264:=Tryz.func97.trans (congrArg some (by kernel_rfl))
 f276:=Tryz.func105.trans (congrArg some (by kernel_rfl))
 f277:=Tryz.func106.trans (congrArg some (by kernel_rfl))
 t0:=Tryz.underlying0
 a0:=Tryz.isAgg0
 z0:=Tryz.sizeOf0
 v0:=Tryz.zeroValue0
 t3:=Tryz.underlying3
 a3:=Tryz.isAgg3
 z3:=Tryz.sizeOf3
 v3:=Tryz.zeroValue3
 t4:=Tryz.underlying4
 a4:=Tryz.isAgg4
 z4:=Tryz.sizeOf4
 v4:=Tryz.zeroValue4
 t5:=Tryz.underlying5
 a5:=Tryz.isAgg5
 z5:=Tryz.sizeOf5
 v5:=Tryz.zeroValue5
 t9:=Tryz.underlying9
 a9:=Tryz.isAgg9
 z9:=Tryz.sizeOf9
 v9:=Tryz.zeroValue9
 t20:=Tryz.underlying20
 a20:=Tryz.isAgg20
 z20:=Tryz.sizeOf20
 v20:=Tryz.zeroValue20
 t37:=Tryz.underlying87
 a37:=Tryz.isAgg87
 z37:=Tryz.sizeOf87
 v37:=Tryz.zeroValue87
 t46:=Tryz.underlying103
 a46:=Tryz.isAgg103
 z46:=Tryz.sizeOf103
 v46:=Tryz.zeroValue103
 t51:=Tryz.underlying124
 a51:=Tryz.isAgg124
 z51:=Tryz.sizeOf124
 v51:=Tryz.zeroValue124
 t53:=Tryz.underlying127
 a53:=Tryz.isAgg127
 z53:=Tryz.sizeOf127
 v53:=Tryz.zeroValue127
 t70:=Tryz.underlying106
 a70:=Tryz.isAgg106
 z70:=Tryz.sizeOf106
 v70:=Tryz.zeroValue106
 t72:=Tryz.underlying108
 a72:=Tryz.isAgg108
 z72:=Tryz.sizeOf108
 v72:=Tryz.zeroValue108
 t75:=Tryz.underlying111
 a75:=Tryz.isAgg111
 z75:=Tryz.sizeOf111
 v75:=Tryz.zeroValue111
 t76:=Tryz.underlying112
 a76:=Tryz.isAgg112
 z76:=Tryz.sizeOf112
 v76:=Tryz.zeroValue112
 t109:=Tryz.underlying104
 a109:=Tryz.isAgg104
 z109:=Tryz.sizeOf104
 v109:=Tryz.zeroValue104
 t127:=Tryz.underlying130
 a127:=Tryz.isAgg130
 z127:=Tryz.sizeOf130
 v127:=Tryz.zeroValue130
 t146:=Tryz.underlying125
 a146:=Tryz.isAgg125
 z146:=Tryz.sizeOf125
 v146:=Tryz.zeroValue125
 t148:=Tryz.underlying128
 a148:=Tryz.isAgg128
 z148:=Tryz.sizeOf128
 v148:=Tryz.zeroValue128
 t164:=Tryz.underlying148
 a164:=Tryz.isAgg148
 z164:=Tryz.sizeOf148
 v164:=Tryz.zeroValue148 }
theorem qb:Builder.Extra Tryz.prog qb0:={
 sizeBuilder:=by kernel_rfl
 liesBuilder:=by kernel_rfl
 t5:=Tryz.underlying5
 a5:=Tryz.isAgg5
 z5:=Tryz.sizeOf5
 v5:=Tryz.zeroValue5
 infoByte:=by kernel_rfl
 cellsByte:=by kernel_rfl
 sizeByte:=by kernel_rfl
 neB5:=by decide }
theorem qa:Builder.Extra Tryz.prog qax:={
 sizeBuilder:=by kernel_rfl
 liesBuilder:=by kernel_rfl
 t5:=Tryz.underlying5
 a5:=Tryz.isAgg5
 z5:=Tryz.sizeOf5
 v5:=Tryz.zeroValue5
 infoByte:=by kernel_rfl
 cellsByte:=by kernel_rfl
 sizeByte:=by kernel_rfl
 neB5:=by decide }
end Go.Proofs.YtognhcibcocbkaaGreatDoor
namespace Go.Proofs.YtognhcibcocbkaaGreatDoor
open Go.RowKit
set_option maxRecDepth 100000
theorem disable (w:World):(callFunc 143 #[]).run Tryz.prog w=.ok (.value (.tuple #[])) w:=run_call_mark0 Tryz.func143 (by kernel_rfl) (by kernel_rfl) (by kernel_rfl) .disable (by kernel_rfl) w
theorem enable (w:World):(callFunc 145 #[]).run Tryz.prog w=.ok (.value (.tuple #[])) w:=run_call_mark0 Tryz.func145 (by kernel_rfl) (by kernel_rfl) (by kernel_rfl) .enable (by kernel_rfl) w
theorem acquire (a:Addr) (w:World):(callFunc 146 #[.pointer (some a)]).run Tryz.prog w=.ok (.value (.tuple #[])) w:=run_call_marked Tryz.func146 (by kernel_rfl) (by kernel_rfl) (by kernel_rfl) .acquire (by kernel_rfl) a w
theorem releaseMerge (a:Addr) (w:World):(callFunc 148 #[.pointer (some a)]).run Tryz.prog w=.ok (.value (.tuple #[])) w:=run_call_marked Tryz.func148 (by kernel_rfl) (by kernel_rfl) (by kernel_rfl) .releaseMerge (by kernel_rfl) a w
theorem qsp (a:Addr) (x:Value) (u:FrameMode) (w:World) (hc:w.cell? a=some x) (hz:w.frozen? a=false) :
  CallsD Tryz.prog 119 #[.pointer (some a),.bool true] u w fun e u' w'=>u'=u∧(e=.returned (.tuple #[])∧w'=w.drew.setCell a (.int .u32 1)):=by
 have hc':w.drew.cell? a=some x:=by go_simp
 have hz':w.drew.frozen? a=false:=by go_simp
 have hst:=run_call_store (P:=Tryz.prog) Tryz.func134 (by kernel_rfl) (by kernel_rfl) (by kernel_rfl) (by kernel_rfl) (k:=.u32) (y:=1) hc' hz'
 go_enter_d Tryz.func119,Tryz.ntmps119
 go_wp2
 go_region_calls
 all_goals (go_end0;exact ⟨rfl,rfl⟩)
theorem iunlock (a:Addr) (w:World) (hc:w.cell? a=some (.int .i32 1)) (hz:w.frozen? a=false) :
  Calls Tryz.prog 133 #[.pointer (some a)] w fun e w'=>e=.returned (.tuple #[])∧w'=w.setCell a (.int .i32 0):=by
 have hd:=disable
 have he:=enable
 have hr:=releaseMerge
 have hadd:=run_call_add (P:=Tryz.prog) Tryz.func149 (by kernel_rfl) (by kernel_rfl) (by kernel_rfl) .i32 (by kernel_rfl) (y:=-1) (s:=0) hc hz (by simp [go_sem];rfl)
 have hcv:=run_convert_to_unsafe (P:=Tryz.prog) (src:=205) (dst:=148) Tryz.underlying205 Tryz.underlying148 (by kernel_rfl) hc
 go_enter Tryz.func133,Tryz.ntmps133
 go_wp2
 go_end0
 go_wp2
 all_goals (go_end0;exact ⟨rfl,rfl⟩)
theorem qv4 (a:Addr) (u:FrameMode) (w:World) (hc:w.cell? a=some (.int .i32 1)) (hz:w.frozen? a=false) :
  CallsD Tryz.prog 118 #[.pointer (some a)] u w fun e u' w'=>u'=u∧(e=.returned (.tuple #[])∧w'=w.setCell a (.int .i32 0)):=by
 go_enter_d Tryz.func118,Tryz.ntmps118
 go_wp2_with (go_at_call 133;refine (iunlock a _ hc hz).mono ?_;rintro e w' ⟨rfl,rfl⟩)
 go_end0
 exact ⟨rfl,rfl⟩
theorem ilock (a:Addr) (w:World) (hc:w.cell? a=some (.int .i32 0)) (hz:w.frozen? a=false) :
  Calls Tryz.prog 132 #[.pointer (some a)] w fun e w'=>e=.returned (.tuple #[])∧w'=w.setCell a (.int .i32 1):=by
 have hd:=disable
 have he:=enable
 have ha:=acquire
 have hcas:=run_call_cas_hit (P:=Tryz.prog) Tryz.func144 (by kernel_rfl) (by kernel_rfl) (by kernel_rfl) .i32 (by kernel_rfl) (y:=1) hc hz
 have hc':(w.setCell a (.int .i32 1)).cell? a=some (.int .i32 1):=World.cell?_setCell_same w a _ hc
 have hcv:=run_convert_to_unsafe (P:=Tryz.prog) (src:=205) (dst:=148) Tryz.underlying205 Tryz.underlying148 (by kernel_rfl) hc'
 go_enter Tryz.func132,Tryz.ntmps132
 go_wp2
 first|go_end0|(simp only [Exit.inBlock,Exit.then];refine bodyPost_ret (results_none rfl _ _ _) rfl ?_)|refine bodyPost_ret (results_none rfl _ _ _) rfl ?_
 go_wp2
 all_goals (go_end0;exact ⟨rfl,rfl⟩)
theorem qbj (a:Addr) (w:World) (hc:w.cell? a=some (.int .i32 0)) (hz:w.frozen? a=false) :
  Calls Tryz.prog 117 #[.pointer (some a)] w fun e w'=>e=.returned (.tuple #[])∧w'=w.setCell a (.int .i32 1):=by
 go_enter Tryz.func117,Tryz.ntmps117
 go_wp2_with (go_at_call 132;refine (ilock a _ hc hz).mono ?_;rintro e w' ⟨rfl,rfl⟩)
 go_end0
 exact ⟨rfl,rfl⟩
set_option maxRecDepth 100000
theorem q1q:Tryz.zeroCells172.all (·.oneCell')=true:=by kernel_rfl
theorem qsq (w:World) (X:Obj) (g n c:Nat):(storeCells ⟨w.heap.size+1,0,none⟩ (Tryz.zeroCells172.toList.set 256 (.slice (some ⟨g,0,none⟩) n c))).run Tryz.prog ((w.alloc X).alloc (.cells Tryz.zeroCells172 172))=.ok () ((w.alloc X).alloc (.cells (Tryz.zeroCells172.setIfInBounds 256 (.slice (some ⟨g,0,none⟩) n c)) 172)):=by
 have h:=run_storeCells_new (P:=Tryz.prog) (w.alloc X) 172 Tryz.zeroCells172 (Tryz.zeroCells172.setIfInBounds 256 (.slice (some ⟨g,0,none⟩) n c)) (by rw [Array.size_setIfInBounds];kernel_rfl) (by simp) (by
  rw [Array.all_eq_true']
  intro x hx
  rcases Array.mem_or_eq_of_mem_setIfInBounds hx with h|h
  ·exact (Array.all_eq_true'.1 q1q) x h
  ·rw [h];rfl)
 rw [Array.toList_setIfInBounds] at h
 simpa using h
theorem qvy:Tryz.zeroCells172.size=257:=by kernel_rfl
theorem zc_at (v:Value) (j:Nat) (h:j<256):(Tryz.zeroCells172.setIfInBounds 256 v)[j]?=some (.slice none 0 0):=by
 rw [Array.getElem?_setIfInBounds_ne (by omega)]
 have:∀ j,j<256→Tryz.zeroCells172[j]?=some (.slice none 0 0):=by
  have h:((List.range 256).all fun j=>match Tryz.zeroCells172[j]? with|some (.slice none 0 0)=>true|_=>false)=true:=by kernel_rfl
  intro j hj
  have:=List.all_eq_true.1 h j (List.mem_range.2 hj)
  split at this
  ·assumption
  ·cases this
 exact this j h
theorem qvx (w:World) (X:Obj) (v:Value) (j:Nat) (h:j<256):((w.alloc X).alloc (.cells (Tryz.zeroCells172.setIfInBounds 256 v) 172)).cell? ⟨w.heap.size+1,j,none⟩=some (.slice none 0 0):=by
 have:(w.alloc X).heap.size=w.heap.size+1:=by simp
 have h2:=World.cell?_alloc_new (w.alloc X) (Tryz.zeroCells172.setIfInBounds 256 v) 172 j
 rw [this] at h2
 rw [h2,zc_at v j h]
theorem q4q (W:World) (q:Nat) (b:UInt8) (hc:W.cell? ⟨q,0,none⟩=some (.int .u8 b.toNat)):(convert 87 9 (.slice (some ⟨q,0,none⟩) 1 1)).run Tryz.prog W=.ok (.string ⟨#[b]⟩) W :=
 run_convert_bytes_back W 87 9 5 ⟨q,0,none⟩ 1 [b] Tryz.underlying87 Tryz.underlying5 Tryz.underlying9 (fun j hj=>by
  have:j=0:=by simpa using hj
  subst this
  exact hc)
theorem q4r {W:World} {s:ByteArray} {A:Result Value→Prop} (h:∀ cap,A (.ok (.slice (some ⟨W.heap.size,0,none⟩) s.size cap) (W.drew.alloc (.cells (bytesRow s cap) 5 ((bytesRow s cap).size,(bytesRow s cap).size+1))))):A ((convert 9 87 (.string s)).run Tryz.prog W):=by
 rw [run_bytes_of_string (P:=Tryz.prog) W 9 87 5 s Tryz.underlying9 Tryz.underlying87 Tryz.underlying5]
 exact h _
theorem old5 (w:World) (A B C D E:Obj) (g j:Nat) (hg:g<w.heap.size):(((((w.alloc A).alloc B).alloc C).alloc D).alloc E).drew.cell? ⟨g,j,none⟩=w.cell? ⟨g,j,none⟩:=by
 rw [World.cell?_drew]
 have h1:∀ (w:World) (X:Obj),g<w.heap.size→(w.alloc X).cell? ⟨g,j,none⟩=w.cell? ⟨g,j,none⟩∧g<(w.alloc X).heap.size:=fun w X h=>⟨World.cell?_alloc_past _ _ _ h,by simp;omega⟩
 obtain ⟨a1,b1⟩:=h1 w A hg
 obtain ⟨a2,b2⟩:=h1 _ B b1
 obtain ⟨a3,b3⟩:=h1 _ C b2
 obtain ⟨a4,b4⟩:=h1 _ D b3
 obtain ⟨a5,b5⟩:=h1 _ E b4
 rw [a5,a4,a3,a2,a1]
theorem zc5 (w:World) (A C D E:Obj) (v1 v2:Value):(((((w.alloc A).alloc (.cells ((Tryz.zeroCells172.setIfInBounds 256 v1).setIfInBounds 34 v2) 172)).alloc C).alloc D).alloc E).drew.cell? ⟨w.heap.size+1,92,none⟩=some (.slice none 0 0):=by
 rw [World.cell?_drew]
 have hs:(w.alloc A).heap.size=w.heap.size+1:=by simp
 have h0:((w.alloc A).alloc (.cells ((Tryz.zeroCells172.setIfInBounds 256 v1).setIfInBounds 34 v2) 172)).cell? ⟨w.heap.size+1,92,none⟩=some (.slice none 0 0):=by
  have h2:=World.cell?_alloc_new (w.alloc A) ((Tryz.zeroCells172.setIfInBounds 256 v1).setIfInBounds 34 v2) 172 92
  rw [hs] at h2
  rw [h2,Array.getElem?_setIfInBounds_ne (by omega),zc_at v1 92 (by decide)]
 have h1:∀ (W:World) (X:Obj),w.heap.size+1<W.heap.size→(W.alloc X).cell? ⟨w.heap.size+1,92,none⟩=W.cell? ⟨w.heap.size+1,92,none⟩∧w.heap.size+1<(W.alloc X).heap.size:=fun W X h=>⟨World.cell?_alloc_past _ _ _ h,by simp;omega⟩
 obtain ⟨a3,b3⟩:=h1 ((w.alloc A).alloc (.cells ((Tryz.zeroCells172.setIfInBounds 256 v1).setIfInBounds 34 v2) 172)) C (by simp)
 obtain ⟨a4,b4⟩:=h1 _ D b3
 obtain ⟨a5,b5⟩:=h1 _ E b4
 rw [a5,a4,a3,h0]
structure Rpl (lo:Nat) (w:World) (N q r1 r2 c1 c2:Nat):Prop where
 lN:lo≤N
 lq:lo≤q
 l1:lo≤r1
 l2:lo≤r2
 all:w.cell? ⟨N,256,none⟩=some (.slice (some ⟨q,0,none⟩) 2 2)
 q0:w.cell? ⟨q,0,none⟩=some (.string ⟨#[34]⟩)
 q1:w.cell? ⟨q,1,none⟩=some (.string ⟨#[92]⟩)
 no:∀ j,j<256→j≠34→j≠92→w.cell? ⟨N,j,none⟩=some (.slice none 0 0)
 s34:w.cell? ⟨N,34,none⟩=some (.slice (some ⟨r1,0,none⟩) 2 c1)
 s92:w.cell? ⟨N,92,none⟩=some (.slice (some ⟨r2,0,none⟩) 2 c2)
 a0:w.cell? ⟨r1,0,none⟩=some (.int .u8 92)
 a1:w.cell? ⟨r1,1,none⟩=some (.int .u8 34)
 b0:w.cell? ⟨r2,0,none⟩=some (.int .u8 92)
 b1:w.cell? ⟨r2,1,none⟩=some (.int .u8 92)
theorem heap8 (w:World) (A B C D E F G H:Obj) :
  ((((((((((w.alloc A).alloc B).alloc C).alloc D).alloc E).alloc F).alloc G).alloc H).drew).drew).heap[w.heap.size]?=some A ∧
  ((((((((((w.alloc A).alloc B).alloc C).alloc D).alloc E).alloc F).alloc G).alloc H).drew).drew).heap[w.heap.size+1]?=some B ∧
  ((((((((((w.alloc A).alloc B).alloc C).alloc D).alloc E).alloc F).alloc G).alloc H).drew).drew).heap[w.heap.size+1+1+1+1]?=some E ∧
  ((((((((((w.alloc A).alloc B).alloc C).alloc D).alloc E).alloc F).alloc G).alloc H).drew).drew).heap[w.heap.size+1+1+1+1+1+1+1]?=some H:=by
 have hd:∀ W:World,W.drew.heap=W.heap:=fun _=>rfl
 have hn:∀ (W:World) (X:Obj),(W.alloc X).heap[W.heap.size]?=some X:=fun W X=>by
  show (W.heap.push X)[W.heap.size]?=_
  simp
 have hs:∀ (W:World) (X:Obj),(W.alloc X).heap.size=W.heap.size+1:=fun W X=>by
  show (W.heap.push X).size=_
  simp
 have ho:∀ (W:World) (X:Obj) k,k<W.heap.size→(W.alloc X).heap[k]?=W.heap[k]?:=fun W X k h=>Below.heap_alloc W X k h
 simp only [hd]
 refine ⟨?_,?_,?_,?_⟩
 ·rw [ho _ _ _ (by simp only [hs];omega),ho _ _ _ (by simp only [hs];omega),ho _ _ _ (by simp only [hs];omega),ho _ _ _ (by simp only [hs];omega),ho _ _ _ (by simp only [hs];omega),ho _ _ _ (by simp only [hs];omega),ho _ _ _ (by simp only [hs];omega),hn]
 ·rw [ho _ _ _ (by simp only [hs];omega),ho _ _ _ (by simp only [hs];omega),ho _ _ _ (by simp only [hs];omega),ho _ _ _ (by simp only [hs];omega),ho _ _ _ (by simp only [hs];omega),ho _ _ _ (by simp only [hs];omega),←hs w A,hn]
 ·rw [ho _ _ _ (by simp only [hs];omega),ho _ _ _ (by simp only [hs];omega),ho _ _ _ (by simp only [hs];omega),←hs w A,←hs (w.alloc A) B,←hs _ C,←hs _ D,hn]
 ·rw [←hs w A,←hs (w.alloc A) B,←hs _ C,←hs _ D,←hs _ E,←hs _ F,←hs _ G,hn]
theorem row2 (s:ByteArray) (c:Nat) (j:Nat) (h:j<s.size):(bytesRow s c)[j]?=some (.int .u8 (s.data.getD j 0).toNat):=by
 have h':j<s.data.size:=h
 unfold bytesRow
 rw [Array.getElem?_append_left (by simpa using h')]
 rw [Array.getElem?_map,Array.getElem?_eq_getElem h',Array.getD,dif_pos h']
 rfl
theorem rpl8 (w:World) (cap1 cap2:Nat) (C D F G:Obj) (m1 m2:Nat×Nat):Rpl w.heap.size ((((((((((w.alloc (.cells #[.string ⟨#[34]⟩,.string ⟨#[92]⟩] 9)).alloc (.cells ((((Tryz.zeroCells172.setIfInBounds 256 (.slice (some ⟨w.heap.size,0,none⟩) 2 2)).setIfInBounds 34 (.slice (some ⟨w.heap.size+1+1+1+1,0,none⟩) 2 cap1)).setIfInBounds 92 (.slice (some ⟨w.heap.size+1+1+1+1+1+1+1,0,none⟩) 2 cap2))) 172)).alloc C).alloc D).alloc (.cells (bytesRow ⟨#[92,34]⟩ cap1) 5 m1)).alloc F).alloc G).alloc (.cells (bytesRow ⟨#[92,92]⟩ cap2) 5 m2)).drew).drew) (w.heap.size+1) w.heap.size (w.heap.size+1+1+1+1) (w.heap.size+1+1+1+1+1+1+1) cap1 cap2:=by
 obtain ⟨h1,h2,h5,h8⟩:=heap8 w (.cells #[.string ⟨#[34]⟩,.string ⟨#[92]⟩] 9) (.cells ((((Tryz.zeroCells172.setIfInBounds 256 (.slice (some ⟨w.heap.size,0,none⟩) 2 2)).setIfInBounds 34 (.slice (some ⟨w.heap.size+1+1+1+1,0,none⟩) 2 cap1)).setIfInBounds 92 (.slice (some ⟨w.heap.size+1+1+1+1+1+1+1,0,none⟩) 2 cap2))) 172) C D (.cells (bytesRow ⟨#[92,34]⟩ cap1) 5 m1) F G (.cells (bytesRow ⟨#[92,92]⟩ cap2) 5 m2)
 have hz:=qvy
 refine ⟨by omega,by omega,by omega,by omega,?_,?_,?_,fun j h a b=>?_,?_,?_,?_,?_,?_,?_⟩
 ·simp only [World.cell?,h2]
  rw [Array.getElem?_setIfInBounds_ne (by omega),Array.getElem?_setIfInBounds_ne (by omega),Array.getElem?_setIfInBounds_self_of_lt (by omega)]
  rfl
 ·simp only [World.cell?,h1];rfl
 ·simp only [World.cell?,h1];rfl
 ·simp only [World.cell?,h2]
  rw [Array.getElem?_setIfInBounds_ne (by omega),Array.getElem?_setIfInBounds_ne (by omega)]
  exact zc_at _ j h
 ·simp only [World.cell?,h2]
  rw [Array.getElem?_setIfInBounds_ne (by omega),Array.getElem?_setIfInBounds_self_of_lt (by simp only [Array.size_setIfInBounds];omega)]
  rfl
 ·simp only [World.cell?,h2]
  rw [Array.getElem?_setIfInBounds_self_of_lt (by simp only [Array.size_setIfInBounds];omega)]
  rfl
 ·simp only [World.cell?,h5];exact row2 _ _ 0 (by decide)
 ·simp only [World.cell?,h5];exact row2 _ _ 1 (by decide)
 ·simp only [World.cell?,h8];exact row2 _ _ 0 (by decide)
 ·simp only [World.cell?,h8];exact row2 _ _ 1 (by decide)
set_option maxHeartbeats 4000000 in
theorem q3s (b g c:Nat) (hc:4≤c) (w:World) (h4:w.cell? ⟨b,4,none⟩=some (.slice (some ⟨g,0,none⟩) 4 c)) (hc0:w.cell? ⟨g,0,none⟩=some (.string ⟨#[92]⟩)) (hc1:w.cell? ⟨g,1,none⟩=some (.string ⟨#[92,92]⟩)) (hc2:w.cell? ⟨g,2,none⟩=some (.string ⟨#[34]⟩)) (hc3:w.cell? ⟨g,3,none⟩=some (.string ⟨#[92,34]⟩)) :
  Calls Tryz.prog 109 #[.pointer (some ⟨b,0,none⟩)] w fun e w'=>∃ N q r1 r2 c1 c2,e=.returned (.iface 173 (.pointer (some ⟨N,0,none⟩)))∧Rpl w.heap.size w' N q r1 r2 c1 c2∧Below w.heap.size w w':=by
 have hmk:∀ w:World,(Instr.makeSlice 66 (.int .i64 0) (.int .i64 2)).run Tryz.prog w=.ok (.slice (some ⟨w.heap.size,0,none⟩) 0 2) (w.alloc (.cells #[.string ⟨#[]⟩,.string ⟨#[]⟩] 9)):=fun _=>by kernel_rfl
 have hst:=qsq
 have hnil:=fun (w:World) a l c=>Lib.run_eql_slice_nil (P:=Tryz.prog) w 87 5 a l c 0 0 Tryz.underlying87
 have e34:∀ h,(((⟨#[34]⟩:ByteArray)[0]'h).toNat:Int)=34:=fun _=>rfl
 have e92:∀ h,(((⟨#[92]⟩:ByteArray)[0]'h).toNat:Int)=92:=fun _=>rfl
 have hz34:=fun X v=>qvx w X v 34 (by decide)
 have hg:=Lib.lt_of_cell hc0
 have hO0:=fun A B C D E=>(old5 w A B C D E g 0 hg).trans hc0
 have hO1:=fun A B C D E=>(old5 w A B C D E g 1 hg).trans hc1
 have hO92:=zc5 w
 go_enter Tryz.func109,Tryz.ntmps109
 go_wp2
 refine wp_loop_rounds 3 ?_
 rw [rounds_succ]
 go_wp2
 rw [rounds_succ]
 go_wp2
 rw [rounds_succ]
 go_wp2
 refine wp_loop_rounds 3 ?_
 rw [rounds_succ]
 go_wp2
 rw [q4q _ _ 34 (by go_simp)]
 go_wp2
 refine q4r (A:=fun R=>Oper.upon _ _ _ _ _ (R.andThen _)) fun cap1=>?_
 go_wp2
 rw [rounds_succ]
 go_wp2
 rw [q4q _ _ 92 (by go_simp)]
 go_wp2
 refine q4r (A:=fun R=>Oper.upon _ _ _ _ _ (R.andThen _)) fun cap2=>?_
 go_wp2
 rw [rounds_succ]
 go_wp2
 go_ret
 have hb:∀ (W:World) (X:Obj),Below w.heap.size w W→Below w.heap.size w (W.alloc X):=fun W X h=>h.alloc h.size X
 exact ⟨_,_,_,_,_,_,rfl,rpl8 w cap1 cap2 _ _ _ _ _ _,(hb _ _ (hb _ _ (hb _ _ (hb _ _ (hb _ _ (hb _ _ (hb _ _ (hb _ _ (Below.refl _ w))))))))).drew.drew⟩
end Go.Proofs.YtognhcibcocbkaaGreatDoor
