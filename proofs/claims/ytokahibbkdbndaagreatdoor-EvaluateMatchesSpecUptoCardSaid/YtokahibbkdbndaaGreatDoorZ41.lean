/- Contracts of the kit, laid at this program (written by the tool lay-plain and a program of ours): texts, numbers, the builder. -/
import Derived.Shelf.Strings.Builder1
import Derived.Shelf.Small.Utf8
import Derived.Shelf.Small.Strs
import Derived.Shelf.Strings.BuilderF
import Derived.Shelf.Strconv.Itoa0
import Derived.Shelf.Strconv.Itoa1
import Derived.Shelf.LaysM
import Derived.Shelf.Strconv.Itoa2
import Derived.Shelf.Strconv.Itoa3
import Derived.Shelf.Strings.Search1
import Derived.Shelf.Strings.Search2
import Derived.Shelf.Strings.Search3
import Derived.Shelf.Strings.Cut
import Derived.Shelf.Strings.Shaped
import Derived.Shelf.Strings.Prefix
import Derived.Shelf.Strings.Runes
import Derived.Shelf.Strings.IndexAny
import Derived.Shelf.Strings.AsciiSet
import Derived.Shelf.Strings.IndexAnyAll
import Derived.Test.YtokahibbkdbndaaGreatDoorZ01
import Derived.Test.YtokahibbkdbndaaGreatDoorChecked
import Derived.WalkKit
import Derived.Deep.QuietTactic
import Derived.BigQuiet
import Derived.WalkMore
import Derived.Test.YtokahibbkdbndaaGreatDoorGB
import Derived.Deep.LoopGhost
import Derived.Lib.SlMapFilter
namespace Go.Proofs.YtokahibbkdbndaaGreatDoor
open Go.Shelf
set_option maxRecDepth 100000
def qru:Go.Shelf.Ren:=⟨fun|144=>143|143=>163|219=>158|217=>139|225=>168|224=>169|267=>170|266=>160|314=>176|n=>n,fun|9=>9|4=>4|3=>3|5=>5|46=>197|146=>205|51=>204|n=>n,fun|1=>0|n=>n⟩
theorem lays144:Go.Proofs.Lays.n144 Tryz.prog qru:={
 mixed:=by kernel_rfl
 f143:=Tryz.func163.trans (congrArg some (by kernel_rfl))
 f144:=Tryz.func143.trans (congrArg some (by kernel_rfl))
 f217:=Tryz.func139.trans (congrArg some (by kernel_rfl))
 f219:=Tryz.func158.trans (congrArg some (by kernel_rfl))
 f224:=Tryz.func169.trans (congrArg some (by kernel_rfl))
 f225:=Tryz.func168.trans (congrArg some (by kernel_rfl))
 f266:=Tryz.func160.trans (congrArg some (by kernel_rfl))
 f267:=Tryz.func170.trans (congrArg some (by kernel_rfl))
 f314:=Tryz.func176.trans (congrArg some (by kernel_rfl))
 t3:=Tryz.underlying3
 a3:=Tryz.isAgg3
 z3:=Tryz.sizeOf3
 v3:=Tryz.zeroValue3
 t4:=Tryz.underlying4
 a4:=Tryz.isAgg4
 z4:=Tryz.sizeOf4
 v4:=Tryz.zeroValue4
 t5:=Tryz.underlying5
 a5:=Tryz.isAgg5
 z5:=Tryz.sizeOf5
 v5:=Tryz.zeroValue5
 t9:=Tryz.underlying9
 a9:=Tryz.isAgg9
 z9:=Tryz.sizeOf9
 v9:=Tryz.zeroValue9
 t46:=Tryz.underlying197
 a46:=Tryz.isAgg197
 z46:=Tryz.sizeOf197
 v46:=Tryz.zeroValue197
 t51:=Tryz.underlying204
 a51:=Tryz.isAgg204
 z51:=Tryz.sizeOf204
 v51:=Tryz.zeroValue204
 t146:=Tryz.underlying205
 a146:=Tryz.isAgg205
 z146:=Tryz.sizeOf205
 v146:=Tryz.zeroValue205
 g1:=by kernel_rfl }
def qs0:Go.Shelf.Ren:=⟨fun|144=>143|143=>163|219=>158|217=>139|225=>168|224=>169|267=>170|266=>160|314=>176|n=>n,fun|9=>9|4=>4|3=>3|5=>5|46=>197|146=>205|51=>204|n=>n,fun|1=>0|n=>n⟩
theorem laysM144:Go.Proofs.LaysM.n144 Tryz.prog qs0:={
 mixed:=by kernel_rfl
 f143:=Tryz.func163.trans (congrArg some (by kernel_rfl))
 f144:=Tryz.func143.trans (congrArg some (by kernel_rfl))
 f217:=Tryz.func139.trans (congrArg some (by kernel_rfl))
 f219:=Tryz.func158.trans (congrArg some (by kernel_rfl))
 f224:=Tryz.func169.trans (congrArg some (by kernel_rfl))
 f225:=Tryz.func168.trans (congrArg some (by kernel_rfl))
 f266:=Tryz.func160.trans (congrArg some (by kernel_rfl))
 f267:=Tryz.func170.trans (congrArg some (by kernel_rfl))
 f314:=Tryz.func176.trans (congrArg some (by kernel_rfl))
 t3:=Tryz.underlying3
 a3:=Tryz.isAgg3
 z3:=Tryz.sizeOf3
 v3:=Tryz.zeroValue3
 t4:=Tryz.underlying4
 a4:=Tryz.isAgg4
 z4:=Tryz.sizeOf4
 v4:=Tryz.zeroValue4
 t5:=Tryz.underlying5
 a5:=Tryz.isAgg5
 z5:=Tryz.sizeOf5
 v5:=Tryz.zeroValue5
 t9:=Tryz.underlying9
 a9:=Tryz.isAgg9
 z9:=Tryz.sizeOf9
 v9:=Tryz.zeroValue9
 t46:=Tryz.underlying197
 a46:=Tryz.isAgg197
 z46:=Tryz.sizeOf197
 v46:=Tryz.zeroValue197
 t51:=Tryz.underlying204
 a51:=Tryz.isAgg204
 z51:=Tryz.sizeOf204
 v51:=Tryz.zeroValue204
 t146:=Tryz.underlying205
 a146:=Tryz.isAgg205
 z146:=Tryz.sizeOf205
 v146:=Tryz.zeroValue205
 g1:=by kernel_rfl
 i3:=by kernel_rfl
 i4:=by kernel_rfl
 i5:=by kernel_rfl
 i9:=by kernel_rfl
 i46:=by kernel_rfl
 i51:=by kernel_rfl
 i146:=by kernel_rfl
 m1:=by kernel_rfl
 s1_3:=fun w h=>Go.Proofs.cell_of_shapedOpen_int (zero:=#[.int .i64 0]) (t:=3) h (of_decide_eq_true (by kernel_rfl)) (by kernel_rfl) rfl (by kernel_rfl) (by kernel_rfl) Tryz.underlying3 }
def qrv:Go.Shelf.Ren:=⟨fun|145=>105|220=>136|219=>158|217=>139|225=>168|224=>169|267=>170|266=>160|314=>176|n=>n,fun|9=>9|4=>4|59=>136|3=>3|5=>5|46=>197|146=>205|51=>204|n=>n,fun|1=>0|n=>n⟩
theorem lays145:Go.Proofs.Lays.n145 Tryz.prog qrv:={
 mixed:=by kernel_rfl
 f145:=Tryz.func105.trans (congrArg some (by kernel_rfl))
 f217:=Tryz.func139.trans (congrArg some (by kernel_rfl))
 f219:=Tryz.func158.trans (congrArg some (by kernel_rfl))
 f220:=Tryz.func136.trans (congrArg some (by kernel_rfl))
 f224:=Tryz.func169.trans (congrArg some (by kernel_rfl))
 f225:=Tryz.func168.trans (congrArg some (by kernel_rfl))
 f266:=Tryz.func160.trans (congrArg some (by kernel_rfl))
 f267:=Tryz.func170.trans (congrArg some (by kernel_rfl))
 f314:=Tryz.func176.trans (congrArg some (by kernel_rfl))
 t3:=Tryz.underlying3
 a3:=Tryz.isAgg3
 z3:=Tryz.sizeOf3
 v3:=Tryz.zeroValue3
 t4:=Tryz.underlying4
 a4:=Tryz.isAgg4
 z4:=Tryz.sizeOf4
 v4:=Tryz.zeroValue4
 t5:=Tryz.underlying5
 a5:=Tryz.isAgg5
 z5:=Tryz.sizeOf5
 v5:=Tryz.zeroValue5
 t9:=Tryz.underlying9
 a9:=Tryz.isAgg9
 z9:=Tryz.sizeOf9
 v9:=Tryz.zeroValue9
 t46:=Tryz.underlying197
 a46:=Tryz.isAgg197
 z46:=Tryz.sizeOf197
 v46:=Tryz.zeroValue197
 t51:=Tryz.underlying204
 a51:=Tryz.isAgg204
 z51:=Tryz.sizeOf204
 v51:=Tryz.zeroValue204
 t59:=Tryz.underlying136
 a59:=Tryz.isAgg136
 z59:=Tryz.sizeOf136
 v59:=Tryz.zeroValue136
 t146:=Tryz.underlying205
 a146:=Tryz.isAgg205
 z146:=Tryz.sizeOf205
 v146:=Tryz.zeroValue205
 g1:=by kernel_rfl }
def qrt:Go.Shelf.Ren:=⟨fun|137=>112|217=>139|266=>160|n=>n,fun|9=>9|5=>5|3=>3|n=>n,fun|n=>n⟩
theorem lays137:Go.Proofs.Lays.n137 Tryz.prog qrt:={
 mixed:=by kernel_rfl
 f137:=Tryz.func112.trans (congrArg some (by kernel_rfl))
 f217:=Tryz.func139.trans (congrArg some (by kernel_rfl))
 f266:=Tryz.func160.trans (congrArg some (by kernel_rfl))
 t3:=Tryz.underlying3
 a3:=Tryz.isAgg3
 z3:=Tryz.sizeOf3
 v3:=Tryz.zeroValue3
 t5:=Tryz.underlying5
 a5:=Tryz.isAgg5
 z5:=Tryz.sizeOf5
 v5:=Tryz.zeroValue5
 t9:=Tryz.underlying9
 a9:=Tryz.isAgg9
 z9:=Tryz.sizeOf9
 v9:=Tryz.zeroValue9 }
def qrs:Go.Shelf.Ren:=⟨fun|119=>186|n=>n,fun|21=>21|4=>4|n=>n,fun|n=>n⟩
theorem lays119:Go.Proofs.Lays.n119 Tryz.prog qrs:={
 mixed:=by kernel_rfl
 f119:=Tryz.func186.trans (congrArg some (by kernel_rfl))
 t4:=Tryz.underlying4
 a4:=Tryz.isAgg4
 z4:=Tryz.sizeOf4
 v4:=Tryz.zeroValue4
 t21:=Tryz.underlying21
 a21:=Tryz.isAgg21
 z21:=Tryz.sizeOf21
 v21:=Tryz.zeroValue21 }
def qrw:Go.Shelf.Ren:=⟨fun|152=>177|137=>112|119=>186|224=>169|225=>168|217=>139|266=>160|n=>n,fun|9=>9|21=>21|3=>3|4=>4|5=>5|0=>0|46=>197|n=>n,fun|n=>n⟩
theorem lays152:Go.Proofs.Lays.n152 Tryz.prog qrw:={
 mixed:=by kernel_rfl
 f119:=Tryz.func186.trans (congrArg some (by kernel_rfl))
 f137:=Tryz.func112.trans (congrArg some (by kernel_rfl))
 f152:=Tryz.func177.trans (congrArg some (by kernel_rfl))
 f217:=Tryz.func139.trans (congrArg some (by kernel_rfl))
 f224:=Tryz.func169.trans (congrArg some (by kernel_rfl))
 f225:=Tryz.func168.trans (congrArg some (by kernel_rfl))
 f266:=Tryz.func160.trans (congrArg some (by kernel_rfl))
 t0:=Tryz.underlying0
 a0:=Tryz.isAgg0
 z0:=Tryz.sizeOf0
 v0:=Tryz.zeroValue0
 t3:=Tryz.underlying3
 a3:=Tryz.isAgg3
 z3:=Tryz.sizeOf3
 v3:=Tryz.zeroValue3
 t4:=Tryz.underlying4
 a4:=Tryz.isAgg4
 z4:=Tryz.sizeOf4
 v4:=Tryz.zeroValue4
 t5:=Tryz.underlying5
 a5:=Tryz.isAgg5
 z5:=Tryz.sizeOf5
 v5:=Tryz.zeroValue5
 t9:=Tryz.underlying9
 a9:=Tryz.isAgg9
 z9:=Tryz.sizeOf9
 v9:=Tryz.zeroValue9
 t21:=Tryz.underlying21
 a21:=Tryz.isAgg21
 z21:=Tryz.sizeOf21
 v21:=Tryz.zeroValue21
 t46:=Tryz.underlying197
 a46:=Tryz.isAgg197
 z46:=Tryz.sizeOf197
 v46:=Tryz.zeroValue197 }
def qrx:Go.Shelf.Ren:=⟨fun|153=>171|152=>177|226=>178|227=>179|228=>180|137=>112|119=>186|224=>169|225=>168|217=>139|266=>160|n=>n,fun|9=>9|3=>3|4=>4|5=>5|21=>21|117=>210|116=>209|0=>0|46=>197|124=>217|n=>n,fun|n=>n⟩
theorem lays153:Go.Proofs.Lays.n153 Tryz.prog qrx:={
 mixed:=by kernel_rfl
 f119:=Tryz.func186.trans (congrArg some (by kernel_rfl))
 f137:=Tryz.func112.trans (congrArg some (by kernel_rfl))
 f152:=Tryz.func177.trans (congrArg some (by kernel_rfl))
 f153:=Tryz.func171.trans (congrArg some (by kernel_rfl))
 f217:=Tryz.func139.trans (congrArg some (by kernel_rfl))
 f224:=Tryz.func169.trans (congrArg some (by kernel_rfl))
 f225:=Tryz.func168.trans (congrArg some (by kernel_rfl))
 f226:=Tryz.func178.trans (congrArg some (by kernel_rfl))
 f227:=Tryz.func179.trans (congrArg some (by kernel_rfl))
 f228:=Tryz.func180.trans (congrArg some (by kernel_rfl))
 f266:=Tryz.func160.trans (congrArg some (by kernel_rfl))
 t0:=Tryz.underlying0
 a0:=Tryz.isAgg0
 z0:=Tryz.sizeOf0
 v0:=Tryz.zeroValue0
 t3:=Tryz.underlying3
 a3:=Tryz.isAgg3
 z3:=Tryz.sizeOf3
 v3:=Tryz.zeroValue3
 t4:=Tryz.underlying4
 a4:=Tryz.isAgg4
 z4:=Tryz.sizeOf4
 v4:=Tryz.zeroValue4
 t5:=Tryz.underlying5
 a5:=Tryz.isAgg5
 z5:=Tryz.sizeOf5
 v5:=Tryz.zeroValue5
 t9:=Tryz.underlying9
 a9:=Tryz.isAgg9
 z9:=Tryz.sizeOf9
 v9:=Tryz.zeroValue9
 t21:=Tryz.underlying21
 a21:=Tryz.isAgg21
 z21:=Tryz.sizeOf21
 v21:=Tryz.zeroValue21
 t46:=Tryz.underlying197
 a46:=Tryz.isAgg197
 z46:=Tryz.sizeOf197
 v46:=Tryz.zeroValue197
 t116:=Tryz.underlying209
 a116:=Tryz.isAgg209
 z116:=Tryz.sizeOf209
 t117:=Tryz.underlying210
 a117:=Tryz.isAgg210
 z117:=Tryz.sizeOf210
 v117:=Tryz.zeroValue210
 t124:=Tryz.underlying217
 a124:=Tryz.isAgg217
 z124:=Tryz.sizeOf217
 v124:=Tryz.zeroValue217 }
def qs1:Go.Shelf.Ren:=⟨fun|171=>134|243=>156|246=>166|283=>172|284=>173|285=>174|286=>175|129=>182|317=>181|318=>183|319=>184|320=>185|337=>187|338=>188|n=>n,fun|3=>3|9=>9|2=>2|4=>4|171=>198|0=>0|53=>199|37=>27|5=>5|173=>202|212=>213|51=>204|20=>20|213=>214|46=>197|232=>219|233=>220|n=>n,fun|17=>1|18=>2|19=>3|n=>n⟩
theorem laysM171:Go.Proofs.LaysM.n171 Tryz.prog qs1:={
 mixed:=by kernel_rfl
 f129:=Tryz.func182.trans (congrArg some (by kernel_rfl))
 f171:=Tryz.func134.trans (congrArg some (by kernel_rfl))
 f243:=Tryz.func156.trans (congrArg some (by kernel_rfl))
 f246:=Tryz.func166.trans (congrArg some (by kernel_rfl))
 f283:=Tryz.func172.trans (congrArg some (by kernel_rfl))
 f284:=Tryz.func173.trans (congrArg some (by kernel_rfl))
 f285:=Tryz.func174.trans (congrArg some (by kernel_rfl))
 f286:=Tryz.func175.trans (congrArg some (by kernel_rfl))
 f317:=Tryz.func181.trans (congrArg some (by kernel_rfl))
 f318:=Tryz.func183.trans (congrArg some (by kernel_rfl))
 f319:=Tryz.func184.trans (congrArg some (by kernel_rfl))
 f320:=Tryz.func185.trans (congrArg some (by kernel_rfl))
 f337:=Tryz.func187.trans (congrArg some (by kernel_rfl))
 f338:=Tryz.func188.trans (congrArg some (by kernel_rfl))
 t0:=Tryz.underlying0
 a0:=Tryz.isAgg0
 z0:=Tryz.sizeOf0
 v0:=Tryz.zeroValue0
 t2:=Tryz.underlying2
 a2:=Tryz.isAgg2
 z2:=Tryz.sizeOf2
 v2:=Tryz.zeroValue2
 t3:=Tryz.underlying3
 a3:=Tryz.isAgg3
 z3:=Tryz.sizeOf3
 v3:=Tryz.zeroValue3
 t4:=Tryz.underlying4
 a4:=Tryz.isAgg4
 z4:=Tryz.sizeOf4
 v4:=Tryz.zeroValue4
 t5:=Tryz.underlying5
 a5:=Tryz.isAgg5
 z5:=Tryz.sizeOf5
 v5:=Tryz.zeroValue5
 t9:=Tryz.underlying9
 a9:=Tryz.isAgg9
 z9:=Tryz.sizeOf9
 v9:=Tryz.zeroValue9
 t20:=Tryz.underlying20
 a20:=Tryz.isAgg20
 z20:=Tryz.sizeOf20
 v20:=Tryz.zeroValue20
 t37:=Tryz.underlying27
 a37:=Tryz.isAgg27
 z37:=Tryz.sizeOf27
 v37:=Tryz.zeroValue27
 t46:=Tryz.underlying197
 a46:=Tryz.isAgg197
 z46:=Tryz.sizeOf197
 v46:=Tryz.zeroValue197
 t51:=Tryz.underlying204
 a51:=Tryz.isAgg204
 z51:=Tryz.sizeOf204
 v51:=Tryz.zeroValue204
 t53:=Tryz.underlying199
 a53:=Tryz.isAgg199
 z53:=Tryz.sizeOf199
 v53:=Tryz.zeroValue199
 t171:=Tryz.underlying198
 a171:=Tryz.isAgg198
 z171:=Tryz.sizeOf198
 v171:=Tryz.zeroValue198
 t173:=Tryz.underlying202
 a173:=Tryz.isAgg202
 z173:=Tryz.sizeOf202
 v173:=Tryz.zeroValue202
 t212:=Tryz.underlying213
 a212:=Tryz.isAgg213
 z212:=Tryz.sizeOf213
 v212:=Tryz.zeroValue213
 t213:=Tryz.underlying214
 a213:=Tryz.isAgg214
 z213:=Tryz.sizeOf214
 t232:=Tryz.underlying219
 a232:=Tryz.isAgg219
 z232:=Tryz.sizeOf219
 v232:=Tryz.zeroValue219
 t233:=Tryz.underlying220
 a233:=Tryz.isAgg220
 z233:=Tryz.sizeOf220
 v233:=Tryz.zeroValue220
 g17:=by kernel_rfl
 g18:=by kernel_rfl
 g19:=by kernel_rfl
 i0:=by kernel_rfl
 i2:=by kernel_rfl
 i3:=by kernel_rfl
 i4:=by kernel_rfl
 i5:=by kernel_rfl
 i9:=by kernel_rfl
 i20:=by kernel_rfl
 i37:=by kernel_rfl
 i46:=by kernel_rfl
 i51:=by kernel_rfl
 i53:=by kernel_rfl
 i171:=by kernel_rfl
 i173:=by kernel_rfl
 i212:=by kernel_rfl
 i232:=by kernel_rfl
 i233:=by kernel_rfl
 m17:=by kernel_rfl
 m18:=by kernel_rfl
 m19:=by kernel_rfl }
def qrz:Go.Shelf.Ren:=⟨fun|169=>107|n=>n,fun|70=>155|9=>9|0=>0|72=>157|37=>27|127=>178|3=>3|5=>5|n=>n,fun|n=>n⟩
theorem lays169:Go.Proofs.Lays.n169 Tryz.prog qrz:={
 mixed:=by kernel_rfl
 f169:=Tryz.func107.trans (congrArg some (by kernel_rfl))
 t0:=Tryz.underlying0
 a0:=Tryz.isAgg0
 z0:=Tryz.sizeOf0
 v0:=Tryz.zeroValue0
 t3:=Tryz.underlying3
 a3:=Tryz.isAgg3
 z3:=Tryz.sizeOf3
 v3:=Tryz.zeroValue3
 t9:=Tryz.underlying9
 a9:=Tryz.isAgg9
 z9:=Tryz.sizeOf9
 v9:=Tryz.zeroValue9
 t37:=Tryz.underlying27
 a37:=Tryz.isAgg27
 z37:=Tryz.sizeOf27
 v37:=Tryz.zeroValue27
 t70:=Tryz.underlying155
 a70:=Tryz.isAgg155
 z70:=Tryz.sizeOf155
 v70:=Tryz.zeroValue155
 t72:=Tryz.underlying157
 a72:=Tryz.isAgg157
 z72:=Tryz.sizeOf157
 v72:=Tryz.zeroValue157
 t127:=Tryz.underlying178
 a127:=Tryz.isAgg178
 z127:=Tryz.sizeOf178
 v127:=Tryz.zeroValue178 }
theorem qa:Builder.Extra Tryz.prog qrz:={
 sizeBuilder:=by kernel_rfl
 liesBuilder:=by kernel_rfl
 t5:=Tryz.underlying5
 a5:=Tryz.isAgg5
 z5:=Tryz.sizeOf5
 v5:=Tryz.zeroValue5
 infoByte:=by kernel_rfl
 cellsByte:=by kernel_rfl
 sizeByte:=by kernel_rfl
 neB5:=by decide }
def qry:Go.Shelf.Ren:=⟨fun|166=>106|240=>137|276=>159|n=>n,fun|0=>0|3=>3|4=>4|9=>9|20=>20|37=>27|5=>5|70=>155|72=>157|75=>160|80=>163|164=>189|n=>n,fun|n=>n⟩
theorem lays166:Go.Proofs.Lays.n166 Tryz.prog qry:={
 mixed:=by kernel_rfl
 f166:=Tryz.func106.trans (congrArg some (by kernel_rfl))
 f240:=Tryz.func137.trans (congrArg some (by kernel_rfl))
 f276:=Tryz.func159.trans (congrArg some (by kernel_rfl))
 t0:=Tryz.underlying0
 a0:=Tryz.isAgg0
 z0:=Tryz.sizeOf0
 v0:=Tryz.zeroValue0
 t3:=Tryz.underlying3
 a3:=Tryz.isAgg3
 z3:=Tryz.sizeOf3
 v3:=Tryz.zeroValue3
 t4:=Tryz.underlying4
 a4:=Tryz.isAgg4
 z4:=Tryz.sizeOf4
 v4:=Tryz.zeroValue4
 t9:=Tryz.underlying9
 a9:=Tryz.isAgg9
 z9:=Tryz.sizeOf9
 v9:=Tryz.zeroValue9
 t20:=Tryz.underlying20
 a20:=Tryz.isAgg20
 z20:=Tryz.sizeOf20
 v20:=Tryz.zeroValue20
 t37:=Tryz.underlying27
 a37:=Tryz.isAgg27
 z37:=Tryz.sizeOf27
 v37:=Tryz.zeroValue27
 t70:=Tryz.underlying155
 a70:=Tryz.isAgg155
 z70:=Tryz.sizeOf155
 v70:=Tryz.zeroValue155
 t72:=Tryz.underlying157
 a72:=Tryz.isAgg157
 z72:=Tryz.sizeOf157
 v72:=Tryz.zeroValue157
 t75:=Tryz.underlying160
 a75:=Tryz.isAgg160
 z75:=Tryz.sizeOf160
 v75:=Tryz.zeroValue160
 t164:=Tryz.underlying189
 a164:=Tryz.isAgg189
 z164:=Tryz.sizeOf189
 v164:=Tryz.zeroValue189 }
theorem q9:Builder.Extra Tryz.prog qry:={
 sizeBuilder:=by kernel_rfl
 liesBuilder:=by kernel_rfl
 t5:=Tryz.underlying5
 a5:=Tryz.isAgg5
 z5:=Tryz.sizeOf5
 v5:=Tryz.zeroValue5
 infoByte:=by kernel_rfl
 cellsByte:=by kernel_rfl
 sizeByte:=by kernel_rfl
 neB5:=by decide }
end Go.Proofs.YtokahibbkdbndaaGreatDoor
namespace Go.Proofs.YtokahibbkdbndaaGreatDoor
open Go.RowKit
theorem qbt (r:Int) (h:128≤r):∃ l:List UInt8,∃ x:UInt8,Utf8.encode r=⟨(l++[x]).toArray⟩∧128≤x.toNat∧1≤l.length∧l.length≤3:=by
 have hc:128≤(if Utf8.valid r then r.toNat else Utf8.runeError)∧(if Utf8.valid r then r.toNat else Utf8.runeError)<2097152:=by
  split
  ·rename_i hv
   unfold Utf8.valid at hv
   simp at hv
   omega
  ·unfold Utf8.runeError;omega
 unfold Utf8.encode
 simp only
 generalize (if Utf8.valid r then r.toNat else Utf8.runeError)=c at hc
 have hb:∀ n,128≤(UInt8.ofNat (128+n % 64)).toNat:=by
  intro n
  rw [UInt8.toNat_ofNat']
  have:n % 64<64:=Nat.mod_lt _ (by decide)
  omega
 rw [if_neg (by omega)]
 split
 ·exact ⟨[_],_,rfl,hb _,by simp,by simp⟩
 ·split
  ·exact ⟨[_,_],_,rfl,hb _,by simp,by simp⟩
  ·exact ⟨[_,_,_],_,rfl,hb _,by simp,by simp⟩
theorem qa2 (s:ByteArray) (i:Nat) (hi:i<s.size) (h:128≤(s[i]'hi).toNat):128≤(Utf8.decode s i).1∧(Utf8.decode s i).1<2147483648∧1≤(Utf8.decode s i).2∧i+(Utf8.decode s i).2≤s.size∧∀ j (hj:j<s.size),i≤j→j<i+(Utf8.decode s i).2→128≤(s[j]'hj).toNat:=by
 have g:∀ j (hj:j<s.size),s.get! j=s[j]'hj:=by
  intro j hj
  simp [ByteArray.get!,getElem!_pos,hj]
  rfl
 have hone:∀ j (hj:j<s.size),i≤j→j<i+1→128≤(s[j]'hj).toNat:=by
  intro j hj h1 h2
  have:j=i:=by omega
  subst this
  exact h
 have hcont:∀ k,(decide (i+k<s.size)&&(s.get! (i+k)).toNat / 64==2)=true→∃ hk:i+k<s.size,128≤(s[i+k]'hk).toNat:=by
  intro k hk
  simp at hk
  refine ⟨hk.1,?_⟩
  have:=hk.2
  rw [g _ hk.1] at this
  omega
 have h0:(s.get! (i+0)).toNat=(s[i]'hi).toNat:=by rw [Nat.add_zero,g i hi]
 have herr:128≤Utf8.runeError∧Utf8.runeError<2147483648:=by unfold Utf8.runeError;omega
 unfold Utf8.decode
 simp only [h0]
 rw [if_neg (by omega)]
 split
 ·rename_i hh
  rw [Bool.and_eq_true] at hh
  obtain ⟨k1,c1⟩:=hcont 1 hh.2
  split
  ·rename_i hc
   refine ⟨hc,?_,by simp,by simp;omega,?_⟩
   ·have:(s[i]'hi).toNat<256:=UInt8.toNat_lt _
    simp only
    have h1:=Nat.mod_lt (s[i]'hi).toNat (show 32>0 by decide)
    have h2:=Nat.mod_lt (s.get! (i+1)).toNat (show 64>0 by decide)
    omega
   ·intro j hj h1 h2
    simp only at h2
    rcases (by omega:j=i∨j=i+1) with rfl|rfl
    ·exact h
    ·exact c1
  ·exact ⟨herr.1,herr.2,by simp,by simp;omega,hone⟩
 ·split
  ·rename_i hh
   rw [Bool.and_eq_true,Bool.and_eq_true] at hh
   obtain ⟨k1,c1⟩:=hcont 1 hh.1.2
   obtain ⟨k2,c2⟩:=hcont 2 hh.2
   split
   ·rename_i hc
    rw [Bool.and_eq_true] at hc
    refine ⟨?_,?_,by simp,by simp;omega,?_⟩
    ·have:=of_decide_eq_true hc.1
     simp only
     omega
    ·simp only
     have h1:=Nat.mod_lt (s[i]'hi).toNat (show 16>0 by decide)
     have h2:=Nat.mod_lt (s.get! (i+1)).toNat (show 64>0 by decide)
     have h3:=Nat.mod_lt (s.get! (i+2)).toNat (show 64>0 by decide)
     omega
    ·intro j hj h1 h2
     simp only at h2
     rcases (by omega:j=i∨j=i+1∨j=i+2) with rfl|rfl|rfl
     ·exact h
     ·exact c1
     ·exact c2
   ·exact ⟨herr.1,herr.2,by simp,by simp;omega,hone⟩
  ·split
   ·rename_i hh
    rw [Bool.and_eq_true,Bool.and_eq_true,Bool.and_eq_true] at hh
    obtain ⟨k1,c1⟩:=hcont 1 hh.1.1.2
    obtain ⟨k2,c2⟩:=hcont 2 hh.1.2
    obtain ⟨k3,c3⟩:=hcont 3 hh.2
    split
    ·rename_i hc
     rw [Bool.and_eq_true] at hc
     refine ⟨?_,?_,by simp,by simp;omega,?_⟩
     ·have:=of_decide_eq_true hc.1
      simp only
      omega
     ·simp only
      have h1:=Nat.mod_lt (s[i]'hi).toNat (show 8>0 by decide)
      have h2:=Nat.mod_lt (s.get! (i+1)).toNat (show 64>0 by decide)
      have h3:=Nat.mod_lt (s.get! (i+2)).toNat (show 64>0 by decide)
      have h4:=Nat.mod_lt (s.get! (i+3)).toNat (show 64>0 by decide)
      omega
     ·intro j hj h1 h2
      simp only at h2
      rcases (by omega:j=i∨j=i+1∨j=i+2∨j=i+3) with rfl|rfl|rfl|rfl
      ·exact h
      ·exact c1
      ·exact c2
      ·exact c3
    ·exact ⟨herr.1,herr.2,by simp,by simp;omega,hone⟩
   ·exact ⟨herr.1,herr.2,by simp,by simp;omega,hone⟩
theorem qr3 (s:ByteArray) (c:Int) (w:World):Calls Tryz.prog 112 #[.string s,.int .u8 c] w fun e w'=>e=.returned (.int .i64 (Lib.indexByte s.data.toList c.toNat.toUInt8))∧w'=w:=Any.strings_IndexByte lays137 s c w
theorem q1lr (r:Int) (w:World):Calls Tryz.prog 186 #[.int .i32 r] w fun e w'=>e=.returned (.bool (Lib.validRune r))∧w'=w:=Any.utf8_ValidRune lays119 r w
theorem qbu (r:Int) (h:128≤r):(∃ a x,Utf8.encode r=⟨#[a,x]⟩∧128≤x.toNat)∨(∃ a b x,Utf8.encode r=⟨#[a,b,x]⟩∧128≤x.toNat)∨∃ a b c x,Utf8.encode r=⟨#[a,b,c,x]⟩∧128≤x.toNat:=by
 obtain ⟨l,x,he,hx,h1,h2⟩:=qbt r h
 match l,h1,h2,he with
 |[a],_,_,he=>exact .inl ⟨a,x,he,hx⟩
 |[a,b],_,_,he=>exact .inr (.inl ⟨a,b,x,he,hx⟩)
 |[a,b,c],_,_,he=>exact .inr (.inr ⟨a,b,c,x,he,hx⟩)
theorem qr4 (s:ByteArray) (x:UInt8) (hs:s.data.toList.all (fun b=>decide (b.toNat<128))=true) (hx:128≤x.toNat) (w:World):Calls Tryz.prog 112 #[.string s,.int .u8 (x.toNat:Int)] w fun e w'=>e=.returned (.int .i64 (-1))∧w'=w:=by
 have h:=qr3 s (x.toNat:Int) w
 have hb:((x.toNat:Int)).toNat.toUInt8=x:=by simp
 have:Lib.indexByte s.data.toList x=-1:=by
  generalize s.data.toList=l at hs
  induction l with
  |nil=>rfl
  |cons b l ih =>
   rw [List.all_cons,Bool.and_eq_true] at hs
   have h1:=of_decide_eq_true hs.1
   have hne:(b==x)=false:=by
    rw [beq_eq_false_iff_ne]
    intro e
    subst e
    omega
   rw [Lib.indexByte,hne,ih hs.2]
   rfl
 rw [hb,this] at h
 exact h
theorem below_drewN' (w:World) (n:Nat):Below w.heap.size w (w.drewN n):=⟨rfl,rfl,rfl,Nat.le_refl _,fun _ _=>rfl⟩
theorem q7c (w:World) (o:Obj):Below w.heap.size w (w.alloc o):=(Below.refl _ w).alloc (Nat.le_refl _) o
set_option maxHeartbeats 4000000 in
set_option maxRecDepth 100000 in
theorem qr6 (r:Int) (h:128≤r) (w:World):Calls Tryz.prog 177 #[.string ⟨#[13,10,0]⟩,.int .i32 r] w fun e w'=>e=.returned (.int .i64 (-1))∧Below w.heap.size w w':=by
 have h0:(0:Int)≤r:=by omega
 have h1:¬ r<128:=by omega
 go_enter Tryz.func177,Tryz.ntmps177
 go_wp2_with (first
  |(go_at_call 186;refine (q1lr r _).mono ?_;rintro e w2 ⟨rfl,rfl⟩)
  |go_in)
 ·-- the rune of an error: none of the three
  have n0:=fun ty=>run_next_ascii (P:=Tryz.prog) w ⟨#[13,10,0]⟩ 0 ty (by decide) (by decide)
  have n1:=fun ty=>run_next_ascii (P:=Tryz.prog) w ⟨#[13,10,0]⟩ 1 ty (by decide) (by decide)
  have n2:=fun ty=>run_next_ascii (P:=Tryz.prog) w ⟨#[13,10,0]⟩ 2 ty (by decide) (by decide)
  have n3:=fun ty=>run_next_end (P:=Tryz.prog) w ⟨#[13,10,0]⟩ 3 ty (by decide)
  refine wp_loop_rounds 4 ?_
  rw [rounds_succ]
  go_wp2
  rw [rounds_succ]
  go_wp2
  rw [rounds_succ]
  go_wp2
  rw [rounds_succ]
  go_wp2
  go_ret
  exact ⟨rfl,q7c _ _⟩
 ·go_ret
  exact ⟨rfl,Below.refl _ _⟩
 ·rcases qbu r h with ⟨a,x,he,hx⟩|⟨a,b,x,he,hx⟩|⟨a,b,c,x,he,hx⟩
  ·have d1:((10:Int) != (x.toNat:Int))=true:=by rw [bne_iff_ne];omega
   have d2:((0:Int) != (x.toNat:Int))=true:=by rw [bne_iff_ne];omega
   go_step3
   go_wp2
   refine wp_loop_rounds 1 ?_
   rw [rounds_succ]
   go_wp2
   go_step3
   go_wp2
   go_quiet (fail)
   go_wp2
   go_quiet ((go_at_call 112;exact (qr4 _ x (by decide) hx _).mono fun _ _ h=>⟨h.1,_,h.2⟩))
   go_wp2
   ·simp only [Exit.noGoto,Exit.inBlock,Exit.then]
    go_ret
    exact ⟨rfl,below_drewN' _ _⟩
   ·exfalso
    have hh:((10:Int) != (x.toNat:Int))=false:=by assumption
    exact absurd (d1.symm.trans hh) (by decide)
  ·have d1:((10:Int) != (x.toNat:Int))=true:=by rw [bne_iff_ne];omega
   have d2:((0:Int) != (x.toNat:Int))=true:=by rw [bne_iff_ne];omega
   go_step3
   go_wp2
   refine wp_loop_rounds 1 ?_
   rw [rounds_succ]
   go_wp2
   go_step3
   go_wp2
   go_quiet (fail)
   go_wp2
   go_quiet ((go_at_call 112;exact (qr4 _ x (by decide) hx _).mono fun _ _ h=>⟨h.1,_,h.2⟩))
   go_wp2
   ·simp only [Exit.noGoto,Exit.inBlock,Exit.then]
    go_ret
    exact ⟨rfl,below_drewN' _ _⟩
   ·exfalso
    have hh:((0:Int) != (x.toNat:Int))=false:=by assumption
    exact absurd (d2.symm.trans hh) (by decide)
  ·go_step3
   go_wp2
   refine wp_loop_rounds 1 ?_
   rw [rounds_succ]
   go_wp2
   rw [Exit.noGoto_ret]
   go_ret
   exact ⟨rfl,Below.refl _ _⟩
end Go.Proofs.YtokahibbkdbndaaGreatDoor
namespace Go.Proofs.YtokahibbkdbndaaGreatDoor
open Go.RowKit Go.ChangeMaps
theorem q1ex {P:Program} (W:World) (r:Nat) (s:ByteArray) (pos:Nat) (h:W.heap[r]?=some (.stringIter s pos)) (hp:pos<s.size) (ty:TypeId) :
  (Instr.next (.pointer (some ⟨r,0,none⟩)) true ty).run P W=.ok (.tuple #[.bool true,.int .i64 pos,.int .i32 (Utf8.decode s pos).1]) (setBlock W r (.stringIter s (pos+(Utf8.decode s pos).2))):=by
 simp [Instr.next,getObj,setObj,Sem.run,h,hp,Result.andThen,goInt,setBlock]
theorem q1ey {P:Program} (W:World) (r:Nat) (s:ByteArray) (pos:Nat) (h:W.heap[r]?=some (.stringIter s pos)) (hp:¬ pos<s.size) (ty:TypeId) :
  (Instr.next (.pointer (some ⟨r,0,none⟩)) true ty).run P W=.ok (.tuple #[.bool false]) W:=by
 simp [Instr.next,getObj,Sem.run,h,hp]
theorem qr5 (s:ByteArray) (r:Int) (w:World) (h0:0≤r) (h1:r<128):Calls Tryz.prog 177 #[.string s,.int .i32 r] w fun e w'=>e=.returned (.int .i64 (Lib.indexByte s.data.toList r.toNat.toUInt8))∧w'=w:=Any.strings_IndexRune_ascii lays152 s r w h0 h1
theorem qpo (s chars:ByteArray) (w:World) (h2:2≤chars.size) (h8:8<s.size) (hs:s.size<4294967281) (hcs:chars.size<4294967281) (hascii:∀ (j:Nat) b,chars.data.toList[j]?=some b→b.toNat<128) :
  Calls Tryz.prog 171 #[.string s,.string chars] w fun e w'=>e=.returned (.int .i64 (Lib.indexAny s.data.toList chars.data.toList))∧Below w.heap.size w w':=by
 refine (Any.strings_IndexAny_long lays153 (fun w=>by kernel_rfl) (by kernel_rfl) s chars w h2 h8 hs hcs hascii).mono fun e w'=>?_
 rintro ⟨rfl,rfl⟩
 exact ⟨rfl,((Below.refl _ _).alloc (Nat.le_refl _) _).alloc (by simp) _⟩
theorem q1hm (n:Int) (w:World):Calls Tryz.prog 178 #[.int .i64 n] w fun e w'=>e=.returned (.bool (decide (8<n)))∧w'=w:=Any.strings_shouldUseASCIISet { lays153 with } n w
theorem quv {s:ByteArray} {i k:Nat} (h:Lib.NoAny s.data.toList crlf0 i) (hk:∀ j (hj:j<s.size),i≤j→j<k→crlf0.contains (s[j]'hj)=false):Lib.NoAny s.data.toList crlf0 k:=fun j b hj hb=>by
 by_cases e:j<i
 ·exact h j b e hb
 ·obtain ⟨hj2,hb2⟩:=List.getElem?_eq_some_iff.1 hb
  have hj3:j<s.size:=by rw [Array.length_toList] at hj2;exact hj2
  have:=hk j hj3 (by omega) hj
  rw [←hb2]
  exact this
theorem q9g (b:UInt8) (h:128≤b.toNat):crlf0.contains b=false:=by
 unfold crlf0
 have h1:b≠13:=fun e=>by subst e;revert h;decide
 have h2:b≠10:=fun e=>by subst e;revert h;decide
 have h3:b≠0:=fun e=>by subst e;revert h;decide
 simp [h1,h2,h3]
theorem q7e {B:Nat} {a w:World} (h:Below B a w) {r:Nat} (hr:B≤r) (o:Obj):Below B a (setBlock w r o) :=
 ⟨h.os,h.tape,h.output,by simp only [setBlock,Array.size_setIfInBounds];exact h.size,fun k hk=>by
  simp only [setBlock]
  rw [Array.getElem?_setIfInBounds_ne (by omega)]
  exact h.block k hk⟩
set_option maxHeartbeats 8000000 in
set_option maxRecDepth 1000000 in
theorem qpp (s:ByteArray) (w:World) (h8:s.size≤8) :
  Calls Tryz.prog 171 #[.string s,.string ⟨#[13,10,0]⟩] w fun e w'=>e=.returned (.int .i64 (Lib.indexAny s.data.toList crlf0))∧Below w.heap.size w w':=by
 have h8z:decide ((8:Int)<(s.size:Int))=false:=decide_eq_false (by omega)
 have hb0:Below w.heap.size w (w.iter s 0):=q7c _ _
 have hi0:=World.iter_heap w s 0
 go_enter Tryz.func171,Tryz.ntmps171
 go_wp2_with (go_at_call 178;refine (q1hm _ _).mono ?_;rintro e w' ⟨rfl,hw⟩;rw [hw,h8z])
 go_loopg [9,10] s.size (fun g _ _ wx=>∃ i:Nat,i+g=s.size∧wx.heap[w.heap.size]?=some (.stringIter s i)∧Below w.heap.size w wx∧Lib.NoAny s.data.toList crlf0 i)
 case atStart=>exact ⟨0,by omega,hi0,hb0,Lib.NoAny.zero _ _⟩
 case round =>
  obtain ⟨i,hig,hit,hbel,hno⟩:=hrel
  cases gk with
  |zero =>
   obtain rfl:i=s.size:=by omega
   have hnx:=q1ey (P:=Tryz.prog) wr w.heap.size s s.size hit (by omega)
   have hnone:Lib.indexAny s.data.toList crlf0=-1:=Lib.indexAny_none (by rw [Array.length_toList];exact hno)
   go_wp2
   go_ret
   exact ⟨by rw [hnone];rfl,hbel⟩
  |succ g =>
   have hi:i<s.size:=by omega
   have hnx:=q1ex (P:=Tryz.prog) wr w.heap.size s i hit hi
   have hlt:=(Array.getElem?_eq_some_iff.1 hit).1
   by_cases hx:(s[i]'hi).toNat<128
   ·rw [decode_ascii s i hi hx] at hnx
    simp only at hnx
    have hset:(setBlock wr w.heap.size (.stringIter s (i+1))).heap[w.heap.size]?=some (.stringIter s (i+1)):=by
     simp only [setBlock]
     rw [Array.getElem?_setIfInBounds_self_of_lt hlt]
    have hb1:=q7e hbel (Nat.le_refl _) (.stringIter s (i+1))
    obtain ⟨x,hxe⟩:∃ x:UInt8,s[i]'hi=x:=⟨_,rfl⟩
    rw [hxe] at hnx hx
    have hxl:s.data.toList[i]?=some x:=by rw [←hxe];exact Lib.data_getElem? s i hi
    have hcon:=Lib.contains_iff_indexByte crlf0 x
    have hback:((x.toNat:Int)).toNat.toUInt8=x:=by simp
    have hr:=fun W=>qr5 ⟨#[13,10,0]⟩ (x.toNat:Int) W (by omega) (by omega)
    rw [hback] at hr
    have hcd:(⟨#[13,10,0]⟩:ByteArray).data.toList=crlf0:=rfl
    rw [hcd] at hr
    cases hin:crlf0.contains x with
    |false =>
     rw [hin] at hcon
     have hlt0:¬ ((0:Int)≤Lib.indexByte crlf0 x):=of_decide_eq_false hcon.symm
     have hno1:Lib.NoAny s.data.toList crlf0 (i+1):=hno.succ hxl hin
     clear hcon
     go_wp2_with (first
      |(go_at_call 177;refine (hr _).mono ?_;rintro e w' ⟨rfl,rfl⟩)
      |go_in)
     go_roundg g
     case measure=>omega
     case rel=>exact ⟨i+1,by omega,hset,hb1,hno1⟩
    |true =>
     rw [hin] at hcon
     have hge0:(0:Int)≤Lib.indexByte crlf0 x:=of_decide_eq_true hcon.symm
     have hhit:Lib.indexAny s.data.toList crlf0=i:=Lib.indexAny_hit hno hxl hin
     clear hcon
     go_wp2_with (first
      |(go_at_call 177;refine (hr _).mono ?_;rintro e w' ⟨rfl,rfl⟩)
      |go_in)
     go_ret
     exact ⟨by rw [hhit];rfl,hb1⟩
   ·obtain ⟨d1,d2,d3,d4,d5⟩:=qa2 s i hi (by omega)
    have hno1:Lib.NoAny s.data.toList crlf0 (i+(Utf8.decode s i).2):=quv hno (fun j hj h1 h2=>q9g _ (d5 j hj h1 h2))
    generalize (Utf8.decode s i).1=c at hnx d1 d2
    generalize (Utf8.decode s i).2=k at hnx d3 d4 d5 hno1
    have hset:(setBlock wr w.heap.size (.stringIter s (i+k))).heap[w.heap.size]?=some (.stringIter s (i+k)):=by
     simp only [setBlock]
     rw [Array.getElem?_setIfInBounds_self_of_lt hlt]
    have hb1:=q7e hbel (Nat.le_refl _) (.stringIter s (i+k))
    have hsz1:w.heap.size<(setBlock wr w.heap.size (.stringIter s (i+k))).heap.size:=by simp only [setBlock,Array.size_setIfInBounds];exact hlt
    have hr:=fun W=>qr6 (c:Int) (by omega) W
    go_wp2_with (first
     |(go_at_call 177;refine (hr _).mono ?_;rintro e w' ⟨rfl,hbw⟩)
     |go_in)
    go_roundg (s.size - (i+k))
    case measure=>omega
    case rel=>exact ⟨i+k,by omega,by rw [hbw.block _ hsz1];exact hset,hb1.trans (hbw.mono (by omega)),hno1⟩
end Go.Proofs.YtokahibbkdbndaaGreatDoor
namespace Go.Proofs.YtokahibbkdbndaaGreatDoor
open Go.RowKit Go.Maps
def digL (l:List UInt8):Bool:=match l with
 |b::_=>decide (48≤b.toNat)&&decide (b.toNat≤57)
 |[]=>false
def pdL (k:Lit) (_:DataW Unit):Bool:=match k with
 |.string l=>digL l
 |_=>false
theorem qjv (l:List (ByteArray×ByteArray)):Lib.deleteFuncD pdL (datM l)=datM (l.filter fun p=>!digP p.1):=by
 unfold datM Lib.deleteFuncD
 simp only
 congr 1
 induction l with
 |nil=>rfl
 |cons p l ih =>
  rw [List.map_cons,List.filter_cons,List.filter_cons]
  have:(!pdL (litM p).1 (litM p).2)=!digP p.1:=rfl
  rw [this]
  cases !digP p.1 with
  |true=>simp [ih]
  |false=>simpa using ih
theorem qnk (w:World) (row:Option Nat):w.grownBy w row:=⟨rfl,rfl,rfl,Nat.le_refl _,fun _ _ _=>rfl⟩
theorem qa7 (k:ByteArray) (h:0<k.size):digP k=(decide ((48:Int)≤(k[0].toNat:Int))&&decide ((k[0].toNat:Int)≤57)):=by
 obtain ⟨⟨l⟩⟩:=k
 cases l with
 |nil=>cases h
 |cons b l =>
  show (decide (48≤b.toNat)&&decide (b.toNat≤57))=(decide ((48:Int)≤(b.toNat:Int))&&decide ((b.toNat:Int)≤57))
  rw [Bool.eq_iff_iff]
  simp
  omega
set_option maxRecDepth 100000 in
theorem qa9 (k v:ByteArray) (hk:k.size≠0) (w:World):Calls Tryz.prog 133 #[.string k,.string v] w fun e w'=>e=.returned (.bool (digP k))∧w.grownBy w' none:=by
 have hp:=qa7 k (by omega)
 go_enter Tryz.func133,Tryz.ntmps133
 go_wp2
 ·go_ret
  refine ⟨?_,qnk _ _⟩
  first|rw [hp]|skip
  rename_i h
  simp [h]
 ·go_ret
  refine ⟨?_,qnk _ _⟩
  first|rw [hp]|skip
  rename_i h
  have:decide ((48:Int)≤(k[0].toNat:Int))=false:=decide_eq_false (by omega)
  rw [this]
  rfl
set_option maxRecDepth 100000 in
theorem RM_inv {v:Value} {y:DataW Unit×List MemPlace} (h:RM Tryz.prog 9 v=some y):∃ s,v=.string s:=by
 unfold RM plainElem at h
 rw [Tryz.underlying9] at h
 cases v <;> simp at h
 exact ⟨_,rfl⟩
set_option maxHeartbeats 4000000 in
set_option maxRecDepth 100000 in
theorem qa5 (b n:Nat) (l:List (ByteArray×ByteArray)) (w:World) (hown:w.ownsMap Tryz.prog 9 (RM Tryz.prog 9) b n (datM l)) (hne:∀ p∈l,p.1.size≠0) :
  Calls Tryz.prog 132 #[.map (some b),.func (.func 133) #[] #[]] w fun e w'=>e=.returned (.tuple #[])∧w'.ownsMap Tryz.prog 9 (RM Tryz.prog 9) b n (datM (l.filter fun p=>!digP p.1))∧w.grownBy w' (some b):=by
 have K:=Maps.string_keyed Tryz.underlying9
 have hu:Tryz.prog.underlying 108=some (.map 9 9):=Tryz.underlying108
 obtain ⟨es0,hes,hap,hkeys⟩:=hown.entries K
 have hes':l.map litM=es0:=by unfold datM at hes;injection hes
 have hcalls:=qa9
 have hfin:=qjv l
 rw [hes] at hown hfin
 have hin:∀ (k:ByteArray),Maps.has (.map es0) (.string k.data.toList)=true→k.size≠0:=by
  intro k hk
  rw [Maps.has_eq,List.any_eq_true] at hk
  obtain ⟨p,hp,hs⟩:=hk
  rw [←hes',List.mem_map] at hp
  obtain ⟨q,hq,rfl⟩:=hp
  have h0:=hne q hq
  have e:q.1.data.toList=k.data.toList:=by simpa [litM,Lit.sameKey] using hs
  have e2:q.1.data.toList.length=q.1.size:=by rw [Array.length_toList];rfl
  have e3:k.data.toList.length=k.size:=by rw [Array.length_toList];rfl
  rw [←e3,←e,e2]
  exact h0
 rw [←hfin]
 clear hfin
 go_enter Tryz.func132,Tryz.ntmps132
 go_wp2_with (first
  |(at_range;refine wpList_range_own _ rfl _ 108 rfl 9 9 K hu _ b n _ rfl hown ?_;intro w0 hrg0 hg0 hs0)
  |go_in)
 go_frame
 go_loopw [8] (fun _ wr=>∃ (left:Lit→Bool) (cnt:Nat),wr.ranges Tryz.prog 9 (RM Tryz.prog 9) b w.heap.size n (Fk pdL es0 left) left cnt∧w.grownBy wr (some b)∧∀ kl,left kl=true→Maps.has (.map es0) kl=true)
  (fun _ wr=>wr.rangeLeft b w.heap.size)
 case atStart=>exact ⟨_,_,by rw [Fk_start hkeys];exact hrg0,hg0.but _,fun _ h=>h⟩
 case round =>
  obtain ⟨left,cnt,hrg,hgw,hlf⟩:=hrel
  go_wp2_with (first
   |(at_next;refine wpList_next_ranges _ rfl _ rfl 9 K (RM Tryz.prog 9) Value.string Value.string (fun key kl h=>by obtain ⟨s,e,_⟩:=(qr7 Tryz.underlying9 _ _).1 h;exact ⟨s,e⟩) (fun v y h=>RM_inv h) b w.heap.size n _ _ _ rfl hrg ?_ ?_)
   |go_in)
  ·intro _ hl0
   go_wp2
   go_end0
   exact ⟨rfl,by rw [←Fk_end hl0];exact hrg.owns,hgw⟩
  ·intro k v kl yd yp w1 cnt1 hkey hlx hv hat hrg1 hlt hg1 hs1 hen
   have hgw1:=hgw.andThen hg1 (fun j hj=>by cases hj;exact Or.inl (Nat.le_refl _))
   obtain ⟨k',ek,hks,rfl⟩:=(qr7 Tryz.underlying9 _ _).1 hkey
   cases ek
   have hk0:=hin k (hlf _ hlx)
   have hc:=hcalls k v hk0 w1
   have hbl:=hrg1.owns.lt
   have hrl:=hrg1.lt
   have hpe:pdL (.string k.data.toList) yd=digP k:=rfl
   cases hp:digP k <;> rw [hp] at hc hpe
   ·go_wp2_with (first
     |(go_at_call 133;refine hc.mono ?_;rintro e w2 ⟨rfl,hg2⟩)
     |go_in)
    have hrg2:=hrg1.kept hg2 (by simp) (by simp)
    go_roundw
    case rel=>exact ⟨_,cnt1,by rw [←Fk_stays hap (kl:=.string k.data.toList) trivial hlx hpe hat];exact hrg2,hgw1.andThen hg2 (fun j hj=>by cases hj),fun z hz=>hlf z (by simp at hz;exact hz.1)⟩
    case measure=>rw [hrg2.left_eq,hrg.left_eq];exact hlt
   ·go_wp2_with (first
     |(go_at_call 133;refine hc.mono ?_;rintro e w2 ⟨rfl,hg2⟩;have hrg2:=hrg1.kept hg2 (by simp) (by simp))
     |(at_delete;refine wpList_delete_ranges _ rfl _ _ 108 9 rfl 9 K hu (RM Tryz.prog 9) b w.heap.size n _ _ _ rfl hrg2 _ _ rfl hkey ?_;intro w3 cnt3 hrg3 hle hturn;go_frame)
     |go_in)
    rw [strike_twice] at hrg3
    go_roundw
    case rel=>exact ⟨_,cnt3,by rw [←Fk_struck hap (kl:=.string k.data.toList) trivial hlx hpe hat];exact hrg3,(hgw1.andThen hg2 (fun j hj=>by cases hj)).andThen hturn.grown (fun j hj=>by cases hj;exact Or.inr rfl),fun z hz=>hlf z (by simp at hz;exact hz.1)⟩
    case measure=>rw [hrg3.left_eq,hrg.left_eq];omega
end Go.Proofs.YtokahibbkdbndaaGreatDoor
