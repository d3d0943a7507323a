import Derived.Shelf.Strings.Builder1
import Derived.Shelf.Strings.Builder2
import Derived.Shelf.Strings.OnBuilder
import Derived.Shelf.Small.Utf8
import Derived.Shelf.Small.Strs
import Derived.Shelf.Strconv.Atoi
import Derived.Shelf.Strconv.Itoa0
import Derived.Shelf.Strconv.Itoa1
import Derived.Shelf.LaysM
import Derived.Shelf.Strconv.Itoa2
import Derived.Shelf.Strconv.Itoa3
import Derived.Shelf.Strconv.Itoa4
import Derived.Shelf.Strings.Search1
import Derived.Shelf.Strings.Search2
import Derived.Shelf.Strings.Search3
import Derived.Shelf.Strings.Count
import Derived.Shelf.Strings.Shaped
import Derived.Shelf.Strings.Split
import Derived.Shelf.Strings.Runes
import Derived.Shelf.Unicode.DecodeSlow
import Derived.WalkMore
import Derived.Outline
import Derived.RegionTactic
import Derived.Deep.RegionWith
import Derived.Scope
import Derived.DataElems
import Derived.Test.YtemiicbbbojdiaaGreatDoorD02
set_option linter.unusedVariables false
set_option maxRecDepth 100000
namespace Go.Proofs
open Go.Shelf
def Tryz.Ge:Go.Shelf.Ren:=⟨fun|221=>182|268=>212|138=>213|143=>214|195=>250|197=>251|218=>252|219=>253|260=>279|217=>280|225=>281|224=>282|267=>283|266=>294|314=>295|n=>n,fun|9=>9|3=>3|31=>42|4=>4|0=>0|105=>320|21=>21|5=>5|46=>138|119=>348|139=>351|138=>350|146=>352|51=>164|n=>n,fun|1=>1|3=>4|4=>5|n=>n⟩
theorem Tryz.QK:Go.Proofs.Lays.n221 Tryz.prog Tryz.Ge:={
 mixed:=by kernel_rfl
 f138:=Tryz.func213.trans (congrArg some (by kernel_rfl))
 f143:=Tryz.func214.trans (congrArg some (by kernel_rfl))
 f195:=Tryz.func250.trans (congrArg some (by kernel_rfl))
 f197:=Tryz.func251.trans (congrArg some (by kernel_rfl))
 f217:=Tryz.func280.trans (congrArg some (by kernel_rfl))
 f218:=Tryz.func252.trans (congrArg some (by kernel_rfl))
 f219:=Tryz.func253.trans (congrArg some (by kernel_rfl))
 f221:=Tryz.func182.trans (congrArg some (by kernel_rfl))
 f224:=Tryz.func282.trans (congrArg some (by kernel_rfl))
 f225:=Tryz.func281.trans (congrArg some (by kernel_rfl))
 f260:=Tryz.func279.trans (congrArg some (by kernel_rfl))
 f266:=Tryz.func294.trans (congrArg some (by kernel_rfl))
 f267:=Tryz.func283.trans (congrArg some (by kernel_rfl))
 f268:=Tryz.func212.trans (congrArg some (by kernel_rfl))
 f314:=Tryz.func295.trans (congrArg some (by kernel_rfl))
 t0:=Tryz.underlying0
 a0:=Tryz.isAgg0
 z0:=Tryz.sizeOf0
 v0:=Tryz.zeroValue0
 t3:=Tryz.underlying3
 a3:=Tryz.isAgg3
 z3:=Tryz.sizeOf3
 v3:=Tryz.zeroValue3
 t4:=Tryz.underlying4
 a4:=Tryz.isAgg4
 z4:=Tryz.sizeOf4
 v4:=Tryz.zeroValue4
 t5:=Tryz.underlying5
 a5:=Tryz.isAgg5
 z5:=Tryz.sizeOf5
 v5:=Tryz.zeroValue5
 t9:=Tryz.underlying9
 a9:=Tryz.isAgg9
 z9:=Tryz.sizeOf9
 v9:=Tryz.zeroValue9
 t21:=Tryz.underlying21
 a21:=Tryz.isAgg21
 z21:=Tryz.sizeOf21
 v21:=Tryz.zeroValue21
 t31:=Tryz.underlying42
 a31:=Tryz.isAgg42
 z31:=Tryz.sizeOf42
 v31:=Tryz.zeroValue42
 t46:=Tryz.underlying138
 a46:=Tryz.isAgg138
 z46:=Tryz.sizeOf138
 v46:=Tryz.zeroValue138
 t51:=Tryz.underlying164
 a51:=Tryz.isAgg164
 z51:=Tryz.sizeOf164
 v51:=Tryz.zeroValue164
 t105:=Tryz.underlying320
 a105:=Tryz.isAgg320
 z105:=Tryz.sizeOf320
 v105:=Tryz.zeroValue320
 t119:=Tryz.underlying348
 a119:=Tryz.isAgg348
 z119:=Tryz.sizeOf348
 t138:=Tryz.underlying350
 a138:=Tryz.isAgg350
 z138:=Tryz.sizeOf350
 v138:=Tryz.zeroValue350
 t139:=Tryz.underlying351
 a139:=Tryz.isAgg351
 z139:=Tryz.sizeOf351
 v139:=Tryz.zeroValue351
 t146:=Tryz.underlying352
 a146:=Tryz.isAgg352
 z146:=Tryz.sizeOf352
 v146:=Tryz.zeroValue352
 g1:=by kernel_rfl
 g3:=by kernel_rfl
 g4:=by kernel_rfl }
def Tryz.Gd:Go.Shelf.Ren:=⟨fun|172=>254|244=>284|245=>285|247=>296|279=>297|280=>298|281=>299|282=>300|287=>304|316=>305|171=>55|205=>306|321=>307|322=>308|243=>84|246=>85|283=>123|284=>124|285=>125|286=>126|129=>114|317=>154|318=>155|319=>156|320=>157|337=>178|338=>179|n=>n,fun|9=>9|3=>3|75=>176|76=>177|4=>4|5=>5|167=>354|37=>148|0=>0|85=>355|2=>2|168=>357|53=>69|175=>361|46=>138|210=>364|127=>207|145=>369|143=>367|21=>21|171=>180|173=>182|212=>209|51=>164|20=>20|213=>210|232=>279|233=>280|80=>179|n=>n,fun|15=>6|16=>7|17=>0|18=>2|19=>3|n=>n⟩
theorem Tryz.QJ:Go.Proofs.Lays.n172 Tryz.prog Tryz.Gd:={
 mixed:=by kernel_rfl
 f129:=Tryz.func114.trans (congrArg some (by kernel_rfl))
 f171:=Tryz.func55.trans (congrArg some (by kernel_rfl))
 f172:=Tryz.func254.trans (congrArg some (by kernel_rfl))
 f205:=Tryz.func306.trans (congrArg some (by kernel_rfl))
 f243:=Tryz.func84.trans (congrArg some (by kernel_rfl))
 f244:=Tryz.func284.trans (congrArg some (by kernel_rfl))
 f245:=Tryz.func285.trans (congrArg some (by kernel_rfl))
 f246:=Tryz.func85.trans (congrArg some (by kernel_rfl))
 f247:=Tryz.func296.trans (congrArg some (by kernel_rfl))
 f279:=Tryz.func297.trans (congrArg some (by kernel_rfl))
 f280:=Tryz.func298.trans (congrArg some (by kernel_rfl))
 f281:=Tryz.func299.trans (congrArg some (by kernel_rfl))
 f282:=Tryz.func300.trans (congrArg some (by kernel_rfl))
 f283:=Tryz.func123.trans (congrArg some (by kernel_rfl))
 f284:=Tryz.func124.trans (congrArg some (by kernel_rfl))
 f285:=Tryz.func125.trans (congrArg some (by kernel_rfl))
 f286:=Tryz.func126.trans (congrArg some (by kernel_rfl))
 f287:=Tryz.func304.trans (congrArg some (by kernel_rfl))
 f316:=Tryz.func305.trans (congrArg some (by kernel_rfl))
 f317:=Tryz.func154.trans (congrArg some (by kernel_rfl))
 f318:=Tryz.func155.trans (congrArg some (by kernel_rfl))
 f319:=Tryz.func156.trans (congrArg some (by kernel_rfl))
 f320:=Tryz.func157.trans (congrArg some (by kernel_rfl))
 f321:=Tryz.func307.trans (congrArg some (by kernel_rfl))
 f322:=Tryz.func308.trans (congrArg some (by kernel_rfl))
 f337:=Tryz.func178.trans (congrArg some (by kernel_rfl))
 f338:=Tryz.func179.trans (congrArg some (by kernel_rfl))
 t0:=Tryz.underlying0
 a0:=Tryz.isAgg0
 z0:=Tryz.sizeOf0
 v0:=Tryz.zeroValue0
 t2:=Tryz.underlying2
 a2:=Tryz.isAgg2
 z2:=Tryz.sizeOf2
 v2:=Tryz.zeroValue2
 t3:=Tryz.underlying3
 a3:=Tryz.isAgg3
 z3:=Tryz.sizeOf3
 v3:=Tryz.zeroValue3
 t4:=Tryz.underlying4
 a4:=Tryz.isAgg4
 z4:=Tryz.sizeOf4
 v4:=Tryz.zeroValue4
 t5:=Tryz.underlying5
 a5:=Tryz.isAgg5
 z5:=Tryz.sizeOf5
 v5:=Tryz.zeroValue5
 t9:=Tryz.underlying9
 a9:=Tryz.isAgg9
 z9:=Tryz.sizeOf9
 v9:=Tryz.zeroValue9
 t20:=Tryz.underlying20
 a20:=Tryz.isAgg20
 z20:=Tryz.sizeOf20
 v20:=Tryz.zeroValue20
 t21:=Tryz.underlying21
 a21:=Tryz.isAgg21
 z21:=Tryz.sizeOf21
 v21:=Tryz.zeroValue21
 t37:=Tryz.underlying148
 a37:=Tryz.isAgg148
 z37:=Tryz.sizeOf148
 v37:=Tryz.zeroValue148
 t46:=Tryz.underlying138
 a46:=Tryz.isAgg138
 z46:=Tryz.sizeOf138
 v46:=Tryz.zeroValue138
 t51:=Tryz.underlying164
 a51:=Tryz.isAgg164
 z51:=Tryz.sizeOf164
 v51:=Tryz.zeroValue164
 t53:=Tryz.underlying69
 a53:=Tryz.isAgg69
 z53:=Tryz.sizeOf69
 v53:=Tryz.zeroValue69
 t75:=Tryz.underlying176
 a75:=Tryz.isAgg176
 z75:=Tryz.sizeOf176
 v75:=Tryz.zeroValue176
 t76:=Tryz.underlying177
 a76:=Tryz.isAgg177
 z76:=Tryz.sizeOf177
 v76:=Tryz.zeroValue177
 t85:=Tryz.underlying355
 a85:=Tryz.isAgg355
 z85:=Tryz.sizeOf355
 v85:=Tryz.zeroValue355
 t127:=Tryz.underlying207
 a127:=Tryz.isAgg207
 z127:=Tryz.sizeOf207
 v127:=Tryz.zeroValue207
 t143:=Tryz.underlying367
 a143:=Tryz.isAgg367
 z143:=Tryz.sizeOf367
 v143:=Tryz.zeroValue367
 t145:=Tryz.underlying369
 a145:=Tryz.isAgg369
 z145:=Tryz.sizeOf369
 v145:=Tryz.zeroValue369
 t167:=Tryz.underlying354
 a167:=Tryz.isAgg354
 z167:=Tryz.sizeOf354
 v167:=Tryz.zeroValue354
 t168:=Tryz.underlying357
 a168:=Tryz.isAgg357
 z168:=Tryz.sizeOf357
 v168:=Tryz.zeroValue357
 t171:=Tryz.underlying180
 a171:=Tryz.isAgg180
 z171:=Tryz.sizeOf180
 v171:=Tryz.zeroValue180
 t173:=Tryz.underlying182
 a173:=Tryz.isAgg182
 z173:=Tryz.sizeOf182
 v173:=Tryz.zeroValue182
 t175:=Tryz.underlying361
 a175:=Tryz.isAgg361
 z175:=Tryz.sizeOf361
 v175:=Tryz.zeroValue361
 t210:=Tryz.underlying364
 a210:=Tryz.isAgg364
 z210:=Tryz.sizeOf364
 v210:=Tryz.zeroValue364
 t212:=Tryz.underlying209
 a212:=Tryz.isAgg209
 z212:=Tryz.sizeOf209
 v212:=Tryz.zeroValue209
 t213:=Tryz.underlying210
 a213:=Tryz.isAgg210
 z213:=Tryz.sizeOf210
 t232:=Tryz.underlying279
 a232:=Tryz.isAgg279
 z232:=Tryz.sizeOf279
 v232:=Tryz.zeroValue279
 t233:=Tryz.underlying280
 a233:=Tryz.isAgg280
 z233:=Tryz.sizeOf280
 v233:=Tryz.zeroValue280
 g15:=by kernel_rfl
 g16:=by kernel_rfl
 g17:=by kernel_rfl
 g18:=by kernel_rfl
 g19:=by kernel_rfl }
open Go.RowKit in
theorem Tryz.strconv_Atoi(s:ByteArray)(n:Int)(hl:s.size<=18)(h:Lib.atoi s.data.toList=some n)(w:World) :
  Calls Tryz.prog 254 #[.string s] w λ e w'=>e=.returned (.tuple #[.int .i64 n,.nilIface])/\∃ t,w' = Lib.bytesWorld w 5 t:=Any.strconv_Atoi Tryz.QJ s n hl h w
def Tryz.Gc:Go.Shelf.Ren:=⟨fun|151=>263|152=>289|137=>301|119=>302|224=>282|225=>281|217=>280|266=>294|n=>n,fun|9=>9|21=>21|4=>4|3=>3|5=>5|0=>0|46=>138|n=>n,fun|n=>n⟩
theorem Tryz.QI:Go.Proofs.Lays.n151 Tryz.prog Tryz.Gc:={
 mixed:=by kernel_rfl
 f119:=Tryz.func302.trans (congrArg some (by kernel_rfl))
 f137:=Tryz.func301.trans (congrArg some (by kernel_rfl))
 f151:=Tryz.func263.trans (congrArg some (by kernel_rfl))
 f152:=Tryz.func289.trans (congrArg some (by kernel_rfl))
 f217:=Tryz.func280.trans (congrArg some (by kernel_rfl))
 f224:=Tryz.func282.trans (congrArg some (by kernel_rfl))
 f225:=Tryz.func281.trans (congrArg some (by kernel_rfl))
 f266:=Tryz.func294.trans (congrArg some (by kernel_rfl))
 t0:=Tryz.underlying0
 a0:=Tryz.isAgg0
 z0:=Tryz.sizeOf0
 v0:=Tryz.zeroValue0
 t3:=Tryz.underlying3
 a3:=Tryz.isAgg3
 z3:=Tryz.sizeOf3
 v3:=Tryz.zeroValue3
 t4:=Tryz.underlying4
 a4:=Tryz.isAgg4
 z4:=Tryz.sizeOf4
 v4:=Tryz.zeroValue4
 t5:=Tryz.underlying5
 a5:=Tryz.isAgg5
 z5:=Tryz.sizeOf5
 v5:=Tryz.zeroValue5
 t9:=Tryz.underlying9
 a9:=Tryz.isAgg9
 z9:=Tryz.sizeOf9
 v9:=Tryz.zeroValue9
 t21:=Tryz.underlying21
 a21:=Tryz.isAgg21
 z21:=Tryz.sizeOf21
 v21:=Tryz.zeroValue21
 t46:=Tryz.underlying138
 a46:=Tryz.isAgg138
 z46:=Tryz.sizeOf138
 v46:=Tryz.zeroValue138 }
open Go.RowKit Go.Lib in
theorem Tryz.strings_ContainsRune_ascii(s:ByteArray)(r:Int)(w:World)(h0:0<=r)(h1:r<128) :
  Calls Tryz.prog 263 #[.string s,.int .i32 r] w λ e w'=>e=.returned (.bool (decide (0<=Lib.indexByte s.data.toList r.toNat.toUInt8)))/\w' = w:=Any.strings_ContainsRune_ascii Tryz.QI s r w h0 h1
def Tryz.Ga:Go.Shelf.Ren:=⟨fun|138=>213|195=>250|218=>252|143=>214|219=>253|217=>280|225=>281|224=>282|267=>283|266=>294|314=>295|n=>n,fun|9=>9|3=>3|4=>4|5=>5|0=>0|46=>138|146=>352|51=>164|n=>n,fun|1=>1|n=>n⟩
theorem Tryz.QG:Go.Proofs.Lays.n138 Tryz.prog Tryz.Ga:={
 mixed:=by kernel_rfl
 f138:=Tryz.func213.trans (congrArg some (by kernel_rfl))
 f143:=Tryz.func214.trans (congrArg some (by kernel_rfl))
 f195:=Tryz.func250.trans (congrArg some (by kernel_rfl))
 f217:=Tryz.func280.trans (congrArg some (by kernel_rfl))
 f218:=Tryz.func252.trans (congrArg some (by kernel_rfl))
 f219:=Tryz.func253.trans (congrArg some (by kernel_rfl))
 f224:=Tryz.func282.trans (congrArg some (by kernel_rfl))
 f225:=Tryz.func281.trans (congrArg some (by kernel_rfl))
 f266:=Tryz.func294.trans (congrArg some (by kernel_rfl))
 f267:=Tryz.func283.trans (congrArg some (by kernel_rfl))
 f314:=Tryz.func295.trans (congrArg some (by kernel_rfl))
 t0:=Tryz.underlying0
 a0:=Tryz.isAgg0
 z0:=Tryz.sizeOf0
 v0:=Tryz.zeroValue0
 t3:=Tryz.underlying3
 a3:=Tryz.isAgg3
 z3:=Tryz.sizeOf3
 v3:=Tryz.zeroValue3
 t4:=Tryz.underlying4
 a4:=Tryz.isAgg4
 z4:=Tryz.sizeOf4
 v4:=Tryz.zeroValue4
 t5:=Tryz.underlying5
 a5:=Tryz.isAgg5
 z5:=Tryz.sizeOf5
 v5:=Tryz.zeroValue5
 t9:=Tryz.underlying9
 a9:=Tryz.isAgg9
 z9:=Tryz.sizeOf9
 v9:=Tryz.zeroValue9
 t46:=Tryz.underlying138
 a46:=Tryz.isAgg138
 z46:=Tryz.sizeOf138
 v46:=Tryz.zeroValue138
 t51:=Tryz.underlying164
 a51:=Tryz.isAgg164
 z51:=Tryz.sizeOf164
 v51:=Tryz.zeroValue164
 t146:=Tryz.underlying352
 a146:=Tryz.isAgg352
 z146:=Tryz.sizeOf352
 v146:=Tryz.zeroValue352
 g1:=by kernel_rfl }
open Go.RowKit Go.Lib in
theorem Tryz.strings_Count_one(s:ByteArray)(c:UInt8)(w:World) :
  Calls Tryz.prog 213 #[.string s,.string ⟨#[c]⟩] w λ e w'=>e=.returned (.int .i64 (Lib.countByte s.data.toList c))/\w' = w:=Any.strings_Count_one Tryz.QG s c w
def Tryz.F9:Go.Shelf.Ren:=⟨fun|137=>301|217=>280|266=>294|n=>n,fun|9=>9|5=>5|3=>3|n=>n,fun|n=>n⟩
theorem Tryz.QF:Go.Proofs.Lays.n137 Tryz.prog Tryz.F9:={
 mixed:=by kernel_rfl
 f137:=Tryz.func301.trans (congrArg some (by kernel_rfl))
 f217:=Tryz.func280.trans (congrArg some (by kernel_rfl))
 f266:=Tryz.func294.trans (congrArg some (by kernel_rfl))
 t3:=Tryz.underlying3
 a3:=Tryz.isAgg3
 z3:=Tryz.sizeOf3
 v3:=Tryz.zeroValue3
 t5:=Tryz.underlying5
 a5:=Tryz.isAgg5
 z5:=Tryz.sizeOf5
 v5:=Tryz.zeroValue5
 t9:=Tryz.underlying9
 a9:=Tryz.isAgg9
 z9:=Tryz.sizeOf9
 v9:=Tryz.zeroValue9 }
open Go.RowKit in
theorem Tryz.strings_IndexByte(s:ByteArray)(c:Int)(w:World) :
  Calls Tryz.prog 301 #[.string s,.int .u8 c] w λ e w'=>e=.returned (.int .i64 (Lib.indexByte s.data.toList c.toNat.toUInt8))/\w' = w:=Any.strings_IndexByte Tryz.QF s c w
def Tryz.Gb:Go.Shelf.Ren:=⟨fun|143=>214|219=>253|217=>280|225=>281|224=>282|267=>283|266=>294|314=>295|n=>n,fun|9=>9|3=>3|4=>4|5=>5|46=>138|146=>352|51=>164|n=>n,fun|1=>1|n=>n⟩
theorem Tryz.QH:Go.Proofs.Lays.n143 Tryz.prog Tryz.Gb:={
 mixed:=by kernel_rfl
 f143:=Tryz.func214.trans (congrArg some (by kernel_rfl))
 f217:=Tryz.func280.trans (congrArg some (by kernel_rfl))
 f219:=Tryz.func253.trans (congrArg some (by kernel_rfl))
 f224:=Tryz.func282.trans (congrArg some (by kernel_rfl))
 f225:=Tryz.func281.trans (congrArg some (by kernel_rfl))
 f266:=Tryz.func294.trans (congrArg some (by kernel_rfl))
 f267:=Tryz.func283.trans (congrArg some (by kernel_rfl))
 f314:=Tryz.func295.trans (congrArg some (by kernel_rfl))
 t3:=Tryz.underlying3
 a3:=Tryz.isAgg3
 z3:=Tryz.sizeOf3
 v3:=Tryz.zeroValue3
 t4:=Tryz.underlying4
 a4:=Tryz.isAgg4
 z4:=Tryz.sizeOf4
 v4:=Tryz.zeroValue4
 t5:=Tryz.underlying5
 a5:=Tryz.isAgg5
 z5:=Tryz.sizeOf5
 v5:=Tryz.zeroValue5
 t9:=Tryz.underlying9
 a9:=Tryz.isAgg9
 z9:=Tryz.sizeOf9
 v9:=Tryz.zeroValue9
 t46:=Tryz.underlying138
 a46:=Tryz.isAgg138
 z46:=Tryz.sizeOf138
 v46:=Tryz.zeroValue138
 t51:=Tryz.underlying164
 a51:=Tryz.isAgg164
 z51:=Tryz.sizeOf164
 v51:=Tryz.zeroValue164
 t146:=Tryz.underlying352
 a146:=Tryz.isAgg352
 z146:=Tryz.sizeOf352
 v146:=Tryz.zeroValue352
 g1:=by kernel_rfl }
open Go.RowKit Go.Lib in
theorem Tryz.strings_Index_one(s:ByteArray)(c:UInt8)(w:World) :
  Calls Tryz.prog 214 #[.string s,.string ⟨#[c]⟩] w λ e w'=>e=.returned (.int .i64 (Lib.indexByte s.data.toList c))/\w' = w:=Any.strings_Index_one Tryz.QH s c w
def Tryz.F8:Go.Shelf.Ren:=⟨fun|119=>302|n=>n,fun|21=>21|4=>4|n=>n,fun|n=>n⟩
theorem Tryz.QE:Go.Proofs.Lays.n119 Tryz.prog Tryz.F8:={
 mixed:=by kernel_rfl
 f119:=Tryz.func302.trans (congrArg some (by kernel_rfl))
 t4:=Tryz.underlying4
 a4:=Tryz.isAgg4
 z4:=Tryz.sizeOf4
 v4:=Tryz.zeroValue4
 t21:=Tryz.underlying21
 a21:=Tryz.isAgg21
 z21:=Tryz.sizeOf21
 v21:=Tryz.zeroValue21 }
theorem Tryz.utf8_ValidRune(r:Int)(w:World) :
  Calls Tryz.prog 302 #[.int .i32 r] w λ e w'=>e=.returned (.bool (Lib.validRune r))/\w' = w:=Any.utf8_ValidRune Tryz.QE r w
end Go.Proofs
namespace Go.Proofs.YtemiicbbbojdiaaGreatDoor
open Go Go.Vc _root_.Go.Proofs.Tryz
def ja(a:ByteArray)(b:Int)(w:World)(K:KP):=CC 289 #[.string a,.int .i32 b] w λ a b=>∃ c,a=.returned (iv c)/\K (.bool (decide (c>=0))) b
theorem mV{s1 n1 w K}(h:ja s1 n1 w K):CP 263 #[.string s1,.int .i32 n1] w K:=ah (aE []) func263 (by kernel_rfl) (by kernel_rfl) h
def marks:List UInt8:=[123,125,40,41,44,58,64,43,45,61]
theorem Xk(c:UInt8)(h:128<=c.toNat):∃ a b:UInt8,Utf8.encode (un c)=bs [a,b]/\128<=b.toNat:=by
 have hc:=c.toNat_lt;refine⟨UInt8.ofNat (0xC0+c.toNat / 64),UInt8.ofNat (0x80+c.toNat%64),?_,?_⟩
 ·have hv:Utf8.valid (un c)=true:=by
   unfold Utf8.valid un
   simp
   omega
  have h1:(un c).toNat=c.toNat:=by unfold un; exact Int.toNat_natCast _
  unfold Utf8.encode;simp only[hv,if_true,h1];rw[if_neg (by omega),if_pos (by omega)];rfl
 ·rw[UInt8.toNat_ofNat'];omega
open Go.Shelf Go.RowKit Go.Lib in
set_option maxHeartbeats 2000000 in
set_option maxRecDepth 1000000 in
theorem ir(w:World)(n:Int)(h0:0<=n)(h1 : ¬ n<128)(h2:n<256)(h3:(n==65533)=false)(a b:UInt8)(he:Utf8.encode n=⟨#[a,b]⟩)(hv:Lib.validRune n=true)(hb:128<=b.toNat) :
  Calls prog 289 #[.string ⟨#[123,125,40,41,44,58,64,43,45,61]⟩,.int .i32 n] w λ e w'=>e=.returned (.int .i64 (-1))/\Chg w w' []:=by
 have e289:∀ args w,(callFunc 301 args).run prog w=.ok (.enter 301 args) w:=enters_of func301 (by kernel_rfl) rfl;have e290:∀ args w,(callFunc 302 args).run prog w=.ok (.enter 302 args) w:=enters_of func302 (by kernel_rfl) rfl
 go_enter func289,Tryz.ntmps289
 go_wp2_with (first
  | (go_at_fn 302; refine(Tryz.utf8_ValidRune _ _).mono ?_; rintro e w' ⟨rfl,hw⟩; rw[hw,hv])
  | (go_at_fn 301; refine(Tryz.strings_IndexByte _ _ _).mono ?_; rintro e w' ⟨rfl,hw⟩; rw[hw]))
 have hcv:∀ w,(convert 21 9 (.int .i32 n)).run prog w=.ok (.string ⟨#[a,b]⟩) w:=λ w=>by
  rw[<- he];simp[convert,aD (P:=prog) underlying21,aD (P:=prog) underlying9,Conv.intToString]
 go_step3
 go_wp2_with (first
  | (go_at_fn 301; refine(Tryz.strings_IndexByte _ _ _).mono ?_; rintro e w' ⟨rfl,hw⟩; rw[hw]))
 refine wp_loop_once ?_;have hb2:((125:Int) !=(b.toNat:Int))=true:=by rw[bne_iff_ne]; omega
 have hne:∀ x:UInt8,x.toNat<128->(x==b)=false:=λ x hx=>by rw[beq_eq_false_iff_ne]; rintro rfl; omega
 go_wp2_with (first
  | (go_at_fn 301; refine(Tryz.strings_IndexByte _ _ _).mono ?_; rintro e w' ⟨rfl,hw⟩; rw[hw]))
 all_goals (try go_step3)
 go_wp2_with (first
  | (go_at_fn 301; refine(Tryz.strings_IndexByte _ _ _).mono ?_; rintro e w' ⟨rfl,hw⟩; rw[hw]))
 all_goals go_region
 all_goals go_wp2
 ·have hi:Lib.indexByte [40,41,44,58,64,43,45,61] ((⟨#[a,b]⟩:ByteArray)[1]'(by show 1<2; decide))=-1:=by
   show Lib.indexByte [40,41,44,58,64,43,45,61] b=-1;simp[Lib.indexByte,hne 40 (by decide),hne 41 (by decide),hne 44 (by decide),hne 58 (by decide),hne 64 (by decide),hne 43 (by decide),hne 45 (by decide),hne 61 (by decide)]
  have c2:Chg w w.drew.drew []:=(Chg.drew w []).trans (Chg.drew _ []) (by simp)
  go_region_with (go_at_call 301; refine(Tryz.strings_IndexByte _ _ _).mono ?_; rintro e w' ⟨rfl,hw⟩; rw[hw])
  all_goals go_wp2
  all_goals (rw[Exit.noGoto_ret]; show bodyPost prog Tryz.f289 (λ e w'=>e=Ending.returned (Value.int IntKind.i64 (-1))/\Chg w w' []) Exit.ret _ _; go_ret; exact⟨rfl,c2⟩)
 ·exfalso
  first
   | exact absurd hb2 (show ¬ ((125:Int) !=(b.toNat:Int))=true by assumption)
   | exact absurd hb2 (by rw[show((125:Int) !=(b.toNat:Int))=false by assumption]; decide)
   | exact absurd (show(125:Int)=(b.toNat:Int) by assumption) (by omega)
theorem F0(w:World)(c:UInt8)(h:128<=c.toNat):CP 289 #[sv marks,.int .i32 (un c)] w (λ r w'=>r=iv (-1)/\Chg w w' []):=by
 obtain⟨a,b,he,hb⟩:=Xk c h;have hc:=c.toNat_lt;have hu:un c=(c.toNat:Int):=rfl;refine Calls.mono (ir w (un c) (by omega) (by omega) (by omega) (by rw[beq_eq_false_iff_ne]; omega) a b he (dT (.inl (by omega))) hb) ?_;rintro e w' ⟨rfl,h⟩;exact⟨_,rfl,rfl,h⟩
theorem K6:∀ n:Nat,n<128->decide (0<=Lib.indexByte marks n.toUInt8)=marks.contains n.toUInt8:=by decide
theorem HU{c:UInt8}(h:128<=c.toNat):marks.contains c=false:=by
 cases hm:marks.contains c with
 | false=>rfl
 | true =>
  have:c∈marks:=by simpa using hm
  simp only[marks,List.mem_cons,List.mem_nil_iff,or_false] at this;rcases this with rfl|rfl|rfl|rfl|rfl|rfl|rfl|rfl|rfl|rfl<;>revert h<;>decide
theorem HA(w:World)(c:UInt8):CP 263 #[sv marks,.int .i32 (un c)] w (λ r w'=>r=.bool (marks.contains c)/\Chg w w' []):=by
 rcases Nat.lt_or_ge c.toNat 128 with h|h
 ·refine(Tryz.strings_ContainsRune_ascii (bs marks) (un c) w (by unfold un; omega) (by unfold un; omega)).mono ?_;rintro e w1 ⟨rfl,rfl⟩;refine⟨_,rfl,?_,Chg.refl _ _⟩;have e1:(un c).toNat.toUInt8=c:=by unfold un; rw[Int.toNat_natCast]; exact UInt8.ofNat_toNat
  have:=K6 c.toNat h;have e2:c.toNat.toUInt8=c:=UInt8.ofNat_toNat;rw[e2] at this;rw[e1,<- this]; rfl
 ·refine mV ?_;unfold ja;refine an (F0 w c h) ?_;rintro v w1 ⟨rfl,c1⟩;exact⟨_,rfl,by rw[HU h]; rfl,c1⟩
structure Tk where
 k:Int
 t:List UInt8
 v:Int
 a:Int
def Tk.cells(x:Tk):List Value:=[iv x.k,sv x.t,iv x.v,iv x.a]
theorem Tk.len(x:Tk):x.cells.length=4:=rfl
theorem Tk.one(x:Tk):∀ v∈x.cells,v.oneCell' = true:=by
 intro v hv; simp[Tk.cells] at hv; rcases hv with rfl|rfl|rfl|rfl<;>rfl
def Tk.val(x:Tk):Value:=.agg x.cells.toArray
def wA:Tk:=⟨0,[],0,0⟩
theorem WG:iz prog 262 297 wA.val 4 40:=iz.mk' underlying262 (by kernel_rfl) rfl (by decide)
def digits(l:List UInt8):List UInt8:=l.takeWhile λ c=>yT (un c)
def word(l:List UInt8):List UInt8:=l.takeWhile λ c=>inr (un c)
def gq(l:List UInt8)(n:Nat)(c:UInt8):Tk×Int :=
 if QM (un c) then (if 12<(word (l.drop n)).length then (wA,3) else (⟨1,word (l.drop n),0,n⟩,0))
 else if yT (un c) then (if (y8 (digits (l.drop n))).2≠0 then (wA,(y8 (digits (l.drop n))).2) else (⟨2,digits (l.drop n),(y8 (digits (l.drop n))).1,n⟩,0))
 else if marks.contains c then (⟨3,[c],0,n⟩,0) else (wA,2)
theorem OQ{p:UInt8->Bool}:∀ (l:List UInt8),(l.takeWhile p).all p=true
 | []=>rfl
 | c :: l=>by
  rw[List.takeWhile_cons]
  split
  ·rename_i h; rw[List.all_cons,h,OQ l]; rfl
  ·rfl
theorem Ux(w:World){l:List UInt8}(hl:l.length<=4000){n:Nat}{c:UInt8}(hc:l[n]?=some c) :
  CP 225 #[sv l,iv n] w (λ r w'=>r=.tuple #[(gq l n c).1.val,iv (gq l n c).2]/\Chg w w' []):=by
 refine Eb ?_;unfold CK;have hn:=(List.getElem?_eq_some_iff.1 hc).1;refine(St.start w).one.aB wA.cells.toArray λ r1 w1 s1=>s1.aB wA.cells.toArray λ r2 w2 s2=>s2.aC 0 rfl (Tk.mk 0 [] 0 n).cells rfl (Tk.one _) λ w3 s3=>?_;refine⟨λ w4=>(gq l n c).2=0/\St w w4 (Sep [ai r2 (gq l n c).1.cells.toArray 297,ai r1 wA.cells.toArray 297,emp]),?_,by omega,?_⟩
 ·rintro w4 ⟨h0,s4⟩ -;exact⟨_,_,_,_,s4.cellsIn 0 rfl,s4.aC 1 rfl (gq l n c).1.cells rfl (Tk.one _) λ w5 s5=>⟨_,_,_,_,s5.cellsIn 1 rfl,by rw[h0]; rfl,s5.aA⟩⟩
 rw[Int.toNat_natCast,lO,hc];show au (some c) _;rw[au,wrap32];refine an (A2 w3 (un c)) ?_;rintro v _ ⟨rfl,rfl⟩;refine⟨_,rfl,?_⟩;have fail:∀ {e:Int} {w' : World},St w w' (Sep [ai r2 (Tk.mk 0 [] 0 n).cells.toArray 297,ai r1 wA.cells.toArray 297,emp])->True:=λ _=>trivial;clear fail
 cases h1:QM (un c) with
 | true =>
  have e1:gq l n c=if 12<(word (l.drop n)).length then (wA,3) else (⟨1,word (l.drop n),0,n⟩,0):=by rw[gq,if_pos h1]
  refine cT rfl (an (N9 _ (by omega) (p:=λ c=>inr (un c)) Qx (by omega)) ?_);rintro v w7 ⟨rfl,rfl⟩;refine⟨_,rfl,s3.aJ 0 rfl (j:=0) (show 0<4 by decide) rfl λ w8 s8=>s8.aJ 0 rfl (j:=1) (show 1<4 by decide) rfl λ w9 s9=>⟨_,s9.ag 0 rfl 1,?_⟩⟩;show cond (decide ((((bs (word (l.drop n))).size:Nat):Int)>12)) _ _;rw[iE]
  by_cases h12:12<(word (l.drop n)).length
  ·rw[if_pos h12] at e1;exact cT (dT (by omega)) (s9.aC 1 rfl wA.cells rfl (Tk.one _) λ w10 s10=>⟨0,bs [],0,0,s10.cellsIn 1 rfl,by rw[e1]; rfl,s10.aA⟩)
  ·rw[if_neg h12] at e1;exact cF (dF (by omega)) ⟨by rw[e1],by rw[e1]; exact s9⟩
 | false =>
 refine cF rfl (an (DQ _ (un c)) ?_);rintro v _ ⟨rfl,rfl⟩;refine⟨_,rfl,?_⟩
 cases h2:yT (un c) with
 | true =>
  have e1:gq l n c=if (y8 (digits (l.drop n))).2≠0 then (wA,(y8 (digits (l.drop n))).2) else (⟨2,digits (l.drop n),(y8 (digits (l.drop n))).1,n⟩,0):=by rw[gq,if_neg (by rw[h1]; decide),if_pos h2]
  refine cT rfl (an (N9 _ (by omega) (p:=λ c=>yT (un c)) PL (by omega)) ?_);rintro v w7 ⟨rfl,rfl⟩;refine⟨_,rfl,s3.aJ 0 rfl (j:=0) (show 0<4 by decide) rfl λ w8 s8=>s8.aJ 0 rfl (j:=1) (show 1<4 by decide) rfl λ w9 s9=>⟨_,s9.ag 0 rfl 1,?_⟩⟩;have hdl:(digits (l.drop n)).length<=4000:=Nat.le_trans (List.takeWhile_prefix _).length_le (by rw[List.length_drop]; omega);refine an (NC w9 (l:=digits (l.drop n)) (OQ _) (by omega)) ?_;rintro v _ ⟨rfl,rfl⟩;refine⟨_,_,rfl,?_⟩
  by_cases h3:(y8 (digits (l.drop n))).2=0
  ·rw[if_neg (by simpa using h3)] at e1;exact cF (by rw[h3]; rfl) (s9.aJ 0 rfl (j:=2) (show 2<4 by decide) rfl λ w10 s10=>⟨by rw[e1],by rw[e1]; exact s10⟩)
  ·rw[if_pos h3] at e1;exact cT (by simpa using h3) (s9.aC 1 rfl wA.cells rfl (Tk.one _) λ w10 s10=>⟨0,bs [],0,0,s10.cellsIn 1 rfl,by rw[e1]; rfl,s10.aA⟩)
 | false =>
 refine cF rfl (an (HA _ c) ?_);rintro v w18 ⟨rfl,c18⟩;have s18:=s3.quiet c18;refine⟨_,rfl,?_⟩
 cases h3:marks.contains c with
 | true =>
  have e1:gq l n c=(⟨3,[c],0,n⟩,0):=by rw[gq,if_neg (by rw[h1]; decide),if_neg (by rw[h2]; decide),if_pos h3]
  have e2:IntKind.i64.wrap ((n:Int)+1)=((n+1:Nat):Int):=by rw[aF ⟨by omega,by omega⟩]; omega
  have e3:(bs l).extract n (n+1)=bs [c]:=by
   rw[DG,Nat.add_sub_cancel_left]
   congr 1
   rw[List.take_one,List.head?_drop,hc]; rfl
  rw[e2,iE];simp only[Int.toNat_natCast];rw[e3];refine cT rfl ⟨by omega,by omega,by omega,by omega,?_⟩;exact(s18.quiet (Chg.drew w18 [])).aJ 0 rfl (j:=0) (show 0<4 by decide) rfl λ w8 s8=>s8.aJ 0 rfl (j:=1) (show 1<4 by decide) rfl λ w9 s9=>⟨by rw[e1],by rw[e1]; exact s9⟩
 | false =>
  have e1:gq l n c=(wA,2):=by rw[gq,if_neg (by rw[h1]; decide),if_neg (by rw[h2]; decide),if_neg (by rw[h3]; decide)]
  exact cF rfl (s18.aC 1 rfl wA.cells rfl (Tk.one _) λ w10 s10=>⟨0,bs [],0,0,s10.cellsIn 1 rfl,by rw[e1]; rfl,s10.aA⟩)
theorem Nn{l:List UInt8}{n:Nat}{c:UInt8}(hc:l[n]?=some c)(h0:(gq l n c).2=0):1<=(gq l n c).1.t.length/\n+(gq l n c).1.t.length<=l.length:=by
 have hn:=(List.getElem?_eq_some_iff.1 hc).1;have hd:l.drop n=c :: l.drop (n+1):=by rw[List.drop_eq_getElem_cons hn]; congr 1; exact Option.some.inj ((gE hn).symm.trans hc)
 have tw:∀ {p:UInt8->Bool},p c=true->1<=((l.drop n).takeWhile p).length/\n+((l.drop n).takeWhile p).length<=l.length:=λ {p} hp=>by
  have h1:((l.drop n).takeWhile p).length<=(l.drop n).length:=(List.takeWhile_prefix _).length_le;rw[List.length_drop] at h1;refine⟨?_,by omega⟩;rw[hd,List.takeWhile_cons,if_pos hp]; simp
 unfold gq at h0 ⊢
 split
 ·rename_i h;rw[if_pos h] at h0
  split
  ·rename_i h2; rw[if_pos h2] at h0; cases h0
  ·exact tw (p:=λ c=>inr (un c)) (by simp[inr,h])
 ·rename_i h;rw[if_neg h] at h0
  split
  ·rename_i h2;rw[if_pos h2] at h0
   split
   ·rename_i h3; rw[if_pos h3] at h0; exact absurd h0 h3
   ·exact tw (p:=λ c=>yT (un c)) h2
  ·rename_i h2;rw[if_neg h2] at h0
   split
   ·exact⟨Nat.le_refl _,by simp; omega⟩
   ·rename_i h3; rw[if_neg h3] at h0; cases h0
def Cc(l:List UInt8):Nat->Nat->List Tk->List Tk×Int
 | 0,_,acc=>(acc,0)
 | f+1,n,acc=>match l[n]? with
  | none=>(acc,0)
  | some c=>if c=32 then Cc l f (n+1) acc else if (gq l n c).2≠0 then ([],(gq l n c).2) else Cc l f (n+(gq l n c).1.t.length) (acc++[(gq l n c).1])
def bQ(l:List UInt8):List Tk×Int:=if 4000<l.length then ([],3) else Cc l l.length 0 []
theorem ON{w:World}(l:List UInt8) :
  CP 201 #[sv l] w (λ r w'=>∃ a c,r=.tuple #[.slice a (bQ l).1.length c,iv (bQ l).2]/\St w w' (cH 297 4 Tk.cells a c (bQ l).1)):=by
 refine y5 ?_;unfold vj;rw[iE]
 by_cases hl:4000<l.length
 ·refine cT (dT (by omega)) ⟨none,0,?_⟩;rw[bQ,if_pos hl];exact⟨rfl,(St.start w).cV.first⟩
 refine cF (dF (by omega)) ?_;have e0:bQ l=Cc l l.length 0 []:=by rw[bQ,if_neg hl]
 refine⟨λ a l1 c n w1 m=>∃ (k:Nat) (acc:List Tk),n=k/\k<=l.length/\m=l.length-k/\l1=acc.length/\acc.length<=k/\(∃ f,l.length-k<=f/\Cc l f k acc=bQ l)/\St w w1 (star (cH 297 4 Tk.cells a c acc) emp),⟨l.length,0,[],rfl,by omega,by omega,rfl,by simp,⟨l.length,by omega,e0.symm⟩,(St.start w).cV⟩,?_⟩;rintro w1 m a l1 c n ⟨k,acc,rfl,hk,hm,rfl,hac,⟨f,hf,ht⟩,s1⟩ -
 by_cases hlt:k<l.length
 ·have hc:l[k]?=some (l[k]'hlt):=gE hlt;generalize l[k]'hlt=x at hc;obtain⟨f,rfl⟩:∃ g,f=g+1:=⟨f-1,by omega⟩;rw[Cc,hc] at ht;simp only at ht;refine cT (dT (by omega)) ⟨by omega,?_⟩;rw[Int.toNat_natCast,lO,hc];show cond ((x.toNat:Int)==32) _ _
  by_cases h32:x=32
  ·rw[if_pos h32] at ht;exact cT (by rw[h32]; rfl) ⟨l.length-(k+1),by omega,k+1,acc,aF ⟨by omega,by omega⟩,by omega,rfl,rfl,by omega,⟨f,by omega,ht⟩,s1⟩
  rw[if_neg h32] at ht;have hne:(x.toNat:Int)≠32:=λ h=>h32 (UInt8.toNat_inj.1 (by have:(32:UInt8).toNat=32:=rfl; omega));refine cF (by simpa using hne) (an (Ux w1 (by omega) hc) ?_);rintro v w2 ⟨rfl,c2⟩;have s2:St w w2 (Sep [_]):=s1.quiet c2;refine⟨_,_,_,_,_,rfl,s2.aB wA.cells.toArray λ r1 w3 s3=>s3.aC 0 rfl (gq l k x).1.cells rfl (Tk.one _) λ w4 s4=>?_⟩
  by_cases he:(gq l k x).2=0
  ·rw[if_neg (by simpa using he)] at ht;have hol:=Nn hc he;refine cF (by rw[he]; rfl) ⟨_,_,_,_,s4.cellsIn 0 rfl,eK WG Tk.len (x:=(gq l k x).1) (Tk.one _) (s4.out 1 rfl) (by omega) (by omega) (λ a' c' w5 s5=>?_) rfl⟩;have s6:St w w5 (Sep [_,_]):=s5;refine⟨_,s6.ag 1 rfl 1,l.length-(k+(gq l k x).1.t.length),by omega,k+(gq l k x).1.t.length,acc++[(gq l k x).1],?_,hol.2,rfl,rfl,?_,⟨f,by omega,ht⟩,s6.ay [0]⟩
   ·rw[iE,aF ⟨by omega,by omega⟩]; omega
   ·rw[List.length_append,List.length_singleton]; omega
  ·rw[if_pos he] at ht;refine cT (by simpa using he) ⟨none,0,?_⟩;rw[<- ht];exact⟨rfl,(St.start' s4.aA).cV.first⟩
 ·have hc:l[k]?=none:=List.getElem?_eq_none (by omega);have e:Cc l f k acc=(acc,0):=by
   cases f with
   | zero=>rfl
   | succ f=>rw[Cc,hc]
  rw[e] at ht;refine cF (dF (by omega)) ⟨a,c,?_⟩;rw[<- ht];exact⟨rfl,s1.first⟩
def W6(b:Nat)(a:OA)(c:Nat)(l:List Tk)(e:Int):List aG:=[ai b #[.slice a l.length c,iv e] 301,held λ w=>bG 4 Tk.cells w a l]
def lK(w0 w:World)(b:Nat)(l:List Tk)(e:Int)(B:aG):Prop:=∃ a c,l.length<=c/\l.length<=4000/\St w0 w (Sep (W6 b a c l e++[B]))
abbrev pt (b:Nat):Value:=.pointer (some ⟨b,0,none⟩)
section
variable {w0 w:World} {b:Nat} {l:List Tk} {e:Int} {B:aG}
theorem lK.quiet{w' : World}(h:lK w0 w b l e B)(hc:Chg w w' []):lK w0 w' b l e B:=let ⟨a,c,h1,h2,s⟩:=h; ⟨a,c,h1,h2,s.quiet hc⟩
theorem lK.aA(h:lK w0 w b l e B):Chg w0 w []:=let ⟨_,_,_,_,s⟩:=h; s.aA
theorem lK.add(h:lK w0 w b l e B){w' : World}{A:aG}(k:St w w' A):lK w0 w' b l e (star A B):=by
 obtain⟨a,c,h1,h2,s⟩:=h;have s1:St w0 w' (Sep [A,_,_,B]):=s.and k;exact⟨a,c,h1,h2,(s1.ay [1,2,0,3]).eqv (bw.right (bw.right bw.assoc'))⟩
theorem lK.drop{A:aG}(h:lK w0 w b l e (star A B)):lK w0 w b l e B:=by
 obtain⟨a,c,h1,h2,s⟩:=h;exact⟨a,c,h1,h2,s.weak (bU.right (bU.right (bU.left ((bU.left (bU.none A)).trans (bw.swap.trans (bw.unit' B)).weak))))⟩
theorem lK.out{m:List aG}(h:lK w0 w b l e (star (Sep m) B)):∃ B',St w0 w (Sep (m++[B']))/\∀ {w' : World} {m' : List aG},St w0 w' (Sep (m'++[B']))->lK w0 w' b l e (star (Sep m') B):=by
 obtain⟨a,c,h1,h2,s⟩:=h;refine⟨star (Sep (W6 b a c l e)) B,St.open (((s.split (W6 b a c l e)).eqv (bw.right (bw.unit' _))).Hl),λ k=>⟨a,c,h1,h2,?_⟩⟩;exact St.cat ((k.shut.Hl).eqv (bw.right (bw.unit _)))
theorem lK.frame(h:lK w0 w b l e B):St w0 w B:=by
 obtain⟨a,c,h1,h2,s⟩:=h;exact(s.split [_,_]).second.single
def aS(l:List Tk)(e:Int):Tk:=if e=0 then l.headD wA else wA
def gT(l:List Tk)(e:Int):List Tk:=if e=0 then l.tail else l
def oB(e k:Int):Int:=if e=0 then k else e
def uo(l:List Tk)(e:Int):Int:=oB e (if l.length=0 then 1 else 2)
def oO(m:List UInt8)(l:List Tk)(e:Int):Bool:=decide ((aS l e).k=3)&&(aS l e).t==m
def ur(m:List UInt8)(l:List Tk)(e:Int):List Tk:=if oO m l e then gT l e else l
theorem RZ{w:World}{a:OA}{c:Nat}{l:List Tk}(h:bG 4 Tk.cells w a l)(hc:l.length<=c):bG 4 Tk.cells w (if c=1 then a else Option.map (λ x=>Addr.add x (1*4)) a) l.tail:=λ i x hx=>by
 rw[List.getElem?_tail] at hx;have hi:=(List.getElem?_eq_some_iff.1 hx).1;obtain⟨q,hq,hcl⟩:=h.at hx;refine⟨q.add (1*4),_,by rw[if_neg (by omega),hq]; rfl,?_,rfl,rfl⟩;rw[Addr.add_add,<- Nat.add_mul,Nat.add_comm 1 i]; exact hcl
def MH(m:List UInt8)(l:List Tk)(e:Int):Int:=if oO m l e then e else uo l e
theorem rP(h:lK w0 w b l e B):CP 226 #[pt b] w (λ r w'=>r=(aS l e).val/\Chg w w' []):=by
 obtain⟨a,c,h1,h2,s⟩:=h;refine oX ?_;unfold j9;have rd:bG 4 Tk.cells w a l:=s.aP 1 rfl;have g0:=s.ag 0 rfl 0; have g1:=s.ag 0 rfl 1;refine(St.start w).one.aB wA.cells.toArray λ r1 w1 s1=>?_;have k0:=dh g0 s1.aA; have k1:=dh g1 s1.aA;refine⟨λ x w2=>x = !(decide (e=0)&&decide (l.length≠0))/\w2=w1,?_,_,k1,?_⟩
 ·rintro w2 x ⟨rfl,rfl⟩ -
  by_cases he:e=0
  ·cases l with
   | nil=>exact cT (by simp) (s1.aC 0 rfl wA.cells rfl (Tk.one _) λ w3 s3=>⟨_,_,_,_,s3.cellsIn 0 rfl,by rw[aS,if_pos he]; rfl,s3.aA⟩)
   | cons x l =>
    obtain⟨q,hq,hcl⟩:=(rd.aA s1.aA).at (i:=0) (x:=x) rfl;refine cF (by simp[he]) ⟨_,_,_,k0,aq hq ⟨by omega,by simp,_,_,_,_,hcl,s1.aC 0 rfl x.cells rfl (Tk.one _) λ w3 s3=>⟨_,_,_,_,s3.cellsIn 0 rfl,by rw[aS,if_pos he]; rfl,s3.aA⟩⟩⟩
  ·exact cT (by simp[he]) (s1.aC 0 rfl wA.cells rfl (Tk.one _) λ w3 s3=>⟨_,_,_,_,s3.cellsIn 0 rfl,by rw[aS,if_neg he]; rfl,s3.aA⟩)
 ·by_cases he:e=0
  ·refine cF (by simp[he]) ⟨_,_,_,k0,?_,rfl⟩;rw[dT he]
   cases l with
   | nil=>rfl
   | cons x l=>simp; omega
  ·exact cT (by simpa using he) ⟨by simp[he],rfl⟩
theorem jE(h:lK w0 w b l e B)(k:Int):CP 228 #[pt b,iv k] w (λ r w'=>r=.tuple #[]/\lK w0 w' b l (oB e k) B):=by
 obtain⟨a,c,h1,h2,s⟩:=h;refine oU ?_;unfold j6;refine⟨λ x w1=>x=(e==0)/\w1=w,?_,_,s.ag 0 rfl 1,rfl,rfl⟩;rintro w1 x ⟨rfl,rfl⟩ -
 by_cases he:e=0
 ·exact cT (by simpa using he) (s.aJ 0 rfl (j:=1) (show 1<2 by decide) rfl λ w2 s2=>⟨rfl,a,c,h1,h2,by rw[oB,if_pos he]; exact s2⟩)
 ·exact cF (by simpa using he) ⟨rfl,a,c,h1,h2,by rw[oB,if_neg he]; exact s⟩
theorem BH(h:lK w0 w b l e B):CP 265 #[pt b] w (λ r w'=>r=.tuple #[]/\lK w0 w' b l (uo l e) B):=by
 refine nM ?_;unfold js;refine⟨λ w1=>lK w0 w1 b l (if l.length=0 then oB e 1 else e) B,?_,?_⟩
 ·rintro w1 h1 -;refine an (jE h1 2) ?_;rintro v w2 ⟨rfl,h2⟩;refine⟨rfl,rfl,?_⟩;have:uo l e=oB (if l.length=0 then oB e 1 else e) 2:=by
   unfold uo oB
   split<;>split<;>simp_all
  rw[this]; exact h2
 ·have h':=h;obtain⟨a,c,h1,h2,s⟩:=h';refine⟨_,_,_,s.ag 0 rfl 0,?_⟩
  by_cases hl:l.length=0
  ·refine cT (by simpa using hl) (an (jE h 1) ?_);rintro v w3 ⟨rfl,h3⟩;exact⟨rfl,by rw[if_pos hl]; exact h3⟩
  ·exact cF (by simpa using hl) (by rw[if_neg hl]; exact h)
theorem zR(h:lK w0 w b l e B):CP 230 #[pt b] w (λ r w'=>r=(aS l e).val/\lK w0 w' b (gT l e) e B):=by
 have h':=h;obtain⟨a,c,h1,h2,s⟩:=h';refine oW ?_;unfold j8;refine s.aB wA.cells.toArray λ r1 w1 s1=>?_;refine an (rP (⟨a,c,h1,h2,s1.ay [1,2,3]⟩:lK w0 w1 b l e B)) ?_;rintro v w2 ⟨rfl,c2⟩;refine⟨_,_,_,_,rfl,(s1.quiet c2).aB wA.cells.toArray λ r2 w3 s3=>s3.aC 0 rfl (aS l e).cells rfl (Tk.one _) λ w4 s4=>?_⟩;refine⟨λ w5=>∃ a' c',(gT l e).length<=c'/\St w0 w5 (Sep (ai r2 (aS l e).cells.toArray 297 :: ai r1 wA.cells.toArray 297 :: (W6 b a' c' (gT l e) e++[B]))),?_,?_⟩
 ·rintro w5 ⟨a',c',hc',s5⟩ -;have hle:(gT l e).length<=4000:=by
   unfold gT; split
   ·rw[List.length_tail]; omega
   ·exact h2
  exact⟨_,_,_,_,s5.cellsIn 0 rfl,s5.aC 1 rfl (aS l e).cells rfl (Tk.one _) λ w6 s6=>⟨_,_,_,_,s6.cellsIn 1 rfl,rfl,a',c',hc',hle,s6.ay [2,3,4]⟩⟩
 refine⟨λ x w7=>x=(decide (e=0)&&decide (l.length≠0))/\w7=w4,?_,_,s4.ag 2 rfl 1,?_⟩
 ·rintro w7 x ⟨rfl,rfl⟩ -
  by_cases g:e=0/\l.length≠0
  ·have en:gT l e=l.tail:=by rw[gT,if_pos g.1]
   refine cT (by simp[g.1]; intro h; exact g.2 (by rw[h]; rfl)) ⟨_,_,_,s4.ag 2 rfl 0,by omega,by omega,?_⟩;refine s4.aJ 2 rfl (j:=0) (show 0<2 by decide) rfl λ w8 s8=>⟨if c=1 then a else Option.map (λ x=>Addr.add x (1*4)) a,c-1,by rw[en,List.length_tail]; omega,?_⟩;have s9:=(s8.ay [3,0,1,2,4]).AP ((aU _).mono λ w hr=>RZ hr h1);rw[en];have el:l.tail.length=l.length-1:=List.length_tail;show St w0 w8 (Sep [_,_,ai b #[.slice (if c=1 then a else Option.map (λ x=>Addr.add x (1*4)) a) l.tail.length (c-1),iv e] _,_,_]);rw[el];exact s9.ay [1,2,3,0,4]
  ·have en:gT l e=l:=by
    unfold gT
    split
    ·rename_i he
     cases l with
     | nil=>rfl
     | cons x l=>exact absurd ⟨he,by simp⟩ g
    ·rfl
   refine cF (by simp only[Bool.and_eq_false_iff,decide_eq_false_iff_not]; by_cases he:e=0; exact .inr λ h=>g ⟨he,h⟩; exact .inl he) ⟨a,c,by rw[en]; exact h1,by rw[en]; exact s4⟩
 ·by_cases he:e=0
  ·refine cT (by simpa using he) ⟨_,_,_,s4.ag 2 rfl 0,?_,rfl⟩;rw[dT he,Bool.true_and]
   by_cases hl:l.length=0
   ·rw[dF (by omega),dF (by omega)]
   ·rw[dT (by omega),dT hl]
  ·exact cF (by simpa using he) ⟨by rw[dF he]; rfl,rfl⟩
theorem rN(h:lK w0 w b l e B)(m:List UInt8):CP 233 #[pt b,sv m] w (λ r w'=>r=.bool (oO m l e)/\lK w0 w' b (ur m l e) e B):=by
 refine mE ?_;unfold iM;refine an (rP h) ?_;rintro v w1 ⟨rfl,c1⟩;refine⟨_,_,_,_,rfl,(St.start w1).one.aB wA.cells.toArray λ r1 w2 s2=>s2.aC 0 rfl (aS l e).cells rfl (Tk.one _) λ w3 s3=>?_⟩;have h3:=(h.quiet c1).quiet s3.aA;refine⟨λ x w4=>x=(!oO m l e)/\w4=w3,?_,_,s3.ag 0 rfl 0,?_⟩
 ·rintro w4 x ⟨rfl,rfl⟩ -
  cases ha:oO m l e with
  | false=>exact cT rfl ⟨rfl,by rw[ur,ha]; exact h3⟩
  | true =>
   refine cF rfl (an (zR h3) ?_);rintro v w5 ⟨rfl,h5⟩;exact⟨_,_,_,_,rfl,rfl,by rw[ur,ha]; exact h5⟩
 ·by_cases hk:(aS l e).k=3
  ·refine cF (by simpa using hk) ⟨_,s3.ag 0 rfl 1,?_,rfl⟩;rw[oO,dT hk,Bool.true_and,jy,jy]
  ·exact cT (by simpa using hk) ⟨by rw[oO,dF hk]; rfl,rfl⟩
theorem fM(h:lK w0 w b l e B)(m:List UInt8):CP 231 #[pt b,sv m] w (λ r w'=>r=.tuple #[]/\lK w0 w' b (ur m l e) (MH m l e) B):=by
 refine mG ?_;unfold iO;refine an (rN h m) ?_;rintro v w1 ⟨rfl,h1⟩;refine⟨_,rfl,?_⟩
 cases ha:oO m l e with
 | true=>exact cF rfl ⟨rfl,by rw[MH,ha]; exact h1⟩
 | false =>
  have el:ur m l e=l:=by rw[ur,ha]; rfl
  rw[el] at h1;refine cT rfl (an (BH h1) ?_);rintro v w2 ⟨rfl,h2⟩;exact⟨rfl,rfl,by rw[el,MH,ha]; exact h2⟩
def vR(l:List Tk)(e:Int):List UInt8:=if (aS l e).k=1 then (aS l e).t else []
def C6(l:List Tk)(e:Int):List Tk:=if (aS l e).k=1 then gT l e else l
def J5(l:List Tk)(e:Int):Int:=if (aS l e).k=1 then e else uo l e
theorem RO(h:lK w0 w b l e B):CP 303 #[pt b] w (λ r w'=>r=sv (vR l e)/\lK w0 w' b (C6 l e) (J5 l e) B):=by
 refine oV ?_;unfold j7;refine an (rP h) ?_;rintro v w1 ⟨rfl,c1⟩;refine⟨_,_,_,_,rfl,(St.start w1).one.aB wA.cells.toArray λ r1 w2 s2=>s2.aC 0 rfl (aS l e).cells rfl (Tk.one _) λ w3 s3=>⟨_,s3.ag 0 rfl 0,?_⟩⟩;have h3:=(h.quiet c1).quiet s3.aA
 by_cases hk:(aS l e).k=1
 ·have g1:=s3.ag 0 rfl 1;refine cF (by simpa using hk) (an (zR ((h.quiet c1).add s3)) ?_);rintro v w5 ⟨rfl,h5⟩;have s5:St w0 w5 (Sep [ai r1 (aS l e).cells.toArray 297,emp]):=h5.frame.first;exact⟨_,_,_,_,rfl,_,s5.ag 0 rfl 1,by rw[vR,if_pos hk],by rw[C6,if_pos hk,J5,if_pos hk]; exact h5.drop⟩
 ·refine cT (by simpa using hk) (an (BH h3) ?_);rintro v w2 ⟨rfl,h2⟩;exact⟨rfl,by rw[vR,if_neg hk],by rw[C6,if_neg hk,J5,if_neg hk]; exact h2⟩
def Hs(m:Int)(t:Tk):Bool:=decide (t.v<0)||decide (t.v>m)
def wE(m:Int)(l:List Tk)(e:Int):Int:=if (aS l e).k=2/\Hs m (aS l e)=false then (aS l e).v else 0
def Ht(m:Int)(l:List Tk)(e:Int):List Tk:=if (aS l e).k=2/\Hs m (aS l e)=false then gT l e else l
def L9(m:Int)(l:List Tk)(e:Int):Int:=if (aS l e).k=2 then (if Hs m (aS l e) then oB e 4 else e) else uo l e
theorem xB(h:lK w0 w b l e B)(m:Int):CP 234 #[pt b,iv m] w (λ r w'=>r=iv (wE m l e)/\lK w0 w' b (Ht m l e) (L9 m l e) B):=by
 refine mF ?_;unfold iN;refine an (rP h) ?_;rintro v w1 ⟨rfl,c1⟩;refine⟨_,_,_,_,rfl,(St.start w1).one.aB wA.cells.toArray λ r1 w2 s2=>s2.aC 0 rfl (aS l e).cells rfl (Tk.one _) λ w3 s3=>⟨_,s3.ag 0 rfl 0,?_⟩⟩;have h3:=(h.quiet c1).add s3
 by_cases hk:(aS l e).k=2
 ·refine cF (by simpa using hk) ⟨λ x w5=>x=Hs m (aS l e)/\w5=w3,?_,_,s3.ag 0 rfl 2,?_⟩
  ·rintro w5 x ⟨rfl,rfl⟩ -
   cases ha:Hs m (aS l e) with
   | true =>
    refine cT rfl (an (jE h3 4) ?_);rintro v w6 ⟨rfl,h6⟩;exact⟨rfl,by rw[wE,if_neg (by rw[ha]; simp)],by rw[Ht,if_neg (by rw[ha]; simp),L9,if_pos hk,if_pos ha]; exact h6.drop⟩
   | false =>
    refine cF rfl (an (zR h3) ?_);rintro v w7 ⟨rfl,h7⟩;have s7:St w0 w7 (Sep [ai r1 (aS l e).cells.toArray 297,emp]):=h7.frame.first;exact⟨_,_,_,_,rfl,_,s7.ag 0 rfl 2,by rw[wE,if_pos ⟨hk,ha⟩],by rw[Ht,if_pos ⟨hk,ha⟩,L9,if_pos hk,if_neg (by rw[ha]; decide)]; exact h7.drop⟩
  ·by_cases h0:(aS l e).v<0
   ·exact cT (dT h0) ⟨by rw[Hs,dT h0]; rfl,rfl⟩
   ·exact cF (dF h0) ⟨_,s3.ag 0 rfl 2,by rw[Hs,dF h0]; rfl,rfl⟩
 ·refine cT (by simpa using hk) (an (BH h3) ?_);rintro v w4 ⟨rfl,h4⟩;exact⟨rfl,by rw[wE,if_neg (λ h=>hk h.1)],by rw[Ht,if_neg (λ h=>hk h.1),L9,if_neg hk]; exact h4.drop⟩
theorem Bv(h:lK w0 w b l e B):CP 235 #[pt b] w (λ r w'=>r=iv e/\w' = w):=by
 obtain⟨a,c,h1,h2,s⟩:=h;refine qi ?_;unfold kZ;exact⟨_,s.ag 0 rfl 1,rfl,rfl⟩
def FC(l:List Tk)(e:Int):Int:=if e=0/\0<l.length then 3 else e
theorem U5(h:lK w0 w b l e B):CP 204 #[pt b] w (λ r w'=>r=iv (FC l e)/\w' = w):=by
 have h':=h;obtain⟨a,c,h1,h2,s⟩:=h;refine qh ?_;unfold kY;refine⟨λ x w1=>x=decide (e=0/\0<l.length)/\w1=w,?_,_,s.ag 0 rfl 1,?_⟩
 ·rintro w1 x ⟨rfl,rfl⟩ -
  by_cases g:e=0/\0<l.length
  ·exact cT (dT g) ⟨by rw[FC,if_pos g],rfl⟩
  ·refine cF (dF g) (an (Bv h') ?_);rintro v w2 ⟨rfl,rfl⟩;exact⟨_,rfl,by rw[FC,if_neg g],rfl⟩
 ·by_cases he:e=0
  ·refine cT (by simpa using he) ⟨_,_,_,s.ag 0 rfl 0,?_,rfl⟩
   by_cases hl:0<l.length
   ·rw[dT (p:=e=0/\0<l.length) ⟨he,hl⟩]; exact dT (by omega)
   ·rw[dF (p:=e=0/\0<l.length) (λ h=>hl h.2)]; exact dF (by omega)
  ·exact cF (by simpa using he) ⟨by rw[dF (p:=e=0/\0<l.length) (λ h=>he h.1)],rfl⟩
theorem Lc(s:St w0 w B){a:OA}{c:Nat}(hr:bG 4 Tk.cells w a l)(hl:l.length<=4000):CP 202 #[.slice a l.length c] w (λ r w'=>∃ b,r=pt b/\lK w0 w' b l 0 B):=by
 refine sD ?_;unfold mD;refine ij (c2:=c) WG Tk.len Tk.one (l:=[]) s.cV hr (by simp; omega) (by simp; omega) λ a' c' w1 s1=>?_;have s2:St w0 w1 (star (cH 297 4 Tk.cells a' c' l) B):=s1;have hcap:=s2.oI.1;exact(s2.yl).aB _ λ r1 w2 s3=>⟨r1,rfl,a',c',hcap,hl,(((s3.ay [1,0,2]).AP (bh Tk.len)).ay [1,0,2])⟩
end
def nN(n:Int):Bool:=decide (0<=n)&&decide (n<=4)
def pr(l:List Int):Int:=l.foldl (λ n s=>n*(s+1)) 1
theorem Em(l:List Int)(s:Int):pr (l++[s])=pr l*(s+1):=by simp[pr]
theorem wD{l:List Int}{p:Int->Bool}{k:Nat}{c:Int}(h:(l.take k).all p=true)(hc:l[k]?=some c)(hp:p c=true):(l.take (k+1)).all p=true:=by
 rw[aH hc,List.all_append,h]; simp[hp]
theorem zY{l:List Int}{p:Int->Bool}{k:Nat}{c:Int}(hc:l[k]?=some c)(hp:p c=false):l.all p=false:=by
 rw[List.all_eq_false]; exact⟨c,List.mem_of_getElem? hc,by simp[hp]⟩
theorem de(w:World)(u:I6):CP 93 #[.agg u.vs.toArray] w (λ r w'=>r=iv (if u.l.all nN then 0 else 4)/\Chg w w' []):=by
 refine H7 ?_;unfold JK;refine aL ?_;have s1:=(St.start w).one.cN u.vs.toArray 39;generalize hw1:w.alloc _=w1 at s1 ⊢;generalize hr1:w.heap.size=r1 at s1 ⊢;refine⟨_,s1.cellsIn 0 rfl,λ n w2 m=>∃ k:Nat,n=k/\k<=6/\m=6-k/\(u.l.take k).all nN=true/\w2=w1,⟨6,0,rfl,by omega,by omega,rfl,rfl⟩,?_⟩;rintro w2 m n ⟨k,rfl,hk,hm,ha,rfl⟩ -
 by_cases hlt:(k:Int)<6
 ·have hk' : k<6:=by omega
  have g1:=u.get k hk';have g2:=u.oY k hk';generalize u.at' k=x at g1 g2;refine cT (by simpa using hlt) ⟨by omega,by omega,x,g1,λ b w3=>w3=w2/\b = !nN x,?_,?_⟩
  ·rintro w3 b ⟨rfl,rfl⟩ -
   cases hx:nN x with
   | true=>exact cF rfl ⟨6-(k+1),by omega,k+1,inc (by decide) hk',by omega,rfl,wD ha g2 hx,rfl⟩
   | false=>exact cT rfl ⟨by rw[zY g2 hx]; rfl,s1.aA⟩
  ·by_cases h0:x<0
   ·exact cT (by simpa using h0) ⟨rfl,by simp[nN]; omega⟩
   ·refine cF (by simpa using h0) ⟨rfl,?_⟩;have:decide (0<=x)=true:=dT (by omega);unfold nN;rw[this,Bool.true_and]
    by_cases h4:x<=4
    ·rw[dT h4,dF (by omega)]; rfl
    ·rw[dF h4,dT (by omega)]; rfl
 ·obtain rfl:k=6:=by omega
  refine cF (by simp) ⟨?_,s1.aA⟩;rw[show u.l.all nN=true from ha]; rfl
theorem qy{l:List Int}(h:l.all nN=true):1<=pr l/\pr l<=5 ^ l.length:=by
 suffices H:∀ (l:List Int) (a:Int),l.all nN=true->1<=a->1<=l.foldl (λ n s=>n*(s+1)) a/\l.foldl (λ n s=>n*(s+1)) a<=a*5 ^ l.length by
  have:=H l 1 h (by omega);unfold pr; omega
 intro l
 induction l with
 | nil=>intro a _ h1; simp; exact h1
 | cons x l ih =>
  intro a ha h1;simp only[List.all_cons,Bool.and_eq_true] at ha;have hx:=ha.1;simp only[nN,Bool.and_eq_true,decide_eq_true_eq] at hx;have h2:1<=a*(x+1):=by
   have:a*1<=a*(x+1):=Int.mul_le_mul_of_nonneg_left (by omega) (by omega);omega
  obtain⟨h3,h4⟩:=ih (a*(x+1)) ha.2 h2;refine⟨h3,?_⟩;simp only[List.foldl_cons,List.length_cons,Int.pow_succ];have h5:a*(x+1)<=a*5:=Int.mul_le_mul_of_nonneg_left (by omega) (by omega);have h6:(a*(x+1))*5 ^ l.length<=(a*5)*5 ^ l.length:=Int.mul_le_mul_of_nonneg_right h5 (Int.pow_nonneg (by omega));have h7:a*5*5 ^ l.length=a*(5 ^ l.length*5):=by rw[Int.mul_assoc,Int.mul_comm 5 (5 ^ l.length)]
  rw[<- h7];omega
theorem zD(w:World)(u:I6):CP 118 #[.agg u.vs.toArray] w (λ r w'=>r=iv (if u.l.all nN=true/\pr u.l<=1024 then pr u.l else 0)/\Chg w w' []):=by
 refine Ib ?_;unfold JO;refine aL ?_;have s1:=(St.start w).one.cN u.vs.toArray 39;generalize hw1:w.alloc _=w1 at s1 ⊢;generalize hr1:w.heap.size=r1 at s1 ⊢;refine⟨_,s1.cellsIn 0 rfl,an (de w1 u) ?_⟩;rintro v w2 ⟨rfl,c2⟩;refine⟨_,rfl,?_⟩;have s2:=s1.quiet c2
 by_cases hall:u.l.all nN=true
 ·rw[if_pos hall];refine cF rfl ⟨_,s2.cellsIn 0 rfl,λ p n w3 m=>∃ k:Nat,n=k/\k<=6/\m=6-k/\p=pr (u.l.take k)/\w3=w2,⟨6,0,rfl,by omega,by omega,rfl,rfl⟩,?_⟩;rintro w3 m p n ⟨k,rfl,hk,hm,rfl,rfl⟩ -;have hb:1<=pr (u.l.take k)/\pr (u.l.take k)<=15625:=by
   have h1:(u.l.take k).all nN=true:=by
    rw[List.all_eq_true] at hall ⊢;exact λ x hx=>hall x (List.mem_of_mem_take hx)
   obtain⟨h2,h3⟩:=qy h1;refine⟨h2,Int.le_trans h3 ?_⟩;have h4:(u.l.take k).length=k:=by simp[I6.len]; omega
   rw[h4]
   match k,hk with
   | 0,_|1,_|2,_|3,_|4,_|5,_|6,_=>decide
  by_cases hlt:(k:Int)<6
  ·have hk' : k<6:=by omega
   have g1:=u.get k hk';have g2:=u.oY k hk';generalize u.at' k=x at g1 g2;have hx:0<=x/\x<=4:=by
    have:=List.all_eq_true.1 hall x (List.mem_of_getElem? g2);simpa[nN] using this
   have hm1:pr (u.l.take k)*(x+1)<=15625*5:=Int.le_trans (Int.mul_le_mul_of_nonneg_left (show x+1<=5 by omega) (by omega)) (Int.mul_le_mul_of_nonneg_right hb.2 (by omega));have hm0:0<=pr (u.l.take k)*(x+1):=Int.mul_nonneg (by omega) (by omega);refine cT (by simpa using hlt) ⟨by omega,by omega,x,g1,6-(k+1),by omega,k+1,inc (by decide) hk',by omega,rfl,?_,rfl⟩;rw[aF (n:=x+1) ⟨by omega,by omega⟩,aF ⟨by omega,by omega⟩,aH g2,Em]
  ·obtain rfl:k=6:=by omega
   refine cF (by simp) ?_;have e:u.l.take 6=u.l:=rfl;rw[e] at hb ⊢
   by_cases hp:pr u.l<=1024
   ·refine cF (dF (by omega)) ⟨?_,s2.aA⟩;rw[if_pos ⟨hall,hp⟩]
   ·refine cT (dT (by omega)) ⟨?_,s2.aA⟩;rw[if_neg λ h=>hp h.2]
 ·rw[if_neg hall];refine cT rfl ⟨?_,s2.aA⟩;rw[if_neg λ h=>hall h.1]
structure Pr where
 nm:List UInt8
 sup:Int
 res:Int
 pts:Int
 grp:Int
def Pr.cells(p:Pr):List Value:=[sv p.nm,iv p.sup,iv p.res,iv p.pts,iv p.grp]
def Pr.In(p:Pr):Prop:=Go.Vc.In p.sup/\Go.Vc.In p.res/\Go.Vc.In p.pts/\Go.Vc.In p.grp
def fh(w:World)(a:OA)(l:List Pr):Prop:=∀ (i:Nat) (p:Pr),l[i]?=some p->p.In/\∃ q,a=some q/\af w (q.add (i*5)) 0 p.cells
theorem fh.aA{w w' : World}{a:OA}{l:List Pr}(h:fh w a l)(hc:Chg w w' []):fh w' a l:=λ i p hp =>
 let ⟨h1,q,hq,h2⟩:=h i p hp
 ⟨h1,q,hq,cA hc h2⟩
theorem fh.take{w:World}{a:OA}{l:List Pr}(h:fh w a l)(n:Nat):fh w a (l.take n):=λ i p hp=>by
 rw[List.getElem?_take] at hp
 split at hp
 ·exact h i p hp
 ·cases hp
theorem Pr.one(p:Pr):∀ v∈p.cells,v.oneCell' = true:=by
 intro v hv; simp[Pr.cells] at hv; rcases hv with rfl|rfl|rfl|rfl|rfl<;>rfl
theorem Oo{a:OA}{c:Nat}:(if c=0 then a else Option.map (λ x=>Addr.add x (0*5)) a)=a:=by
 split
 ·rfl
 ·cases a<;>simp[Addr.add]
theorem iB{α:Type}{l:List α}{p:α->Bool}{k:Nat}{x:α}(h:(l.take k).any p=false)(hx:l[k]?=some x)(hp:p x=false):(l.take (k+1)).any p=false:=by
 rw[aH hx,List.any_append,h]; simp[hp]
theorem kM{α:Type}{l:List α}{p:α->Bool}{k:Nat}{x:α}(hx:l[k]?=some x)(hp:p x=true):l.any p=true:=List.any_eq_true.2 ⟨x,List.mem_of_getElem? hx,hp⟩
theorem Ua{w:World}{a:OA}{c:Nat}{l:List Pr}(h:fh w a l)(hl:l.length<=1000)(nm:List UInt8) :
  CP 116 #[.slice a l.length c,sv nm] w (λ r w'=>(∃ k:Int,r=.tuple #[iv k,.bool (l.any λ p=>p.nm==nm)])/\Chg w w' []):=by
 refine CT ?_;unfold Ie;refine⟨λ n w1 m=>∃ k:Nat,n=k/\k<=l.length/\m=l.length-k/\(l.take k).any (λ p=>p.nm==nm)=false/\Chg w w1 [],⟨l.length,0,rfl,by omega,by omega,rfl,Chg.refl _ _⟩,?_⟩;rintro w1 m n ⟨k,rfl,hk,hm,ha,hc⟩ -
 by_cases hlt:(k:Int)<(l.length:Int)
 ·have hx:l[k]?=some (l[k]'(by omega)):=gE (by omega);generalize l[k]'(by omega)=x at hx;obtain⟨_,q,rfl,hcl⟩:=(h.aA hc) k x hx;refine cT (by simpa using hlt) ⟨by omega,by omega,_,_,_,_,_,hcl,aL ?_⟩;refine((St.start' hc).one.cN _ 89).aC 0 rfl x.cells rfl x.one λ w3 s3=>?_;refine⟨_,by rw[s3.ag 0 rfl]; rfl,?_⟩
  by_cases hn:x.nm=nm
  ·exact cT (by rw[hn]; simp) ⟨⟨k,by rw[kM hx (by simpa using hn)]⟩,s3.aA⟩
  ·exact cF (by rw[jy,jy]; simpa using hn) ⟨l.length-(k+1),by omega,k+1,by rw[aF ⟨by omega,by omega⟩]; rfl,by omega,rfl,iB ha hx (by simpa using hn),s3.aA⟩
 ·refine cF (by simpa using hlt) ⟨⟨0,?_⟩,hc⟩;rw[List.take_of_length_le (by omega)] at ha;rw[ha]
theorem ri(w:World)(n x y:Int):CP 117 #[iv n,iv x,iv y] w (λ r w'=>r=.bool (decide (x<=n)&&decide (n<=y))/\w' = w):=by
 refine Ek ?_;unfold CS
 by_cases h:n>=x
 ·exact cT (dT h) ⟨by rw[dT (show x<=n from h)]; rfl,rfl⟩
 ·exact cF (dF h) ⟨by rw[dF (show ¬ x<=n from h)]; rfl,rfl⟩
def EM(l:List Pr):List Int:=(l.map Pr.sup++List.replicate (6-l.length) 0).take 6
def bK(l:List Pr):I6:=I6.QZ (l.map Pr.sup)
theorem v7(l:List Pr)(k:Nat)(hk:k<6):(bK l).at' k=(l.map Pr.sup).getD k 0:=by
 match k,hk with
 | 0,_|1,_|2,_|3,_|4,_|5,_=>rfl
theorem IJ(l:List Pr):(bK l).l=EM l:=by
 apply List.ext_getElem?;intro k;unfold EM
 by_cases hk:k<6
 ·rw[I6.oY _ k hk,v7 l k hk,List.getElem?_take,if_pos hk]
  by_cases hl:k<l.length
  ·rw[List.getElem?_append_left (by simpa using hl)];simp[hl]
  ·rw[List.getElem?_append_right (by simp; omega),List.getElem?_replicate,if_pos (by simp; omega)];simp[hl]
 ·rw[List.getElem?_eq_none (by rw[I6.len]; omega),List.getElem?_take,if_neg hk]
theorem mW{w:World}{a:OA}{c:Nat}{l:List Pr}(h:fh w a l)(hl:l.length<=1000) :
  CP 42 #[.slice a l.length c] w (λ r w'=>r=.agg (bK l).vs.toArray/\Chg w w' []):=by
 refine GB ?_;unfold GA;refine aL (aL ?_);have s2:=((St.start w).one.cN z6.vs.toArray 39).cN z6.vs.toArray 39;generalize hw2:((w.alloc _).alloc _)=w2 at s2 ⊢;generalize hr1:w.heap.size=r1 at s2 ⊢;generalize hr2:(w.alloc _).heap.size=r2 at s2 ⊢;refine⟨λ n w3 m=>∃ k:Nat,n=k/\k<=l.length/\m=l.length-k/\St w w3 (Sep [ai r2 (I6.mix (min k 6) (bK l) z6).vs.toArray 39,ai r1 z6.vs.toArray 39,emp]),⟨l.length,0,rfl,by omega,by omega,s2⟩,?_⟩;rintro w3 m n ⟨k,rfl,hk,hm,s3⟩ -
 by_cases hlt:(k:Int)<(l.length:Int)
 ·have hx:l[k]?=some (l[k]'(by omega)):=gE (by omega);generalize l[k]'(by omega)=x at hx;obtain⟨_,q,hq,hcl⟩:=(h.aA s3.aA) k x hx;refine cT (by simpa using hlt) ⟨λ w4=>St w w4 (Sep [ai r2 (I6.mix (min (k+1) 6) (bK l) z6).vs.toArray 39,ai r1 z6.vs.toArray 39,emp]),?_,?_⟩
  ·rintro w4 s4 -;exact⟨l.length-(k+1),by omega,k+1,aF ⟨by omega,by omega⟩,by omega,rfl,s4⟩
  rw[hq];refine⟨by omega,by omega,_,_,_,_,_,hcl,aL ?_⟩;refine(s3.cN _ 89).aC 0 rfl x.cells rfl x.one λ w6 s6=>?_
  by_cases h6:k<6
  ·refine cT (dT (by omega)) ⟨_,by rw[s6.ag 0 rfl]; rfl,by omega,by omega,?_⟩;have ea:Addr.add ⟨r2,0,none⟩ (((k:Nat):Int).toNat*1)=⟨r2,k,none⟩:=by rw[bq]; simp
   rw[ea];refine s6.aJ 1 rfl (by rw[I6.size]; exact h6) rfl λ w7 s7=>?_;have e1:x.sup=(bK l).at' k:=by rw[v7 l k h6]; simp[List.getElem?_map,hx]
   rw[Nat.min_eq_left (by omega),e1,I6.iw _ _ _ h6] at s7;rw[Nat.min_eq_left (by omega)];exact s7.ay [1,2,3]
  ·rw[Nat.min_eq_right (by omega)] at s6 ⊢;exact cF (dF (by omega)) (s6.ay [1,2,3])
 ·obtain rfl:k=l.length:=by omega
  have hcn:I6.mix (min l.length 6) (bK l) z6=bK l:=by
   refine I6.ext' λ j hj=>?_;rw[I6.cv _ _ _ _ hj,v7 l j hj]
   split
   ·rfl
   ·rw[List.getD_eq_getElem?_getD,List.getElem?_eq_none (by simp; omega)]
    match j,hj with
    | 0,_|1,_|2,_|3,_|4,_|5,_=>rfl
  rw[hcn] at s3;refine cF (by simp) ⟨_,s3.cellsIn 0 rfl,?_⟩;refine s3.aC 1 rfl (bK l).vs rfl (I6.one _) λ w8 s8=>?_;exact⟨_,s8.cellsIn 1 rfl,rfl,s8.aA⟩
def Iu(p:Pr):Bool:=(decide (1<=p.sup)&&decide (p.sup<=4))&&((decide (0<=p.res)&&decide (p.res<=1000000))&&((decide (0<=p.pts)&&decide (p.pts<=1000))&&(decide (0<=p.grp)&&decide (p.grp<=4))))
def xp(p:Pr):Bool:=gm p.nm&&Iu p
def wB(l:List Pr)(i:Nat)(p:Pr):Prop:=xp p=true/\((l.take i).any λ q=>q.nm==p.nm)=false
structure dK (l:List Pr):Prop where
 l1:1<=l.length
 l2:l.length<=6
 good:∀ i p,l[i]?=some p->wB l i p
 lim:pr (l.map Pr.sup)<=1024
theorem GF(l:List Int):∀ n,pr (l++List.replicate n 0)=pr l
 | 0=>by simp
 | n+1=>by
  rw[List.replicate_succ',<- List.append_assoc,Em,GF l n];omega
theorem EN{l:List Pr}(h:l.length<=6):pr (EM l)=pr (l.map Pr.sup):=by
 unfold EM;rw[List.take_of_length_le (by simp; omega),GF]
theorem Kb{l:List Pr}(h:∀ i p,l[i]?=some p->wB l i p):(EM l).all nN=true:=by
 rw[List.all_eq_true];intro x hx;have hx:=List.mem_of_mem_take hx;rcases List.mem_append.1 hx with hx|hx
 ·obtain⟨p,hp,rfl⟩:=List.mem_map.1 hx;obtain⟨i,hi,rfl⟩:=List.mem_iff_getElem.1 hp;have:=(h i _ (gE hi)).1;simp only[xp,Iu,Bool.and_eq_true,decide_eq_true_eq] at this;simp only[nN,Bool.and_eq_true,decide_eq_true_eq];omega
 ·obtain⟨_,rfl⟩:=List.mem_replicate.1 hx
  decide
def Tg(Q:Prop)(w:World):KP:=λ r w'=>(∃ e:Int,r=iv e/\(e=0<->Q))/\Chg w w' []
def Dt(Q:Prop)(k:Int)(w:World):KP:=λ r w'=>(r=iv k/\(k=0<->Q))/\Chg w w' []
theorem bt{Q:Prop}{w w' : World}{e k:Int}(he:e≠0)(h : ¬ Q)(hc:Chg w w' [])(hk:k=e):Dt Q k w (iv e) w':=by subst hk; exact⟨⟨rfl,λ h'=>absurd h' he,λ h'=>absurd h' h⟩,hc⟩
theorem ry{Q:Prop}{w w' : World}{k:Int}(h:Q)(hc:Chg w w' [])(hk:k=0):Dt Q k w (iv 0) w':=by subst hk; exact⟨⟨rfl,λ _=>h,λ _=>rfl⟩,hc⟩
theorem Dt.old{Q:Prop}{w w' : World}{k:Int}{r:Value}(h:Dt Q k w r w'):Tg Q w r w':=⟨⟨k,h.1⟩,h.2⟩
def gi{α:Type}(f:Nat->α->Int):Nat->List α->Int
 | _,[]=>0
 | i,x :: l=>if f i x≠0 then f i x else gi f (i+1) l
theorem mC{α:Type}{f:Nat->α->Int}:∀ {l:List α} {n k:Nat} {x:α},(∀ i p,i<k->l[i]?=some p->f (n+i) p=0)->l[k]?=some x->f (n+k) x≠0->gi f n l=f (n+k) x
 | y :: l,n,0,x,_,hx,h=>by cases hx; rw[Nat.add_zero] at h ⊢; rw[gi,if_pos h]
 | y :: l,n,k+1,x,ha,hx,h=>by
  rw[gi,if_neg (by simpa using ha 0 y (by omega) rfl),mC (l:=l) (k:=k) (x:=x) (λ i p hi hp=>by have:=ha (i+1) p (by omega) (by simpa using hp); rwa [show n+(i+1)=n+1+i by omega] at this) (by simpa using hx) (by rwa [show n+1+k=n+(k+1) by omega])];rw[show n+1+k=n+(k+1) by omega]
theorem iJ{α:Type}{f:Nat->α->Int}:∀ {l:List α} {n:Nat},(∀ i p,l[i]?=some p->f (n+i) p=0)->gi f n l=0
 | [],_,_=>rfl
 | y :: l,n,ha=>by
  rw[gi,if_neg (by simpa using ha 0 y rfl)];exact iJ λ i p hp=>by have:=ha (i+1) p (by simpa using hp); rwa [show n+(i+1)=n+1+i by omega] at this
def LX(l:List Pr)(i:Nat)(p:Pr):Int:=if gm p.nm=false then 5 else if ((l.take i).any λ q=>q.nm==p.nm) then 7 else if Iu p=false then 4 else 0
theorem GD{l:List Pr}{i:Nat}{p:Pr}(h:wB l i p):LX l i p=0:=by
 obtain⟨h1,h2⟩:=h;unfold xp at h1;rw[Bool.and_eq_true] at h1;rw[LX,h1.1,h2,h1.2]; rfl
def Lm(l:List Pr):Int:=if l.length=0 then 1 else if 6<l.length then 3 else if gi (LX l) 0 l≠0 then gi (LX l) 0 l else if pr (EM l)<=1024 then 0 else 12
theorem Cp{w:World}{a:OA}{c:Nat}{l:List Pr}(h:fh w a l)(hcap:l.length<=c) :
  CP 79 #[.slice a l.length c] w ((Dt (dK l) (Lm l) w)):=by
 refine H8 ?_;unfold JL
 by_cases h0:l.length=0
 ·exact cT (by rw[h0]; rfl) (bt (by decide) (λ hp=>by have:=hp.l1; omega) (Chg.refl _ _) (by rw[Lm,if_pos h0]))
 refine cF (by simpa using h0) ?_;rcases Nat.lt_or_ge 6 l.length with h6|h6
 ·exact cT (dT (by omega)) (bt (by decide) (λ hp=>by have:=hp.l2; omega) (Chg.refl _ _) (by rw[Lm,if_neg h0,if_pos h6]))
 refine cF (dF (by omega)) ⟨λ n w1 m=>∃ k:Nat,n=k/\k<=l.length/\m=l.length-k/\(∀ i p,i<k->l[i]?=some p->wB l i p)/\Chg w w1 [],⟨l.length,0,rfl,by omega,by omega,λ i p hi=>by omega,Chg.refl _ _⟩,?_⟩;rintro w1 m n ⟨k,rfl,hk,hm,ha,hc⟩ -
 by_cases hlt:(k:Int)<(l.length:Int)
 ·have hx:l[k]?=some (l[k]'(by omega)):=gE (by omega);generalize l[k]'(by omega)=x at hx;obtain⟨_,q,hq,hcl⟩:=(h.aA hc) k x hx;have bad : ¬ wB l k x->¬ dK l:=λ hb hp=>hb (hp.good k x hx);have bk:∀ {e:Int},e≠0->LX l k x=e->Lm l=e:=λ he h=>by
   have:=mC (f:=LX l) (n:=0) (λ i p hi hp=>by rw[Nat.zero_add]; exact GD (ha i p hi hp)) hx (by rw[Nat.zero_add,h]; exact he);rw[Nat.zero_add,h] at this;rw[Lm,if_neg h0,if_neg (by omega),this,if_pos he]
  refine cT (by simpa using hlt) ?_;rw[hq];refine⟨by omega,by omega,_,_,_,_,_,hcl,aL ?_⟩;refine((St.start' hc).one.cN _ 89).aC 0 rfl x.cells rfl x.one λ w3 s3=>?_;generalize hr1:w1.heap.size=r1 at s3 ⊢;have cx:∀ {w' : World},Chg w3 w' []->∀ (j:Nat) (v:Value),x.cells[j]?=some v->w'.cell? ⟨r1,j,none⟩=some v:=λ hc j v hv=>dh (by rw[s3.ag 0 rfl]; simpa using hv) hc;refine⟨_,cx (Chg.refl _ _) 0 _ rfl,an (AR w3 x.nm) ?_⟩;rintro v w4 ⟨rfl,rfl⟩;refine⟨_,rfl,?_⟩
  cases hn:gm x.nm with
  | false=>exact cT rfl (bt (by decide) (bad λ hg=>by have:=hg.1; simp[xp,hn] at this) s3.aA (bk (by decide) (by rw[LX,hn]; rfl)))
  | true =>
   have d4:Chg w4 w4.drew []:=Chg.drew w4 [];refine cF rfl ⟨by omega,by omega,_,cx d4 0 _ rfl,?_⟩;rw[<- hq,Oo];have hf:=Ua (c:=c-0) ((h.aA (s3.aA.trans d4 (by simp))).take k) (by rw[List.length_take]; omega) x.nm;rw[List.length_take,Nat.min_eq_left hk] at hf;refine an hf ?_;rintro v w5 ⟨⟨kk,rfl⟩,c5⟩;have d5:Chg w4 w5 []:=d4.trans c5 (by simp);refine⟨_,_,rfl,?_⟩
   cases hany:((l.take k).any λ p=>p.nm==x.nm) with
   | true=>exact cT rfl (bt (by decide) (bad λ hg=>by have:=hg.2; rw[hany] at this; cases this) (s3.aA.trans d5 (by simp)) (bk (by decide) (by rw[LX,hn,hany]; rfl)))
   | false =>
    refine cF rfl ⟨λ b w6=>Chg w5 w6 []/\b = !Iu x,?_,?_⟩
    ·rintro w6 b ⟨c6,rfl⟩ -;have c7:=s3.aA.trans (d5.trans c6 (by simp)) (by simp)
     cases hr:Iu x with
     | false=>exact cT rfl (bt (by decide) (bad λ hg=>by have:=hg.1; simp[xp,hr] at this) c7 (bk (by decide) (by rw[LX,hn,hany,hr]; rfl)))
     | true =>
      refine cF rfl ⟨l.length-(k+1),by omega,k+1,by rw[aF ⟨by omega,by omega⟩]; rfl,by omega,rfl,λ i p hi hp=>?_,c7⟩;rcases Nat.lt_or_ge i k with h' | h'
      ·exact ha i p h' hp
      ·obtain rfl:i=k:=by omega
       rw[hx] at hp; cases hp;exact⟨by simp[xp,hn,hr],hany⟩
    ·refine⟨_,cx d5 1 _ rfl,an (ri w5 _ _ _) ?_⟩;rintro v w6 ⟨rfl,rfl⟩;refine⟨_,rfl,?_⟩
     cases g1:(decide (1<=x.sup)&&decide (x.sup<=4)) with
     | false=>exact cT rfl ⟨Chg.refl _ _,by simp only[Iu,g1]; rfl⟩
     | true =>
      refine cF rfl ⟨_,cx d5 2 _ rfl,an (ri w6 _ _ _) ?_⟩;rintro v w7 ⟨rfl,rfl⟩;refine⟨_,rfl,?_⟩
      cases g2:(decide (0<=x.res)&&decide (x.res<=1000000)) with
      | false=>exact cT rfl ⟨Chg.refl _ _,by simp only[Iu,g1,g2]; rfl⟩
      | true =>
       refine cF rfl ⟨_,cx d5 3 _ rfl,an (ri w7 _ _ _) ?_⟩;rintro v w8 ⟨rfl,rfl⟩;refine⟨_,rfl,?_⟩
       cases g3:(decide (0<=x.pts)&&decide (x.pts<=1000)) with
       | false=>exact cT rfl ⟨Chg.refl _ _,by simp only[Iu,g1,g2,g3]; rfl⟩
       | true =>
        refine cF rfl ⟨_,cx d5 4 _ rfl,an (ri w8 _ _ _) ?_⟩;rintro v w9 ⟨rfl,rfl⟩;exact⟨_,rfl,Chg.refl _ _,by simp only[Iu,g1,g2,g3]; rfl⟩
 ·obtain rfl:k=l.length:=by omega
  have hg:∀ i p,l[i]?=some p->wB l i p:=λ i p hp=>ha i p (List.getElem?_eq_some_iff.1 hp).1 hp;refine cF (by simp) (an (mW (h.aA hc) (by omega)) ?_);rintro v w2 ⟨rfl,c2⟩;refine⟨_,rfl,an (zD w2 _) ?_⟩;rintro v w3 ⟨rfl,c3⟩;have c4:Chg w w3 []:=hc.trans (c2.trans c3 (by simp)) (by simp);refine⟨_,rfl,?_⟩;have hall:=Kb hg;have hpr:=EN h6;rw[IJ];have hb:=(qy hall).1;have e0:Lm l=if pr (EM l)<=1024 then 0 else 12:=by
   have:=iJ (f:=LX l) (n:=0) (l:=l) λ i p hp=>by rw[Nat.zero_add]; exact GD (hg i p hp)
   rw[Lm,if_neg h0,if_neg (by omega),this,if_neg (by decide)]
  by_cases hlim:pr (EM l)<=1024
  ·rw[if_pos ⟨hall,hlim⟩];exact cF (by simp; omega) (ry ⟨by omega,h6,hg,by rw[<- hpr]; exact hlim⟩ c4 (by rw[e0,if_pos hlim]))
  ·rw[if_neg λ h=>hlim h.2];exact cT rfl (bt (by decide) (λ hp=>hlim (by rw[hpr]; exact hp.lim)) c4 (by rw[e0,if_neg hlim]))
theorem Al{w:World}{a:OA}{c:Nat}{l:List Pr}(h:fh w a l)(hcap:l.length<=c) :
  CP 79 #[.slice a l.length c] w ((Tg (dK l) w)):=an (Cp h hcap) λ _ _ h=>⟨_,rfl,h.old⟩
def pI(a b:I6)(w:World)(K:KP):=av w (.cells a.vs.toArray 39) λ a c=>av c (.cells b.vs.toArray 39) λ b c=>∃ d:Int->qN,(∃ e,d 0 c e)/\∀ c e f,d f c e->∀ g:qv,cond (decide (f<6)) (0<=f/\f<6/\∃ g,c.drew.cell? (Addr.add (qd a 0) ((f).toNat*1))=some (iv g)/\0<=f/\f<6/\∃ h,c.drew.cell? (Addr.add (qd b 0) ((f).toNat*1))=some (iv h)/\cond (decide (g<h)) (K (iv (-1)) c.drew) (0<=f/\f<6/\∃ g,c.drew.drew.cell? (Addr.add (qd a 0) ((f).toNat*1))=some (iv g)/\0<=f/\f<6/\∃ a,c.drew.drew.cell? (Addr.add (qd b 0) ((f).toNat*1))=some (iv a)/\cond (decide (g>a)) (K (iv 1) c.drew.drew) (∃ a,a<e/\d (IntKind.i64.wrap (f+1)) c.drew.drew a))) (K qz c)
theorem uC{u1 u2 w K}(h:pI u1 u2 w K):CP 46 #[.agg u1.vs.toArray,.agg u2.vs.toArray] w K:=ah (aE [(26,[(6,.s (.int .i64))])]) func46 (by kernel_rfl) (by kernel_rfl) h
def xP(a b:I6)(w:World)(K:KP):=av w (.cells a.vs.toArray 37) λ a c=>av c (.cells b.vs.toArray 39) λ b c=>∃ d:I6,af c (qd b 0) 0 d.vs/\∃ b:Int->Int->qN,(∃ e,b 0 (0:Int) c e)/\∀ c e f g,b f g c e->∀ h:qv,cond (decide (g<6)) (0<=g/\g<6/\∃ h,(d.vs.toArray:Array Value)[(g).toNat*1]?=some (iv h)/\0<=g/\g<6/\∃ d,c.cell? (Addr.add (qd a 0) ((g).toNat*1))=some (iv d)/\∃ a,a<e/\b (IntKind.i64.wrap (f+(IntKind.i64.wrap (d*h)))) (IntKind.i64.wrap (g+1)) c a) (K (iv f) c)
theorem Ag{u1 u2 w K}(h:xP u1 u2 w K):CP 188 #[.agg u1.vs.toArray,.agg u2.vs.toArray] w K:=ah (aE [(58,[(5,.s (.int .i64)),(9,.s (.int .i64))])]) func188 (by kernel_rfl) (by kernel_rfl) h
def sP(a b:I6)(w:World)(K:KP):=av w (.cells a.vs.toArray 39) λ a c=>av c (.cells b.vs.toArray 39) λ b c=>∃ d:I6,af c.drew (qd a 0) 0 d.vs/\∃ e:I6,af c.drew (qd b 0) 0 e.vs/\∃ b:I6,af c.drew (qd a 0) 0 b.vs/\CC 255 #[.agg d.vs.toArray,.agg e.vs.toArray] c.drew λ c d=>∃ e:I6,c=.returned (.agg e.vs.toArray)/\af d (qd a 0) 0 b.vs/\K (.bool (I6.beq e b)) d
theorem wG{u1 u2 w K}(h:sP u1 u2 w K):CP 217 #[.agg u1.vs.toArray,.agg u2.vs.toArray] w K:=ah (aE []) func217 (by kernel_rfl) (by kernel_rfl) h
def Af(a:I6)(w:World)(K:KP):=av w (.cells a.vs.toArray 39) λ a b=>∃ c:I6,af b (qd a 0) 0 c.vs/\CC 118 #[.agg c.vs.toArray] b λ b c=>∃ d,b=.returned (iv d)/\cond (d==0) (K (.func (.func 273) #[] #[]) c) (∃ b:I6,af c (qd a 0) 0 b.vs/\CC 274 #[.agg b.vs.toArray] c λ a b=>∃ c:Value,a=.returned c/\K c b)
theorem BY{u1 w K}(h:Af u1 w K):CP 244 #[.agg u1.vs.toArray] w K:=ah (aE []) func244 (by kernel_rfl) (by kernel_rfl) h
def xR(a b:I6)(w:World)(K:KP):=av w (.cells a.vs.toArray 39) λ a c=>av c (.cells b.vs.toArray 39) λ b c=>av c (.cells z6.vs.toArray 39) λ c d=>∃ e:Int->qN,(∃ f,e 0 d f)/\∀ d f g,e g d f->∀ h:qv,cond (decide (g<6)) (0<=g/\g<6/\∃ h,d.drew.cell? (Addr.add (qd a 0) ((g).toNat*1))=some (iv h)/\0<=g/\g<6/\∃ i,d.drew.cell? (Addr.add (qd b 0) ((g).toNat*1))=some (iv i)/\0<=g/\g<6/\aQ d.drew (Addr.add (qd a 0) ((g).toNat*1)) (iv (if i<h then i else h)) λ b=>∃ h,h<f/\e (IntKind.i64.wrap (g+1)) b h) (∃ b:I6,af d (qd a 0) 0 b.vs/\aK (qd c 0) 0 b.vs d λ a=>∃ b:I6,af a (qd c 0) 0 b.vs/\K (.agg b.vs.toArray) a)
theorem Ai{u1 u2 w K}(h:xR u1 u2 w K):CP 255 #[.agg u1.vs.toArray,.agg u2.vs.toArray] w K:=ah (aE [(26,[(6,.s (.int .i64))])]) func255 (by kernel_rfl) (by kernel_rfl) h
def uD(a:I6)(w:World)(K:KP):=av w (.cells a.vs.toArray 39) λ a b=>∃ c:I6,af b (qd a 0) 0 c.vs/\∃ a:Int->Int->qN,(∃ d,a 0 (0:Int) b d)/\∀ b d e f,a e f b d->∀ g:qv,cond (decide (f<6)) (0<=f/\f<6/\∃ g,(c.vs.toArray:Array Value)[(f).toNat*1]?=some (iv g)/\∃ c,c<d/\a (IntKind.i64.wrap (e+g)) (IntKind.i64.wrap (f+1)) b c) (K (iv e) b)
theorem yP{u1 w K}(h:uD u1 w K):CP 267 #[.agg u1.vs.toArray] w K:=ah (aE [(58,[(3,.s (.int .i64)),(7,.s (.int .i64))])]) func267 (by kernel_rfl) (by kernel_rfl) h
def xQ(a b:I6)(w:World)(K:KP):=av w (.cells a.vs.toArray 39) λ a c=>av c (.cells b.vs.toArray 39) λ b c=>av c (.cells z6.vs.toArray 39) λ c d=>∃ e:Int->qN,(∃ f,e 0 d f)/\∀ d f g,e g d f->∀ h:qv,cond (decide (g<6)) (0<=g/\g<6/\∃ h,d.drew.cell? (Addr.add (qd a 0) ((g).toNat*1))=some (iv h)/\0<=g/\g<6/\∃ i,d.drew.cell? (Addr.add (qd b 0) ((g).toNat*1))=some (iv i)/\0<=g/\g<6/\aQ d.drew (Addr.add (qd a 0) ((g).toNat*1)) (iv (if i>h then i else h)) λ b=>∃ h,h<f/\e (IntKind.i64.wrap (g+1)) b h) (∃ b:I6,af d (qd a 0) 0 b.vs/\aK (qd c 0) 0 b.vs d λ a=>∃ b:I6,af a (qd c 0) 0 b.vs/\K (.agg b.vs.toArray) a)
theorem Ah{u1 u2 w K}(h:xQ u1 u2 w K):CP 272 #[.agg u1.vs.toArray,.agg u2.vs.toArray] w K:=ah (aE [(26,[(6,.s (.int .i64))])]) func272 (by kernel_rfl) (by kernel_rfl) h
def xT(a:I6)(w:World)(K:KP):=av w (.cells a.vs.toArray 39) λ a b=>K (.func (.func 292) #[] #[qp a]) b
theorem Ak{u1 w K}(h:xT u1 w K):CP 274 #[.agg u1.vs.toArray] w K:=ah (aE []) func274 (by kernel_rfl) (by kernel_rfl) h
def xS(a b:I6)(w:World)(K:KP):=av w (.cells a.vs.toArray 39) λ a c=>av c (.cells b.vs.toArray 39) λ b c=>∃ d:Bool->qW,(∀ e f,d f e->∀ g:qv,cond f (K (.tuple #[qz,iv 4]) e) (∃ f:I6,af e (qd a 0) 0 f.vs/\∃ g:Int->Int->qN,(∃ h,g 0 (0:Int) e h)/\∀ e h i j,g i j e h->∀ k:qv,cond (decide (j<6)) (0<=j/\j<6/\∃ k,(f.vs.toArray:Array Value)[(j).toNat*1]?=some (iv k)/\0<=j/\j<6/\∃ f,e.cell? (Addr.add (qd b 0) ((j).toNat*1))=some (iv f)/\∃ l,l<h/\g (IntKind.i64.wrap ((IntKind.i64.wrap (i*(IntKind.i64.wrap (k+1))))+f)) (IntKind.i64.wrap (j+1)) e l) (K (.tuple #[iv i,qz]) e)))/\∃ e:I6,af c (qd a 0) 0 e.vs/\CC 118 #[.agg e.vs.toArray] c λ c e=>∃ f,c=.returned (iv f)/\cond (f==0) (d true e) (∃ c:I6,af e (qd b 0) 0 c.vs/\CC 93 #[.agg c.vs.toArray] e λ c e=>∃ f,c=.returned (iv f)/\cond (f !=0) (d true e) (∃ c:I6,af e (qd b 0) 0 c.vs/\∃ b:I6,af e (qd a 0) 0 b.vs/\CC 217 #[.agg c.vs.toArray,.agg b.vs.toArray] e λ a b=>∃ c,a=.returned (.bool c)/\d (!c) b))
theorem Aj{u1 u2 w K}(h:xS u1 u2 w K):CP 275 #[.agg u1.vs.toArray,.agg u2.vs.toArray] w K:=ah (aE [(6,[(22,.s .bool)]),(122,[(6,.s (.int .i64)),(24,.s (.int .i64))])]) func275 (by kernel_rfl) (by kernel_rfl) h
def Ae(a b:I6)(w:World)(K:KP):=av w (.cells a.vs.toArray 39) λ a c=>av c (.cells b.vs.toArray 39) λ b c=>av c (.cells z6.vs.toArray 39) λ c d=>∃ e:Int->qN,(∃ f,e 0 d f)/\∀ d f g,e g d f->∀ h:qv,cond (decide (g<6)) (0<=g/\g<6/\∃ h,d.drew.cell? (Addr.add (qd a 0) ((g).toNat*1))=some (iv h)/\0<=g/\g<6/\∃ i,d.drew.cell? (Addr.add (qd b 0) ((g).toNat*1))=some (iv i)/\0<=g/\g<6/\aQ d.drew (Addr.add (qd a 0) ((g).toNat*1)) (iv (IntKind.i64.wrap (h+i))) λ b=>∃ h,h<f/\e (IntKind.i64.wrap (g+1)) b h) (∃ b:I6,af d (qd a 0) 0 b.vs/\aK (qd c 0) 0 b.vs d λ a=>∃ b:I6,af a (qd c 0) 0 b.vs/\K (.agg b.vs.toArray) a)
theorem BX{u1 u2 w K}(h:Ae u1 u2 w K):CP 291 #[.agg u1.vs.toArray,.agg u2.vs.toArray] w K:=ah (aE [(26,[(6,.s (.int .i64))])]) func291 (by kernel_rfl) (by kernel_rfl) h
def sQ(a b:Nat)(w:World)(K:KP):=av w (.cells z6.vs.toArray 39) λ c d=>aK (qd c 0) 0 z6.vs d λ d=>∃ e:qN,(∃ f,e d f)/\∀ d f,e d f->∀ g:qv,∃ g:I6,af d (qd c 0) 0 g.vs/\nh prog a #[.agg g.vs.toArray] d λ a d=>∃ g,.returned (.bool a)=Ending.returned (.bool g)/\cond g (∃ a:I6,af d (qd c 0) 0 a.vs/\∃ g:I6,af d (qd b 0) 0 g.vs/\CC 293 #[.agg a.vs.toArray,.agg g.vs.toArray] d λ a b=>∃ g:I6,a=.returned (.agg g.vs.toArray)/\aK (qd c 0) 0 g.vs b λ a=>∃ b:I6,af a (qd c 0) 0 b.vs/\cond (I6.beq b z6) (K (.tuple #[]) a) (∃ b,b<f/\e a b)) (K (.tuple #[]) d)
theorem wH{l1 b1 w K}(h:sQ l1 b1 w K):CP 292 #[.func (.yield l1) #[] #[],.pointer (some ⟨b1,0,none⟩)] w K:=ah (aE [(6,[])]) func292 (by kernel_rfl) (by kernel_rfl) h
def mb(a b:I6)(w:World)(K:KP):=av w (.cells a.vs.toArray 39) λ a c=>av c (.cells b.vs.toArray 39) λ b c=>av c (.cells z6.vs.toArray 39) λ c d=>∃ e:Int->qN,(∃ f,e 5 d f)/\∀ d f g,e g d f->∀ h:qv,cond (decide (g>=0)) (0<=g/\g<6/\∃ h,d.drew.cell? (Addr.add (qd a 0) ((g).toNat*1))=some (iv h)/\0<=g/\g<6/\∃ i,d.drew.cell? (Addr.add (qd b 0) ((g).toNat*1))=some (iv i)/\cond (decide (h<i)) (0<=g/\g<6/\∃ b,d.drew.cell? (Addr.add (qd a 0) ((g).toNat*1))=some (iv b)/\0<=g/\g<6/\aQ d.drew (Addr.add (qd a 0) ((g).toNat*1)) (iv (IntKind.i64.wrap (b+1))) λ b=>∃ h:I6,af b (qd a 0) 0 h.vs/\aK (qd c 0) 0 h.vs b λ b=>∃ h:I6,af b (qd c 0) 0 h.vs/\K (.agg h.vs.toArray) b) (0<=g/\g<6/\aQ d.drew (Addr.add (qd a 0) ((g).toNat*1)) qz λ b=>∃ h,h<f/\e (IntKind.i64.wrap (g-1)) b h)) (∃ b:I6,af d (qd a 0) 0 b.vs/\aK (qd c 0) 0 b.vs d λ a=>∃ b:I6,af a (qd c 0) 0 b.vs/\K (.agg b.vs.toArray) a)
theorem rU{u1 u2 w K}(h:mb u1 u2 w K):CP 293 #[.agg u1.vs.toArray,.agg u2.vs.toArray] w K:=ah (aE [(26,[(5,.s (.int .i64))])]) func293 (by kernel_rfl) (by kernel_rfl) h
theorem fj(r k:Nat):Addr.add ⟨r,0,none⟩ (((k:Nat):Int).toNat*1)=⟨r,k,none⟩:=by rw[bq]; simp
theorem aI{w0 w:World}{l:List aG}{r:Nat}{u:I6}{T:TypeId}(h:St w0 w (Sep l))(i:Nat)(e:l[i]?=some (ai r u.vs.toArray T)){k:Nat}(hk:k<6):w.cell? ⟨r,k,none⟩=some (iv (u.at' k)):=by
 rw[h.ag i e]; simpa using u.get k hk
def HC(p u:I6)(k:Nat):Int:=(List.range k).foldl (λ s j=>s+p.at' j*u.at' j) 0
theorem Cv(p u:I6)(k:Nat):HC p u (k+1)=HC p u k+p.at' k*u.at' k:=by simp[HC,List.range_succ]
def cost(p u:I6):Int:=p.a*u.a+p.b*u.b+p.c*u.c+p.d*u.d+p.e*u.e+p.f*u.f
theorem Jc(p u:I6):HC p u 6=cost p u:=by simp[HC,cost,List.range_succ,I6.at']
def tot(u:I6):Int:=u.a+u.b+u.c+u.d+u.e+u.f
def I6.Le(u:I6)(n:Int):Prop:=∀ k,k<6->0<=u.at' k/\u.at' k<=n
theorem LZ{u:I6}(h:u.l.all nN=true):I6.Le u 4:=λ k hk=>by
 have:=List.all_eq_true.1 h _ (List.mem_of_getElem? (u.oY k hk));simpa[nN] using this
theorem leq{u:I6}(h:I6.Le u 4):u.l.all nN=true:=by
 have h0:=h 0 (by decide); have h1:=h 1 (by decide); have h2:=h 2 (by decide); have h3:=h 3 (by decide); have h4:=h 4 (by decide); have h5:=h 5 (by decide);simp only[I6.at'] at h0 h1 h2 h3 h4 h5;simp[I6.l,nN,h0,h1,h2,h3,h4,h5]
theorem VF(w:World)(u v:I6)(hu:I6.Le u 1000000)(hv:I6.Le v 1000000):CP 291 #[.agg u.vs.toArray,.agg v.vs.toArray] w (λ r w'=>r=.agg (u.zip (· + ·) v).vs.toArray/\Chg w w' []):=by
 refine BX ?_;unfold Ae;refine aL (aL (aL ?_));have s3:=(((St.start w).one.cN u.vs.toArray 39).cN v.vs.toArray 39).cN z6.vs.toArray 39;generalize hw3:World.alloc _ _=w3 at s3 ⊢;generalize hr1:w.heap.size=r1 at s3 ⊢;generalize hr2:(w.alloc _).heap.size=r2 at s3 ⊢;generalize hr3:((w.alloc _).alloc _).heap.size=r3 at s3 ⊢;refine⟨λ n w4 m=>∃ k:Nat,n=k/\k<=6/\m=6-k/\St w w4 (Sep [ai r3 z6.vs.toArray 39,ai r2 v.vs.toArray 39,ai r1 (I6.mix k (u.zip (· + ·) v) u).vs.toArray 39,emp]),⟨6,0,rfl,by omega,by omega,s3⟩,?_⟩;rintro w4 m n ⟨k,rfl,hk,hm,s4⟩ -
 by_cases hlt:(k:Int)<6
 ·have hk' : k<6:=by omega
  have s5:=s4.quiet (Chg.drew _ _);have h1:=hu k hk';have h2:=hv k hk';refine cT (dT hlt) ⟨by omega,by omega,u.at' k,?_,by omega,by omega,v.at' k,?_,by omega,by omega,?_⟩
  ·rw[fj,aI s5 2 rfl hk',I6.cv _ _ _ _ hk',if_neg (by omega)]
  ·rw[fj,aI s5 1 rfl hk']
  ·rw[fj,aF ⟨by omega,by omega⟩];refine s5.aJ 2 rfl hk' rfl λ w6 s6=>⟨6-(k+1),by omega,k+1,inc (by decide) hk',by omega,rfl,?_⟩;rw[show u.at' k+v.at' k=(u.zip (· + ·) v).at' k by rw[I6.ji _ _ _ _ hk'],I6.iw _ _ _ hk'] at s6;exact s6
 ·obtain rfl:k=6:=by omega
  refine cF (by simp) ⟨_,s4.cellsIn 2 rfl,?_⟩;exact s4.aC 0 rfl (u.zip (· + ·) v).vs rfl (I6.one _) λ w8 s8=>⟨_,s8.cellsIn 0 rfl,rfl,s8.aA⟩
theorem Us(w:World)(u v:I6):CP 272 #[.agg u.vs.toArray,.agg v.vs.toArray] w (λ r w'=>r=.agg (u.zip (λ x y=>if y>x then y else x) v).vs.toArray/\Chg w w' []):=by
 refine Ah ?_;unfold xQ;refine aL (aL (aL ?_));have s3:=(((St.start w).one.cN u.vs.toArray 39).cN v.vs.toArray 39).cN z6.vs.toArray 39;generalize hw3:World.alloc _ _=w3 at s3 ⊢;generalize hr1:w.heap.size=r1 at s3 ⊢;generalize hr2:(w.alloc _).heap.size=r2 at s3 ⊢;generalize hr3:((w.alloc _).alloc _).heap.size=r3 at s3 ⊢;refine⟨λ n w4 m=>∃ k:Nat,n=k/\k<=6/\m=6-k/\St w w4 (Sep [ai r3 z6.vs.toArray 39,ai r2 v.vs.toArray 39,ai r1 (I6.mix k (u.zip (λ x y=>if y>x then y else x) v) u).vs.toArray 39,emp]),⟨6,0,rfl,by omega,by omega,s3⟩,?_⟩;rintro w4 m n ⟨k,rfl,hk,hm,s4⟩ -
 by_cases hlt:(k:Int)<6
 ·have hk' : k<6:=by omega
  have s5:=s4.quiet (Chg.drew _ _);refine cT (dT hlt) ⟨by omega,by omega,u.at' k,?_,by omega,by omega,v.at' k,?_,by omega,by omega,?_⟩
  ·rw[fj,aI s5 2 rfl hk',I6.cv _ _ _ _ hk',if_neg (by omega)]
  ·rw[fj,aI s5 1 rfl hk']
  ·rw[fj];refine s5.aJ 2 rfl hk' rfl λ w6 s6=>⟨6-(k+1),by omega,k+1,inc (by decide) hk',by omega,rfl,?_⟩;rw[show(if v.at' k>u.at' k then v.at' k else u.at' k)=(u.zip (λ x y=>if y>x then y else x) v).at' k by rw[I6.ji _ _ _ _ hk'],I6.iw _ _ _ hk'] at s6;exact s6
 ·obtain rfl:k=6:=by omega
  refine cF (by simp) ⟨_,s4.cellsIn 2 rfl,?_⟩;exact s4.aC 0 rfl (u.zip (λ x y=>if y>x then y else x) v).vs rfl (I6.one _) λ w8 s8=>⟨_,s8.cellsIn 0 rfl,rfl,s8.aA⟩
theorem UA(w:World)(u v:I6):CP 255 #[.agg u.vs.toArray,.agg v.vs.toArray] w (λ r w'=>r=.agg (u.zip (λ x y=>if y<x then y else x) v).vs.toArray/\Chg w w' []):=by
 refine Ai ?_;unfold xR;refine aL (aL (aL ?_));have s3:=(((St.start w).one.cN u.vs.toArray 39).cN v.vs.toArray 39).cN z6.vs.toArray 39;generalize hw3:World.alloc _ _=w3 at s3 ⊢;generalize hr1:w.heap.size=r1 at s3 ⊢;generalize hr2:(w.alloc _).heap.size=r2 at s3 ⊢;generalize hr3:((w.alloc _).alloc _).heap.size=r3 at s3 ⊢;refine⟨λ n w4 m=>∃ k:Nat,n=k/\k<=6/\m=6-k/\St w w4 (Sep [ai r3 z6.vs.toArray 39,ai r2 v.vs.toArray 39,ai r1 (I6.mix k (u.zip (λ x y=>if y<x then y else x) v) u).vs.toArray 39,emp]),⟨6,0,rfl,by omega,by omega,s3⟩,?_⟩;rintro w4 m n ⟨k,rfl,hk,hm,s4⟩ -
 by_cases hlt:(k:Int)<6
 ·have hk' : k<6:=by omega
  have s5:=s4.quiet (Chg.drew _ _);refine cT (dT hlt) ⟨by omega,by omega,u.at' k,?_,by omega,by omega,v.at' k,?_,by omega,by omega,?_⟩
  ·rw[fj,aI s5 2 rfl hk',I6.cv _ _ _ _ hk',if_neg (by omega)]
  ·rw[fj,aI s5 1 rfl hk']
  ·rw[fj];refine s5.aJ 2 rfl hk' rfl λ w6 s6=>⟨6-(k+1),by omega,k+1,inc (by decide) hk',by omega,rfl,?_⟩;rw[show(if v.at' k<u.at' k then v.at' k else u.at' k)=(u.zip (λ x y=>if y<x then y else x) v).at' k by rw[I6.ji _ _ _ _ hk'],I6.iw _ _ _ hk'] at s6;exact s6
 ·obtain rfl:k=6:=by omega
  refine cF (by simp) ⟨_,s4.cellsIn 2 rfl,?_⟩;exact s4.aC 0 rfl (u.zip (λ x y=>if y<x then y else x) v).vs rfl (I6.one _) λ w8 s8=>⟨_,s8.cellsIn 0 rfl,rfl,s8.aA⟩
def within(u v:I6):Bool:=decide (u.a<=v.a)&&(decide (u.b<=v.b)&&(decide (u.c<=v.c)&&(decide (u.d<=v.d)&&(decide (u.e<=v.e)&&decide (u.f<=v.f)))))
theorem within_iff{u v:I6}:within u v=true<->∀ k,k<6->u.at' k<=v.at' k:=by
 simp only[within,Bool.and_eq_true,decide_eq_true_eq];constructor
 ·rintro⟨h0,h1,h2,h3,h4,h5⟩ k hk
  match k,hk with
  | 0,_=>exact h0
  | 1,_=>exact h1
  | 2,_=>exact h2
  | 3,_=>exact h3
  | 4,_=>exact h4
  | 5,_=>exact h5
 ·exact λ h=>⟨h 0 (by decide),h 1 (by decide),h 2 (by decide),h 3 (by decide),h 4 (by decide),h 5 (by decide)⟩
theorem wo(w:World)(u v:I6):CP 217 #[.agg u.vs.toArray,.agg v.vs.toArray] w (λ r w'=>r=.bool (within u v)/\Chg w w' []):=by
 refine wG ?_;unfold sP;refine aL (aL ?_);have s2:=(((St.start w).one.cN u.vs.toArray 39).cN v.vs.toArray 39).quiet (Chg.drew _ _);refine⟨_,s2.cellsIn 1 rfl,_,s2.cellsIn 0 rfl,_,s2.cellsIn 1 rfl,an (UA _ u v) ?_⟩;rintro r w3 ⟨rfl,c3⟩;refine⟨_,rfl,cA c3 (s2.cellsIn 1 rfl),?_,(s2.quiet c3).aA⟩;have m:∀ x y:Int,((if y<x then y else x)==x)=decide (x<=y):=λ x y=>by
  by_cases h:y<x
  ·rw[if_pos h,dF (by omega)]; simp; omega
  ·rw[if_neg h,dT (by omega)]; simp
 simp only[I6.beq,I6.zip,within,m,Bool.and_true]
theorem R4(w:World)(u:I6)(hu:I6.Le u 1000000):CP 267 #[.agg u.vs.toArray] w (λ r w'=>r=iv (tot u)/\Chg w w' []):=by
 refine yP ?_;unfold uD;refine aL ?_;have s1:=(St.start w).one.cN u.vs.toArray 39;generalize hw1:World.alloc _ _=w1 at s1 ⊢;generalize hr1:w.heap.size=r1 at s1 ⊢;let z1:I6:=⟨1,1,1,1,1,1⟩;have e1:∀ k,k<6->z1.at' k=1:=λ k hk=>by
  match k,hk with
  | 0,_|1,_|2,_|3,_|4,_|5,_=>rfl
 refine⟨u,s1.cellsIn 0 rfl,λ p n w3 m=>∃ k:Nat,n=k/\k<=6/\m=6-k/\p=HC z1 u k/\0<=p/\p<=(k:Int)*1000000/\w3=w1,⟨6,0,rfl,by omega,by omega,rfl,by simp,by simp,rfl⟩,?_⟩;rintro w3 m p n ⟨k,rfl,hk,hm,hp,h0,h1,rfl⟩ -
 by_cases hlt:(k:Int)<6
 ·have hk' : k<6:=by omega
  have h2:=hu k hk';refine cT (dT hlt) ⟨by omega,by omega,u.at' k,u.get k hk',6-(k+1),by omega,k+1,inc (by decide) hk',by omega,rfl,?_,?_,?_,rfl⟩
  ·rw[aF ⟨by omega,by omega⟩,Cv,e1 k hk',hp]; omega
  ·rw[aF ⟨by omega,by omega⟩]; omega
  ·rw[aF ⟨by omega,by omega⟩]; omega
 ·obtain rfl:k=6:=by omega
  refine cF (by simp) ⟨?_,s1.aA⟩;rw[hp,Jc]; simp[cost,tot,z1]
theorem TL(w:World)(p u:I6)(B:Int)(hB:B<=1000000000000)(hp:∀ k,k<6->-B<=p.at' k/\p.at' k<=B)(hu:I6.Le u 4):CP 188 #[.agg p.vs.toArray,.agg u.vs.toArray] w (λ r w'=>r=iv (cost p u)/\Chg w w' []):=by
 refine Ag ?_;unfold xP;refine aL (aL ?_);have s2:=((St.start w).one.cN p.vs.toArray 37).cN u.vs.toArray 39;generalize hw2:World.alloc _ _=w2 at s2 ⊢;generalize hr1:w.heap.size=r1 at s2 ⊢;generalize hr2:(w.alloc _).heap.size=r2 at s2 ⊢;have b1:∀ k,k<6->-(4*B)<=p.at' k*u.at' k/\p.at' k*u.at' k<=4*B:=λ k hk=>by
  have h1:=hp k hk;have h2:=hu k hk;have h3:0<=B:=by omega
  obtain⟨j,hj⟩:∃ j:Nat,u.at' k=(j:Int):=⟨(u.at' k).toNat,by omega⟩;rw[hj] at h2 ⊢;have h4:j<=4:=by omega
  match j,h4 with
  | 0,_|1,_|2,_|3,_|4,_=>omega
 refine⟨u,s2.cellsIn 0 rfl,λ s n w3 m=>∃ k:Nat,n=k/\k<=6/\m=6-k/\s=HC p u k/\-((k:Int)*(4*B))<=s/\s<=(k:Int)*(4*B)/\w3=w2,⟨6,0,rfl,by omega,by omega,rfl,by simp,by simp,rfl⟩,?_⟩;rintro w3 m s n ⟨k,rfl,hk,hm,hs,h0,h1,rfl⟩ -
 by_cases hlt:(k:Int)<6
 ·have hk' : k<6:=by omega
  have h2:=b1 k hk';have h3:((k+1:Nat):Int)*(4*B)=(k:Int)*(4*B)+4*B:=by rw[Int.natCast_add,Int.add_mul]; omega
  have h4:(k:Int)*(4*B)<=5*(4*B)/\0<=(k:Int)*(4*B):=by
   have h0:0<=B:=by have:=hp k hk'; omega
   exact⟨Int.mul_le_mul_of_nonneg_right (by omega) (by omega),Int.mul_nonneg (by omega) (by omega)⟩
  refine cT (dT hlt) ⟨by omega,by omega,u.at' k,u.get k hk',by omega,by omega,p.at' k,?_,6-(k+1),by omega,k+1,inc (by decide) hk',by omega,rfl,?_,?_,?_,rfl⟩
  ·rw[fj,aI s2 1 rfl hk']
  ·rw[aF (n:=p.at' k*u.at' k) ⟨by omega,by omega⟩,aF ⟨by omega,by omega⟩,Cv,hs]
  ·rw[aF (n:=p.at' k*u.at' k) ⟨by omega,by omega⟩,aF ⟨by omega,by omega⟩]; omega
  ·rw[aF (n:=p.at' k*u.at' k) ⟨by omega,by omega⟩,aF ⟨by omega,by omega⟩]; omega
 ·obtain rfl:k=6:=by omega
  refine cF (by simp) ⟨?_,s2.aA⟩;rw[hs,Jc]
def ju(m u:I6):Nat->Int
 | 0=>0
 | k+1=>ju m u k*(m.at' k+1)+u.at' k
def LY(m:I6):Nat->Int
 | 0=>1
 | k+1=>LY m k*(m.at' k+1)
abbrev rk (m u:I6):Int:=ju m u 6
theorem NX(m:I6):∀ k,k<=6->pr (m.l.take k)=LY m k
 | 0,_=>rfl
 | k+1,h=>by rw[aH (m.oY k (by omega)),Em,NX m k (by omega)]; rfl
theorem Ii(m:I6):pr m.l=LY m 6:=NX m 6 (by omega)
structure Hf (m u:I6):Prop where
 mm:I6.Le m 4
 u:∀ k,k<6->0<=u.at' k/\u.at' k<=m.at' k
theorem Hf.le{m u:I6}(h:Hf m u):I6.Le u 4:=λ k hk=>by have:=h.mm k hk; have:=h.u k hk; omega
theorem xA{m u:I6}(h:Hf m u):∀ k,k<=6->0<=ju m u k/\ju m u k+1<=LY m k/\LY m k<=5 ^ k
 | 0,_=>⟨by simp[ju],by simp[ju,LY],by simp[LY]⟩
 | k+1,hk=>by
  obtain⟨h1,h2,h3⟩:=xA h k (by omega);have hm:=h.mm k (by omega);have hu:=h.u k (by omega);simp only[ju,LY];refine⟨?_,?_,?_⟩
  ·have:=Int.mul_nonneg h1 (show(0:Int)<=m.at' k+1 by omega); omega
  ·have h4:(ju m u k+1)*(m.at' k+1)<=LY m k*(m.at' k+1):=Int.mul_le_mul_of_nonneg_right h2 (by omega);rw[Int.add_mul] at h4; omega
  ·have h4:LY m k*(m.at' k+1)<=5 ^ k*(m.at' k+1):=Int.mul_le_mul_of_nonneg_right h3 (by omega);have h5:(5:Int) ^ k*(m.at' k+1)<=5 ^ k*5:=Int.mul_le_mul_of_nonneg_left (by omega) (Int.pow_nonneg (by omega));rw[Int.pow_succ]; omega
theorem UT(w:World)(m u:I6):CP 275 #[.agg m.vs.toArray,.agg u.vs.toArray] w (λ r w'=>(∃ n e:Int,r=.tuple #[iv n,iv e]/\(e=0<->(pr m.l<=1024/\Hf m u))/\(e=0->n=rk m u))/\Chg w w' []):=by
 refine Aj ?_;unfold xS;refine aL (aL ?_);have s2:=((St.start w).one.cN m.vs.toArray 39).cN u.vs.toArray 39;generalize hw2:World.alloc _ _=w2 at s2 ⊢;generalize hr1:w.heap.size=r1 at s2 ⊢;generalize hr2:(w.alloc _).heap.size=r2 at s2 ⊢;refine⟨λ b w3=>Chg w2 w3 []/\(b=false<->(pr m.l<=1024/\Hf m u)),?_,_,s2.cellsIn 1 rfl,an (zD w2 m) ?_⟩
 ·rintro w3 b ⟨hc,hb⟩ -
  cases b with
  | true=>exact cT rfl ⟨⟨0,4,rfl,⟨λ h=>(by cases h),λ h=>(by cases hb.2 h)⟩,λ h=>(by cases h)⟩,(s2.quiet hc).aA⟩
  | false =>
   obtain⟨hp,hin⟩:=hb.1 rfl;have s3:=s2.quiet hc;refine cF rfl ⟨m,s3.cellsIn 1 rfl,λ p n w4 x=>∃ k:Nat,n=k/\k<=6/\x=6-k/\p=ju m u k/\w4=w3,⟨6,0,rfl,by omega,by omega,rfl,rfl⟩,?_⟩;rintro w4 x p n ⟨k,rfl,hk,hx,rfl,rfl⟩ -
   by_cases hlt:(k:Int)<6
   ·have hk' : k<6:=by omega
    have b0:=xA hin k hk;have b1:=xA hin (k+1) hk';have hm:=hin.mm k hk';have hu:=hin.u k hk';have h5:(5:Int) ^ (k+1)<=15625:=by
     match k,hk' with
     | 0,_|1,_|2,_|3,_|4,_|5,_=>decide
    refine cT (dT hlt) ⟨by omega,by omega,m.at' k,m.get k hk',by omega,by omega,u.at' k,by rw[fj,aI s3 0 rfl hk'],6-(k+1),by omega,k+1,inc (by decide) hk',by omega,rfl,?_,rfl⟩;have e:ju m u (k+1)=ju m u k*(m.at' k+1)+u.at' k:=rfl;have h6:0<=ju m u k*(m.at' k+1):=Int.mul_nonneg b0.1 (by omega);rw[aF (n:=m.at' k+1) ⟨by omega,by omega⟩,aF (n:=ju m u k*(m.at' k+1)) ⟨by omega,by omega⟩,aF ⟨by omega,by omega⟩,e]
   ·obtain rfl:k=6:=by omega
    exact cF (by simp) ⟨⟨_,0,rfl,⟨λ _=>⟨hp,hin⟩,λ _=>rfl⟩,λ _=>rfl⟩,s3.aA⟩
 ·rintro v w5 ⟨rfl,c5⟩;refine⟨_,rfl,?_⟩
  by_cases g1:m.l.all nN=true/\pr m.l<=1024
  ·rw[if_pos g1];have hp1:=(qy g1.1).1;refine cF (by simp; omega) ⟨_,(s2.quiet c5).cellsIn 0 rfl,an (de w5 u) ?_⟩;rintro v w6 ⟨rfl,c6⟩;refine⟨_,rfl,?_⟩;have c56:=c5.trans c6 (by simp)
   by_cases g2:u.l.all nN=true
   ·rw[if_pos g2];have s6:=s2.quiet c56;refine cF rfl ⟨_,s6.cellsIn 0 rfl,_,s6.cellsIn 1 rfl,an (wo w6 u m) ?_⟩;rintro v w7 ⟨rfl,c7⟩;refine⟨_,rfl,c56.trans c7 (by simp),?_⟩;have hq:=LZ g2
    cases g3:within u m with
    | true=>exact⟨λ _=>⟨g1.2,LZ g1.1,λ k hk=>⟨(hq k hk).1,within_iff.1 g3 k hk⟩⟩,λ _=>rfl⟩
    | false=>exact⟨λ h=>(by cases h),λ h=>(by rw[within_iff.2 λ k hk=>(h.2.u k hk).2] at g3; cases g3)⟩
   ·rw[if_neg g2];exact cT rfl ⟨c56,λ h=>(by cases h),λ h=>absurd (leq h.2.le) g2⟩
  ·rw[if_neg g1];exact cT rfl ⟨c5,λ h=>(by cases h),λ h=>absurd ⟨leq h.2.mm,h.1⟩ g1⟩
def oD(u m:I6):Nat->I6
 | 0=>z6
 | k+1=>if u.at' k<m.at' k then (I6.mix (k+1) u z6).put k (u.at' k+1) else oD u m k
abbrev ld (u m:I6):I6:=oD u m 6
theorem wq(k:Nat):z6.at' k=0:=by
 match k with
 | 0|1|2|3|4|5=>rfl
 | n+6=>rfl
theorem FO(w:World){u m:I6}(h:Hf m u):CP 293 #[.agg u.vs.toArray,.agg m.vs.toArray] w (λ r w'=>r=.agg (ld u m).vs.toArray/\Chg w w' []):=by
 refine rU ?_;unfold mb;refine aL (aL (aL ?_));have s3:=(((St.start w).one.cN u.vs.toArray 39).cN m.vs.toArray 39).cN z6.vs.toArray 39;generalize hw3:World.alloc _ _=w3 at s3 ⊢;generalize hr1:w.heap.size=r1 at s3 ⊢;generalize hr2:(w.alloc _).heap.size=r2 at s3 ⊢;generalize hr3:((w.alloc _).alloc _).heap.size=r3 at s3 ⊢;refine⟨λ n w4 x=>∃ k:Nat,n=(k:Int)-1/\k<=6/\x=k/\ld u m=oD u m k/\St w w4 (Sep [ai r3 z6.vs.toArray 39,ai r2 m.vs.toArray 39,ai r1 (I6.mix k u z6).vs.toArray 39,emp]),⟨6,6,rfl,by omega,rfl,rfl,s3⟩,?_⟩;rintro w4 x n ⟨k,rfl,hk,hx,hn,s4⟩ -
 by_cases hlt:(0:Int)<=(k:Int)-1
 ·obtain⟨j,rfl⟩:∃ j,k=j+1:=⟨k-1,by omega⟩;have hj:j<6:=by omega
  rw[show((j+1:Nat):Int)-1=(j:Int) by omega] at *;have s5:=s4.quiet (Chg.drew _ _);have hu:=h.u j hj;have hm:=h.mm j hj;have cu:w4.drew.cell? (Addr.add ⟨r1,0,none⟩ ((j:Int).toNat*1))=some (iv (u.at' j)):=by
   rw[fj,aI s5 2 rfl hj,I6.cv _ _ _ _ hj,if_pos (by omega)]
  refine cT (dT (show(j:Int)>=0 by omega)) ⟨by omega,by omega,u.at' j,cu,by omega,by omega,m.at' j,by rw[fj,aI s5 1 rfl hj],?_⟩
  by_cases g:u.at' j<m.at' j
  ·refine cT (dT g) ⟨by omega,by omega,u.at' j,cu,by omega,by omega,?_⟩;rw[fj,aF ⟨by omega,by omega⟩];refine s5.aJ 2 rfl hj rfl λ w6 s6=>?_;rw[I6.rK _ _ _ hj] at s6;have e:ld u m=(I6.mix (j+1) u z6).put j (u.at' j+1):=by rw[hn]; unfold oD; rw[if_pos g]
   rw[<- e] at s6;exact⟨_,s6.cellsIn 2 rfl,s6.aC 0 rfl (ld u m).vs rfl (I6.one _) λ w8 s8=>⟨_,s8.cellsIn 0 rfl,rfl,s8.aA⟩⟩
  ·refine cF (dF g) ⟨by omega,by omega,?_⟩;rw[fj];refine s5.aJ 2 rfl hj rfl λ w6 s6=>⟨j,by omega,j,aF ⟨by omega,by omega⟩,by omega,rfl,?_,?_⟩
   ·rw[hn]; conv=>lhs; unfold oD
    rw[if_neg g]
   ·have e:(I6.mix (j+1) u z6).put j 0=I6.mix j u z6:=by
     refine I6.ext' λ i hi=>?_;rw[I6.Bg _ _ _ _ hj hi,I6.cv _ _ _ _ hi,I6.cv _ _ _ _ hi,wq]
     by_cases h1:i=j
     ·rw[if_pos h1,if_neg (by omega)]
     ·rw[if_neg h1]
      by_cases h2:i<j
      ·rw[if_pos (by omega),if_pos h2]
      ·rw[if_neg (by omega),if_neg h2]
    rw[I6.rK _ _ _ hj,e] at s6;exact s6
 ·obtain rfl:k=0:=by omega
  have e:ld u m=z6:=hn;refine cF (dF hlt) ⟨_,s4.cellsIn 2 rfl,?_⟩;rw[I6.Nv] at *;exact s4.aC 0 rfl z6.vs rfl (I6.one _) λ w8 s8=>⟨_,s8.cellsIn 0 rfl,by rw[e],s8.aA⟩
theorem N5(m:I6):∀ k,ju m z6 k=0
 | 0=>rfl
 | k+1=>by simp[ju,N5 m k,wq]
theorem JI{u m:I6}(h:Hf m u):Hf m (ld u m):=by
 suffices H:∀ k,k<=6->∀ j,j<6->0<=(oD u m k).at' j/\(oD u m k).at' j<=m.at' j from⟨h.mm,H 6 (by omega)⟩
 intro k
 induction k with
 | zero=>intro _ j hj; have:=h.mm j hj; simp only[oD,wq]; omega
 | succ k ih =>
  intro hk j hj;unfold oD;have hu:=h.u j hj
  split
  ·rename_i g;rw[I6.Bg _ _ _ _ (by omega) hj]
   split
   ·rename_i e; subst e; have:=h.u j hj; omega
   ·rw[I6.cv _ _ _ _ hj,wq]
    split<;>omega
  ·exact ih (by omega) j hj
theorem Eg{u m:I6}(h:Hf m u):(ld u m=z6/\∀ k,k<6->u.at' k=m.at' k)\/(rk m (ld u m)=rk m u+1):=by
 suffices H:∀ k,k<=6->(∀ j,k<=j->j<6->u.at' j=m.at' j)->(oD u m k=z6/\∀ j,j<6->u.at' j=m.at' j)\/(rk m (oD u m k)=rk m u+1) from H 6 (by omega) λ j h1 h2=>by omega
 intro k
 induction k with
 | zero=>exact λ _ ha=>.inl ⟨rfl,λ j hj=>ha j (by omega) hj⟩
 | succ k ih =>
  intro hk ha;unfold oD
  by_cases g:u.at' k<m.at' k
  ·rw[if_pos g];refine .inr ?_;have at1:∀ j,j<6->((I6.mix (k+1) u z6).put k (u.at' k+1)).at' j=if j=k then u.at' k+1 else if j<k then u.at' j else 0:=λ j hj=>by
    rw[I6.Bg _ _ _ _ (by omega) hj]
    split
    ·rfl
    ·rw[I6.cv _ _ _ _ hj,wq]
     by_cases h2:j<k
     ·rw[if_pos (by omega),if_pos h2]
     ·rw[if_neg (by omega),if_neg h2]
   have low:∀ i,i<=k->ju m ((I6.mix (k+1) u z6).put k (u.at' k+1)) i=ju m u i:=by
    intro i
    induction i with
    | zero=>intro _; rfl
    | succ i ih2 =>
     intro hi;simp only[ju];rw[ih2 (by omega),at1 i (by omega),if_neg (by omega),if_pos (by omega)]
   have high:∀ d,k+1+d<=6->ju m ((I6.mix (k+1) u z6).put k (u.at' k+1)) (k+1+d)=ju m u (k+1+d)+1:=by
    intro d
    induction d with
    | zero =>
     intro _;show ju m _ (k+1)=ju m u (k+1)+1;simp only[ju];rw[low k (by omega),at1 k (by omega),if_pos rfl];omega
    | succ d ih2 =>
     intro hd;show ju m _ (k+1+d+1)=ju m u (k+1+d+1)+1;simp only[ju];rw[ih2 (by omega),at1 _ (by omega),if_neg (by omega),if_neg (by omega),ha (k+1+d) (by omega) (by omega),Int.add_mul];omega
   have:=high (6-(k+1)) (by omega);rw[show k+1+(6-(k+1))=6 by omega] at this;exact this
  ·rw[if_neg g];refine ih (by omega) λ j h1 h2=>?_;rcases Nat.lt_or_ge k j with h3|h3
   ·exact ha j (by omega) h2
   ·obtain rfl:j=k:=by omega
    have:=h.u j h2;omega
def cS(m:I6):Nat->I6
 | 0=>z6
 | i+1=>ld (cS m i) m
def aZ(m:I6):Nat:=(pr m.l).toNat
theorem El(m:I6)(h:I6.Le m 4):∀ k,k<=6->ju m m k+1=LY m k
 | 0,_=>rfl
 | k+1,hk=>by
  simp only[ju,LY];rw[<- El m h k (by omega),Int.add_mul];omega
theorem WR{m:I6}(h:I6.Le m 4):Hf m z6:=⟨h,λ k hk=>by have:=h k hk; rw[wq]; omega⟩
theorem kN{m:I6}(h:I6.Le m 4):∀ i,Hf m (cS m i)
 | 0=>WR h
 | i+1=>JI (kN h i)
theorem ny{m:I6}(h:I6.Le m 4):0<aZ m/\(aZ m:Int)=pr m.l/\aZ m<=15625:=by
 have h1:=qy (leq h);have h2:m.l.length=6:=rfl;rw[h2] at h1;have h3:(5:Int) ^ 6=15625:=by decide
 unfold aZ;omega
theorem DH{m:I6}(h:I6.Le m 4):∀ i,i<aZ m->rk m (cS m i)=i
 | 0,_=>N5 m 6
 | i+1,hi=>by
  have h1:=DH h i (by omega);rcases Eg (kN h i) with⟨_,h2⟩|h2
  ·exfalso
   have h3:cS m i=m:=I6.ext' h2;rw[h3] at h1;have h4:=El m h 6 (by omega);have h5:=(ny h).2.1;rw[Ii] at h5;have h6:ju m m 6=(i:Int):=h1;omega
  ·show rk m (ld (cS m i) m)=_;rw[h2,h1]; omega
theorem Fk{m:I6}(h:I6.Le m 4){i:Nat}(hi:i<aZ m):ld (cS m i) m=z6<->i+1=aZ m:=by
 have h1:=DH h i hi;have h5:=(ny h).2.1;have h4:=El m h 6 (by omega);rw[Ii] at h5;constructor
 ·intro e;rcases Eg (kN h i) with⟨_,h2⟩|h2
  ·have h3:cS m i=m:=I6.ext' h2;rw[h3] at h1;have h6:ju m m 6=(i:Int):=h1;omega
  ·rw[e] at h2;have h6:ju m z6 6=rk m (cS m i)+1:=h2;rw[N5,h1] at h6;omega
 ·intro e;rcases Eg (kN h i) with⟨h2,_⟩|h2
  ·exact h2
  ·exfalso
   have h7:=xA (JI (kN h i)) 6 (by omega);have h6:ju m (ld (cS m i) m) 6=rk m (cS m i)+1:=h2;rw[h1] at h6;omega
theorem Jf{w0 w:World}{b l:Nat}{m:I6}(hm:I6.Le m 4){R:Nat->aG}{B:aG}(hY:∀ (i:Nat) (w1:World) (Fr:aG),i<aZ m->St w0 w1 (star (R i) Fr)->nh prog l #[.agg (cS m i).vs.toArray] w1 λ g w2=>g=true/\St w0 w2 (star (R (i+1)) Fr))(h:St w0 w (star (R 0) (star (ai b m.vs.toArray 39) B))) :
  CP 292 #[.func (.yield l) #[] #[],.pointer (some ⟨b,0,none⟩)] w (λ r w'=>r=.tuple #[]/\St w0 w' (star (R (aZ m)) (star (ai b m.vs.toArray 39) B))):=by
 refine wH ?_;unfold sQ;refine aL ?_;obtain⟨hc0,_,_⟩:=ny hm;have s1:St w0 (w.alloc (.cells z6.vs.toArray 39)) (Sep [ai w.heap.size z6.vs.toArray 39,R 0,ai b m.vs.toArray 39,B]):=h.rR.cN _ _;generalize World.alloc _ _=w1 at s1 ⊢;generalize w.heap.size=r1 at s1 ⊢;refine s1.aC 0 rfl z6.vs rfl (I6.one _) λ w2 s2=>?_;refine⟨λ w3 x=>∃ i,i<aZ m/\x=aZ m-i/\St w0 w3 (Sep [ai r1 (cS m i).vs.toArray 39,R i,ai b m.vs.toArray 39,B]),⟨aZ m,0,hc0,by omega,s2⟩,?_⟩;rintro w3 x ⟨i,hi,rfl,s3⟩ -;refine⟨_,s3.cellsIn 0 rfl,?_⟩;have s3' : St w0 w3 (star (R i) (Sep [ai r1 (cS m i).vs.toArray 39,ai b m.vs.toArray 39,B])):=s3.out 1 rfl;have hy:=hY i w3 _ hi s3';obtain⟨fn,tmps,asg,bdy,hrun,hR⟩:=hy;refine⟨fn,tmps,asg,bdy,hrun,hR.mono λ e w4 ⟨g,he,hg,s4⟩=>⟨g,he,g,rfl,?_⟩⟩;subst hg;have s5:St w0 w4 (Sep [R (i+1),ai r1 (cS m i).vs.toArray 39,ai b m.vs.toArray 39,B]):=s4;refine cT rfl ⟨_,s5.cellsIn 1 rfl,_,s5.cellsIn 2 rfl,an (FO w4 (kN hm i)) ?_⟩;rintro v w5 ⟨rfl,c5⟩;refine⟨_,rfl,(s5.quiet c5).aC 1 rfl _ rfl (I6.one _) λ w6 s6=>⟨_,s6.cellsIn 1 rfl,?_⟩⟩;have s6' : St w0 w6 (Sep [R (i+1),ai r1 (ld (cS m i) m).vs.toArray 39,ai b m.vs.toArray 39,B]):=s6
 by_cases hz:ld (cS m i) m=z6
 ·have e:=(Fk hm hi).1 hz;rw[<- e];exact cT (by rw[hz]; rfl) ⟨rfl,(s6'.ay [0,2,3]).triple⟩
 ·refine cF (by rw[I6.beq_eq]; exact dF hz) ⟨aZ m-(i+1),by omega,i+1,?_,rfl,s6'.ay [1,0,2,3]⟩;have:i+1≠aZ m:=λ e=>hz ((Fk hm hi).2 e);omega
theorem Sf{w0 w:World}{A:aG}(s:St w0 w A)(m:I6)(hm:I6.Le m 4)(hp:pr m.l<=1024):CP 244 #[.agg m.vs.toArray] w (λ r w'=>∃ b,r=.func (.func 292) #[] #[.pointer (some ⟨b,0,none⟩)]/\St w0 w' (star (ai b m.vs.toArray 39) A)):=by
 refine BY ?_;unfold Af;refine aL ?_;have s1:=s.one.cN m.vs.toArray 39;generalize World.alloc _ _=w1 at s1 ⊢;generalize w.heap.size=r1 at s1 ⊢;refine⟨_,s1.cellsIn 0 rfl,an (zD w1 m) ?_⟩;rintro v w2 ⟨rfl,c2⟩;refine⟨_,rfl,?_⟩;have h1:=(qy (leq hm)).1;rw[if_pos ⟨leq hm,hp⟩];have s2:=s1.quiet c2;refine cF (by simp; omega) ⟨_,s2.cellsIn 0 rfl,?_⟩;refine an (K:=λ r w'=>∃ b,r=.func (.func 292) #[] #[.pointer (some ⟨b,0,none⟩)]/\St w0 w' (star (ai b m.vs.toArray 39) A)) (Ak ?_) ?_
 ·unfold xT;exact aL ⟨_,rfl,((s2.ay [1]).cN m.vs.toArray 39).pair⟩
 ·exact λ v w' h=>⟨v,rfl,h⟩
