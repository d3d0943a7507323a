import Derived.Shelf.SlLaysF0
import Derived.Shelf.SlGeneric
import Derived.Shelf.Small.Utf8
import Derived.Shelf.Small.Bits
import Derived.Shelf.Small.Strs
import Derived.Shelf.Utf8.RuneCount
import Derived.Shelf.Strconv.Atoi
import Derived.Shelf.Strconv.Itoa0
import Derived.Shelf.Strconv.Itoa1
import Derived.Shelf.LaysM
import Derived.Shelf.Strconv.Itoa2
import Derived.Shelf.Strconv.Itoa3
import Derived.Shelf.Strings.Search1
import Derived.Shelf.Strings.Search2
import Derived.Shelf.Strings.Search3
import Derived.Shelf.Strings.Count
import Derived.Shelf.Strings.Shaped
import Derived.Shelf.Strings.Split
import Derived.Shelf.Strings.SplitShaped
import Derived.Shelf.Unicode.Decode
import Derived.Shelf.Strings.Runes
import Derived.Shelf.Strings.RuneCount
import Derived.Shelf.Strings.Explode
import Derived.Shelf.Unicode.DecodeSlow
import Derived.Shelf.Unicode.DecodeAny
import Derived.WalkMore
import Derived.Outline
import Derived.RegionTactic
import Derived.Deep.RegionWith
import Derived.Scope
import Derived.DataElems
import Derived.Test.YtmffhopdpbikgaaGreatDoorE02
set_option linter.unusedVariables false
set_option maxRecDepth 100000
namespace Go.Proofs
open Go.Shelf
def Tryz.DL:Go.Shelf.Ren:=⟨fun|221=>165|268=>207|138=>208|143=>209|195=>230|197=>231|218=>232|219=>233|260=>242|217=>243|225=>244|224=>245|267=>246|266=>253|314=>254|n=>n,fun|9=>9|3=>3|31=>192|4=>4|0=>0|105=>300|21=>21|5=>5|46=>170|119=>319|139=>322|138=>321|146=>323|51=>224|n=>n,fun|1=>0|3=>1|4=>2|n=>n⟩
theorem Tryz.MP:Go.Proofs.Lays.n221 Tryz.prog Tryz.DL:={
 mixed:=by kernel_rfl
 f138:=Tryz.func208.trans (congrArg some (by kernel_rfl))
 f143:=Tryz.func209.trans (congrArg some (by kernel_rfl))
 f195:=Tryz.func230.trans (congrArg some (by kernel_rfl))
 f197:=Tryz.func231.trans (congrArg some (by kernel_rfl))
 f217:=Tryz.func243.trans (congrArg some (by kernel_rfl))
 f218:=Tryz.func232.trans (congrArg some (by kernel_rfl))
 f219:=Tryz.func233.trans (congrArg some (by kernel_rfl))
 f221:=Tryz.func165.trans (congrArg some (by kernel_rfl))
 f224:=Tryz.func245.trans (congrArg some (by kernel_rfl))
 f225:=Tryz.func244.trans (congrArg some (by kernel_rfl))
 f260:=Tryz.func242.trans (congrArg some (by kernel_rfl))
 f266:=Tryz.func253.trans (congrArg some (by kernel_rfl))
 f267:=Tryz.func246.trans (congrArg some (by kernel_rfl))
 f268:=Tryz.func207.trans (congrArg some (by kernel_rfl))
 f314:=Tryz.func254.trans (congrArg some (by kernel_rfl))
 t0:=Tryz.underlying0
 a0:=Tryz.isAgg0
 z0:=Tryz.sizeOf0
 v0:=Tryz.zeroValue0
 t3:=Tryz.underlying3
 a3:=Tryz.isAgg3
 z3:=Tryz.sizeOf3
 v3:=Tryz.zeroValue3
 t4:=Tryz.underlying4
 a4:=Tryz.isAgg4
 z4:=Tryz.sizeOf4
 v4:=Tryz.zeroValue4
 t5:=Tryz.underlying5
 a5:=Tryz.isAgg5
 z5:=Tryz.sizeOf5
 v5:=Tryz.zeroValue5
 t9:=Tryz.underlying9
 a9:=Tryz.isAgg9
 z9:=Tryz.sizeOf9
 v9:=Tryz.zeroValue9
 t21:=Tryz.underlying21
 a21:=Tryz.isAgg21
 z21:=Tryz.sizeOf21
 v21:=Tryz.zeroValue21
 t31:=Tryz.underlying192
 a31:=Tryz.isAgg192
 z31:=Tryz.sizeOf192
 v31:=Tryz.zeroValue192
 t46:=Tryz.underlying170
 a46:=Tryz.isAgg170
 z46:=Tryz.sizeOf170
 v46:=Tryz.zeroValue170
 t51:=Tryz.underlying224
 a51:=Tryz.isAgg224
 z51:=Tryz.sizeOf224
 v51:=Tryz.zeroValue224
 t105:=Tryz.underlying300
 a105:=Tryz.isAgg300
 z105:=Tryz.sizeOf300
 v105:=Tryz.zeroValue300
 t119:=Tryz.underlying319
 a119:=Tryz.isAgg319
 z119:=Tryz.sizeOf319
 t138:=Tryz.underlying321
 a138:=Tryz.isAgg321
 z138:=Tryz.sizeOf321
 v138:=Tryz.zeroValue321
 t139:=Tryz.underlying322
 a139:=Tryz.isAgg322
 z139:=Tryz.sizeOf322
 v139:=Tryz.zeroValue322
 t146:=Tryz.underlying323
 a146:=Tryz.isAgg323
 z146:=Tryz.sizeOf323
 v146:=Tryz.zeroValue323
 g1:=by kernel_rfl
 g3:=by kernel_rfl
 g4:=by kernel_rfl }
def Tryz.FR:Go.Shelf.Ren:=⟨fun|6=>68|15=>103|14=>102|28=>145|29=>146|20=>137|21=>138|22=>139|23=>140|24=>141|25=>142|26=>143|27=>144|46=>195|47=>196|48=>197|49=>198|50=>199|57=>229|n=>n,fun|22=>41|24=>44|25=>129|3=>3|39=>170|0=>0|53=>224|55=>29|4=>4|46=>218|45=>217|50=>144|5=>5|9=>9|66=>272|70=>275|76=>297|77=>298|n=>n,fun|n=>n⟩
theorem Tryz.Lf:Go.Proofs.SlLaysF0.n6 Tryz.prog Tryz.FR:={
 mixed:=by kernel_rfl
 f6:=⟨Tryz.f68.name,by decide,Tryz.func68.trans (congrArg some (by kernel_rfl))⟩
 f14:=⟨Tryz.f102.name,by decide,Tryz.func102.trans (congrArg some (by kernel_rfl))⟩
 f15:=Tryz.func103.trans (congrArg some (by kernel_rfl))
 f20:=⟨Tryz.f137.name,by decide,Tryz.func137.trans (congrArg some (by kernel_rfl))⟩
 f21:=⟨Tryz.f138.name,by decide,Tryz.func138.trans (congrArg some (by kernel_rfl))⟩
 f22:=⟨Tryz.f139.name,by decide,Tryz.func139.trans (congrArg some (by kernel_rfl))⟩
 f23:=⟨Tryz.f140.name,by decide,Tryz.func140.trans (congrArg some (by kernel_rfl))⟩
 f24:=⟨Tryz.f141.name,by decide,Tryz.func141.trans (congrArg some (by kernel_rfl))⟩
 f25:=⟨Tryz.f142.name,by decide,Tryz.func142.trans (congrArg some (by kernel_rfl))⟩
 f26:=⟨Tryz.f143.name,by decide,Tryz.func143.trans (congrArg some (by kernel_rfl))⟩
 f27:=⟨Tryz.f144.name,by decide,Tryz.func144.trans (congrArg some (by kernel_rfl))⟩
 f28:=Tryz.func145.trans (congrArg some (by kernel_rfl))
 f29:=Tryz.func146.trans (congrArg some (by kernel_rfl))
 f46:=⟨Tryz.f195.name,by decide,Tryz.func195.trans (congrArg some (by kernel_rfl))⟩
 f47:=Tryz.func196.trans (congrArg some (by kernel_rfl))
 f48:=Tryz.func197.trans (congrArg some (by kernel_rfl))
 f49:=⟨Tryz.f198.name,by decide,Tryz.func198.trans (congrArg some (by kernel_rfl))⟩
 f50:=⟨Tryz.f199.name,by decide,Tryz.func199.trans (congrArg some (by kernel_rfl))⟩
 f57:=⟨Tryz.f229.name,by decide,Tryz.func229.trans (congrArg some (by kernel_rfl))⟩
 t0:=Tryz.underlying0
 a0:=Tryz.isAgg0
 z0:=Tryz.sizeOf0
 v0:=Tryz.zeroValue0
 t3:=Tryz.underlying3
 a3:=Tryz.isAgg3
 z3:=Tryz.sizeOf3
 v3:=Tryz.zeroValue3
 t4:=Tryz.underlying4
 a4:=Tryz.isAgg4
 z4:=Tryz.sizeOf4
 v4:=Tryz.zeroValue4
 t5:=Tryz.underlying5
 a5:=Tryz.isAgg5
 z5:=Tryz.sizeOf5
 v5:=Tryz.zeroValue5
 t9:=Tryz.underlying9
 a9:=Tryz.isAgg9
 z9:=Tryz.sizeOf9
 v9:=Tryz.zeroValue9
 t22:=Tryz.underlying41
 a22:=Tryz.isAgg41
 z22:=Tryz.sizeOf41
 v22:=Tryz.zeroValue41
 t25:=Tryz.underlying129
 a25:=Tryz.isAgg129
 z25:=Tryz.sizeOf129
 v25:=Tryz.zeroValue129
 t39:=Tryz.underlying170
 a39:=Tryz.isAgg170
 z39:=Tryz.sizeOf170
 v39:=Tryz.zeroValue170
 t45:=Tryz.underlying217
 a45:=Tryz.isAgg217
 z45:=Tryz.sizeOf217
 v45:=Tryz.zeroValue217
 t46:=Tryz.underlying218
 a46:=Tryz.isAgg218
 z46:=Tryz.sizeOf218
 v46:=Tryz.zeroValue218
 t50:=Tryz.underlying144
 a50:=Tryz.isAgg144
 z50:=Tryz.sizeOf144
 v50:=Tryz.zeroValue144
 t53:=Tryz.underlying224
 a53:=Tryz.isAgg224
 z53:=Tryz.sizeOf224
 v53:=Tryz.zeroValue224
 t55:=Tryz.underlying29
 a55:=Tryz.isAgg29
 z55:=Tryz.sizeOf29
 v55:=Tryz.zeroValue29
 t66:=Tryz.underlying272
 a66:=Tryz.isAgg272
 z66:=Tryz.sizeOf272
 v66:=Tryz.zeroValue272
 t70:=Tryz.underlying275
 a70:=Tryz.isAgg275
 z70:=Tryz.sizeOf275
 v70:=Tryz.zeroValue275
 t76:=Tryz.underlying297
 a76:=Tryz.isAgg297
 z76:=Tryz.sizeOf297
 v76:=Tryz.zeroValue297
 t77:=Tryz.underlying298
 a77:=Tryz.isAgg298
 z77:=Tryz.sizeOf298
 v77:=Tryz.zeroValue298 }
def Tryz.DK:Go.Shelf.Ren:=⟨fun|172=>234|244=>247|245=>248|247=>255|279=>256|280=>257|281=>258|282=>259|287=>263|316=>264|171=>266|205=>265|321=>267|322=>268|243=>269|246=>270|283=>271|284=>272|285=>273|286=>274|129=>146|317=>275|318=>276|319=>277|320=>278|337=>279|338=>280|n=>n,fun|9=>9|3=>3|75=>304|76=>305|4=>4|5=>5|167=>325|37=>113|0=>0|85=>326|2=>2|168=>328|53=>29|175=>333|46=>170|210=>336|127=>339|145=>342|143=>340|21=>21|171=>344|173=>346|212=>349|51=>224|20=>20|213=>350|232=>351|233=>352|80=>332|n=>n,fun|15=>3|16=>4|17=>5|18=>6|19=>7|n=>n⟩
theorem Tryz.MO:Go.Proofs.Lays.n172 Tryz.prog Tryz.DK:={
 mixed:=by kernel_rfl
 f129:=Tryz.func146.trans (congrArg some (by kernel_rfl))
 f171:=Tryz.func266.trans (congrArg some (by kernel_rfl))
 f172:=Tryz.func234.trans (congrArg some (by kernel_rfl))
 f205:=Tryz.func265.trans (congrArg some (by kernel_rfl))
 f243:=Tryz.func269.trans (congrArg some (by kernel_rfl))
 f244:=Tryz.func247.trans (congrArg some (by kernel_rfl))
 f245:=Tryz.func248.trans (congrArg some (by kernel_rfl))
 f246:=Tryz.func270.trans (congrArg some (by kernel_rfl))
 f247:=Tryz.func255.trans (congrArg some (by kernel_rfl))
 f279:=Tryz.func256.trans (congrArg some (by kernel_rfl))
 f280:=Tryz.func257.trans (congrArg some (by kernel_rfl))
 f281:=Tryz.func258.trans (congrArg some (by kernel_rfl))
 f282:=Tryz.func259.trans (congrArg some (by kernel_rfl))
 f283:=Tryz.func271.trans (congrArg some (by kernel_rfl))
 f284:=Tryz.func272.trans (congrArg some (by kernel_rfl))
 f285:=Tryz.func273.trans (congrArg some (by kernel_rfl))
 f286:=Tryz.func274.trans (congrArg some (by kernel_rfl))
 f287:=Tryz.func263.trans (congrArg some (by kernel_rfl))
 f316:=Tryz.func264.trans (congrArg some (by kernel_rfl))
 f317:=Tryz.func275.trans (congrArg some (by kernel_rfl))
 f318:=Tryz.func276.trans (congrArg some (by kernel_rfl))
 f319:=Tryz.func277.trans (congrArg some (by kernel_rfl))
 f320:=Tryz.func278.trans (congrArg some (by kernel_rfl))
 f321:=Tryz.func267.trans (congrArg some (by kernel_rfl))
 f322:=Tryz.func268.trans (congrArg some (by kernel_rfl))
 f337:=Tryz.func279.trans (congrArg some (by kernel_rfl))
 f338:=Tryz.func280.trans (congrArg some (by kernel_rfl))
 t0:=Tryz.underlying0
 a0:=Tryz.isAgg0
 z0:=Tryz.sizeOf0
 v0:=Tryz.zeroValue0
 t2:=Tryz.underlying2
 a2:=Tryz.isAgg2
 z2:=Tryz.sizeOf2
 v2:=Tryz.zeroValue2
 t3:=Tryz.underlying3
 a3:=Tryz.isAgg3
 z3:=Tryz.sizeOf3
 v3:=Tryz.zeroValue3
 t4:=Tryz.underlying4
 a4:=Tryz.isAgg4
 z4:=Tryz.sizeOf4
 v4:=Tryz.zeroValue4
 t5:=Tryz.underlying5
 a5:=Tryz.isAgg5
 z5:=Tryz.sizeOf5
 v5:=Tryz.zeroValue5
 t9:=Tryz.underlying9
 a9:=Tryz.isAgg9
 z9:=Tryz.sizeOf9
 v9:=Tryz.zeroValue9
 t20:=Tryz.underlying20
 a20:=Tryz.isAgg20
 z20:=Tryz.sizeOf20
 v20:=Tryz.zeroValue20
 t21:=Tryz.underlying21
 a21:=Tryz.isAgg21
 z21:=Tryz.sizeOf21
 v21:=Tryz.zeroValue21
 t37:=Tryz.underlying113
 a37:=Tryz.isAgg113
 z37:=Tryz.sizeOf113
 v37:=Tryz.zeroValue113
 t46:=Tryz.underlying170
 a46:=Tryz.isAgg170
 z46:=Tryz.sizeOf170
 v46:=Tryz.zeroValue170
 t51:=Tryz.underlying224
 a51:=Tryz.isAgg224
 z51:=Tryz.sizeOf224
 v51:=Tryz.zeroValue224
 t53:=Tryz.underlying29
 a53:=Tryz.isAgg29
 z53:=Tryz.sizeOf29
 v53:=Tryz.zeroValue29
 t75:=Tryz.underlying304
 a75:=Tryz.isAgg304
 z75:=Tryz.sizeOf304
 v75:=Tryz.zeroValue304
 t76:=Tryz.underlying305
 a76:=Tryz.isAgg305
 z76:=Tryz.sizeOf305
 v76:=Tryz.zeroValue305
 t85:=Tryz.underlying326
 a85:=Tryz.isAgg326
 z85:=Tryz.sizeOf326
 v85:=Tryz.zeroValue326
 t127:=Tryz.underlying339
 a127:=Tryz.isAgg339
 z127:=Tryz.sizeOf339
 v127:=Tryz.zeroValue339
 t143:=Tryz.underlying340
 a143:=Tryz.isAgg340
 z143:=Tryz.sizeOf340
 v143:=Tryz.zeroValue340
 t145:=Tryz.underlying342
 a145:=Tryz.isAgg342
 z145:=Tryz.sizeOf342
 v145:=Tryz.zeroValue342
 t167:=Tryz.underlying325
 a167:=Tryz.isAgg325
 z167:=Tryz.sizeOf325
 v167:=Tryz.zeroValue325
 t168:=Tryz.underlying328
 a168:=Tryz.isAgg328
 z168:=Tryz.sizeOf328
 v168:=Tryz.zeroValue328
 t171:=Tryz.underlying344
 a171:=Tryz.isAgg344
 z171:=Tryz.sizeOf344
 v171:=Tryz.zeroValue344
 t173:=Tryz.underlying346
 a173:=Tryz.isAgg346
 z173:=Tryz.sizeOf346
 v173:=Tryz.zeroValue346
 t175:=Tryz.underlying333
 a175:=Tryz.isAgg333
 z175:=Tryz.sizeOf333
 v175:=Tryz.zeroValue333
 t210:=Tryz.underlying336
 a210:=Tryz.isAgg336
 z210:=Tryz.sizeOf336
 v210:=Tryz.zeroValue336
 t212:=Tryz.underlying349
 a212:=Tryz.isAgg349
 z212:=Tryz.sizeOf349
 v212:=Tryz.zeroValue349
 t213:=Tryz.underlying350
 a213:=Tryz.isAgg350
 z213:=Tryz.sizeOf350
 t232:=Tryz.underlying351
 a232:=Tryz.isAgg351
 z232:=Tryz.sizeOf351
 v232:=Tryz.zeroValue351
 t233:=Tryz.underlying352
 a233:=Tryz.isAgg352
 z233:=Tryz.sizeOf352
 v233:=Tryz.zeroValue352
 g15:=by kernel_rfl
 g16:=by kernel_rfl
 g17:=by kernel_rfl
 g18:=by kernel_rfl
 g19:=by kernel_rfl }
open Go.RowKit in
theorem Tryz.strconv_Atoi(s:ByteArray)(n:Int)(hl:s.size<=18)(h:Lib.atoi s.data.toList=some n)(w:World) :
  Calls Tryz.prog 234 #[.string s] w λ e w'=>e=.returned (.tuple #[.int .i64 n,.nilIface])/\∃ t,w' = Lib.bytesWorld w 5 t:=Any.strconv_Atoi Tryz.MO s n hl h w
def Tryz.DJ:Go.Shelf.Ren:=⟨fun|151=>239|152=>251|137=>260|119=>261|224=>245|225=>244|217=>243|266=>253|n=>n,fun|9=>9|21=>21|4=>4|3=>3|5=>5|0=>0|46=>170|n=>n,fun|n=>n⟩
theorem Tryz.MN:Go.Proofs.Lays.n151 Tryz.prog Tryz.DJ:={
 mixed:=by kernel_rfl
 f119:=Tryz.func261.trans (congrArg some (by kernel_rfl))
 f137:=Tryz.func260.trans (congrArg some (by kernel_rfl))
 f151:=Tryz.func239.trans (congrArg some (by kernel_rfl))
 f152:=Tryz.func251.trans (congrArg some (by kernel_rfl))
 f217:=Tryz.func243.trans (congrArg some (by kernel_rfl))
 f224:=Tryz.func245.trans (congrArg some (by kernel_rfl))
 f225:=Tryz.func244.trans (congrArg some (by kernel_rfl))
 f266:=Tryz.func253.trans (congrArg some (by kernel_rfl))
 t0:=Tryz.underlying0
 a0:=Tryz.isAgg0
 z0:=Tryz.sizeOf0
 v0:=Tryz.zeroValue0
 t3:=Tryz.underlying3
 a3:=Tryz.isAgg3
 z3:=Tryz.sizeOf3
 v3:=Tryz.zeroValue3
 t4:=Tryz.underlying4
 a4:=Tryz.isAgg4
 z4:=Tryz.sizeOf4
 v4:=Tryz.zeroValue4
 t5:=Tryz.underlying5
 a5:=Tryz.isAgg5
 z5:=Tryz.sizeOf5
 v5:=Tryz.zeroValue5
 t9:=Tryz.underlying9
 a9:=Tryz.isAgg9
 z9:=Tryz.sizeOf9
 v9:=Tryz.zeroValue9
 t21:=Tryz.underlying21
 a21:=Tryz.isAgg21
 z21:=Tryz.sizeOf21
 v21:=Tryz.zeroValue21
 t46:=Tryz.underlying170
 a46:=Tryz.isAgg170
 z46:=Tryz.sizeOf170
 v46:=Tryz.zeroValue170 }
open Go.RowKit Go.Lib in
theorem Tryz.strings_ContainsRune_ascii(s:ByteArray)(r:Int)(w:World)(h0:0<=r)(h1:r<128) :
  Calls Tryz.prog 239 #[.string s,.int .i32 r] w λ e w'=>e=.returned (.bool (decide (0<=Lib.indexByte s.data.toList r.toNat.toUInt8)))/\w' = w:=Any.strings_ContainsRune_ascii Tryz.MN s r w h0 h1
def Tryz.DH:Go.Shelf.Ren:=⟨fun|138=>208|195=>230|218=>232|143=>209|219=>233|217=>243|225=>244|224=>245|267=>246|266=>253|314=>254|n=>n,fun|9=>9|3=>3|4=>4|5=>5|0=>0|46=>170|146=>323|51=>224|n=>n,fun|1=>0|n=>n⟩
theorem Tryz.ML:Go.Proofs.Lays.n138 Tryz.prog Tryz.DH:={
 mixed:=by kernel_rfl
 f138:=Tryz.func208.trans (congrArg some (by kernel_rfl))
 f143:=Tryz.func209.trans (congrArg some (by kernel_rfl))
 f195:=Tryz.func230.trans (congrArg some (by kernel_rfl))
 f217:=Tryz.func243.trans (congrArg some (by kernel_rfl))
 f218:=Tryz.func232.trans (congrArg some (by kernel_rfl))
 f219:=Tryz.func233.trans (congrArg some (by kernel_rfl))
 f224:=Tryz.func245.trans (congrArg some (by kernel_rfl))
 f225:=Tryz.func244.trans (congrArg some (by kernel_rfl))
 f266:=Tryz.func253.trans (congrArg some (by kernel_rfl))
 f267:=Tryz.func246.trans (congrArg some (by kernel_rfl))
 f314:=Tryz.func254.trans (congrArg some (by kernel_rfl))
 t0:=Tryz.underlying0
 a0:=Tryz.isAgg0
 z0:=Tryz.sizeOf0
 v0:=Tryz.zeroValue0
 t3:=Tryz.underlying3
 a3:=Tryz.isAgg3
 z3:=Tryz.sizeOf3
 v3:=Tryz.zeroValue3
 t4:=Tryz.underlying4
 a4:=Tryz.isAgg4
 z4:=Tryz.sizeOf4
 v4:=Tryz.zeroValue4
 t5:=Tryz.underlying5
 a5:=Tryz.isAgg5
 z5:=Tryz.sizeOf5
 v5:=Tryz.zeroValue5
 t9:=Tryz.underlying9
 a9:=Tryz.isAgg9
 z9:=Tryz.sizeOf9
 v9:=Tryz.zeroValue9
 t46:=Tryz.underlying170
 a46:=Tryz.isAgg170
 z46:=Tryz.sizeOf170
 v46:=Tryz.zeroValue170
 t51:=Tryz.underlying224
 a51:=Tryz.isAgg224
 z51:=Tryz.sizeOf224
 v51:=Tryz.zeroValue224
 t146:=Tryz.underlying323
 a146:=Tryz.isAgg323
 z146:=Tryz.sizeOf323
 v146:=Tryz.zeroValue323
 g1:=by kernel_rfl }
open Go.RowKit Go.Lib in
theorem Tryz.strings_Count_one(s:ByteArray)(c:UInt8)(w:World) :
  Calls Tryz.prog 208 #[.string s,.string ⟨#[c]⟩] w λ e w'=>e=.returned (.int .i64 (Lib.countByte s.data.toList c))/\w' = w:=Any.strings_Count_one Tryz.ML s c w
def Tryz.DG:Go.Shelf.Ren:=⟨fun|137=>260|217=>243|266=>253|n=>n,fun|9=>9|5=>5|3=>3|n=>n,fun|n=>n⟩
theorem Tryz.MK:Go.Proofs.Lays.n137 Tryz.prog Tryz.DG:={
 mixed:=by kernel_rfl
 f137:=Tryz.func260.trans (congrArg some (by kernel_rfl))
 f217:=Tryz.func243.trans (congrArg some (by kernel_rfl))
 f266:=Tryz.func253.trans (congrArg some (by kernel_rfl))
 t3:=Tryz.underlying3
 a3:=Tryz.isAgg3
 z3:=Tryz.sizeOf3
 v3:=Tryz.zeroValue3
 t5:=Tryz.underlying5
 a5:=Tryz.isAgg5
 z5:=Tryz.sizeOf5
 v5:=Tryz.zeroValue5
 t9:=Tryz.underlying9
 a9:=Tryz.isAgg9
 z9:=Tryz.sizeOf9
 v9:=Tryz.zeroValue9 }
open Go.RowKit in
theorem Tryz.strings_IndexByte(s:ByteArray)(c:Int)(w:World) :
  Calls Tryz.prog 260 #[.string s,.int .u8 c] w λ e w'=>e=.returned (.int .i64 (Lib.indexByte s.data.toList c.toNat.toUInt8))/\w' = w:=Any.strings_IndexByte Tryz.MK s c w
def Tryz.DI:Go.Shelf.Ren:=⟨fun|143=>209|219=>233|217=>243|225=>244|224=>245|267=>246|266=>253|314=>254|n=>n,fun|9=>9|3=>3|4=>4|5=>5|46=>170|146=>323|51=>224|n=>n,fun|1=>0|n=>n⟩
theorem Tryz.MM:Go.Proofs.Lays.n143 Tryz.prog Tryz.DI:={
 mixed:=by kernel_rfl
 f143:=Tryz.func209.trans (congrArg some (by kernel_rfl))
 f217:=Tryz.func243.trans (congrArg some (by kernel_rfl))
 f219:=Tryz.func233.trans (congrArg some (by kernel_rfl))
 f224:=Tryz.func245.trans (congrArg some (by kernel_rfl))
 f225:=Tryz.func244.trans (congrArg some (by kernel_rfl))
 f266:=Tryz.func253.trans (congrArg some (by kernel_rfl))
 f267:=Tryz.func246.trans (congrArg some (by kernel_rfl))
 f314:=Tryz.func254.trans (congrArg some (by kernel_rfl))
 t3:=Tryz.underlying3
 a3:=Tryz.isAgg3
 z3:=Tryz.sizeOf3
 v3:=Tryz.zeroValue3
 t4:=Tryz.underlying4
 a4:=Tryz.isAgg4
 z4:=Tryz.sizeOf4
 v4:=Tryz.zeroValue4
 t5:=Tryz.underlying5
 a5:=Tryz.isAgg5
 z5:=Tryz.sizeOf5
 v5:=Tryz.zeroValue5
 t9:=Tryz.underlying9
 a9:=Tryz.isAgg9
 z9:=Tryz.sizeOf9
 v9:=Tryz.zeroValue9
 t46:=Tryz.underlying170
 a46:=Tryz.isAgg170
 z46:=Tryz.sizeOf170
 v46:=Tryz.zeroValue170
 t51:=Tryz.underlying224
 a51:=Tryz.isAgg224
 z51:=Tryz.sizeOf224
 v51:=Tryz.zeroValue224
 t146:=Tryz.underlying323
 a146:=Tryz.isAgg323
 z146:=Tryz.sizeOf323
 v146:=Tryz.zeroValue323
 g1:=by kernel_rfl }
open Go.RowKit Go.Lib in
theorem Tryz.strings_Index_one(s:ByteArray)(c:UInt8)(w:World) :
  Calls Tryz.prog 209 #[.string s,.string ⟨#[c]⟩] w λ e w'=>e=.returned (.int .i64 (Lib.indexByte s.data.toList c))/\w' = w:=Any.strings_Index_one Tryz.MM s c w
def Tryz.DF:Go.Shelf.Ren:=⟨fun|119=>261|n=>n,fun|21=>21|4=>4|n=>n,fun|n=>n⟩
theorem Tryz.MJ:Go.Proofs.Lays.n119 Tryz.prog Tryz.DF:={
 mixed:=by kernel_rfl
 f119:=Tryz.func261.trans (congrArg some (by kernel_rfl))
 t4:=Tryz.underlying4
 a4:=Tryz.isAgg4
 z4:=Tryz.sizeOf4
 v4:=Tryz.zeroValue4
 t21:=Tryz.underlying21
 a21:=Tryz.isAgg21
 z21:=Tryz.sizeOf21
 v21:=Tryz.zeroValue21 }
theorem Tryz.utf8_ValidRune(r:Int)(w:World) :
  Calls Tryz.prog 261 #[.int .i32 r] w λ e w'=>e=.returned (.bool (Lib.validRune r))/\w' = w:=Any.utf8_ValidRune Tryz.MJ r w
end Go.Proofs
namespace Go.Proofs.YtmffhopdpbikgaaGreatDoor
open Go Go.Vc _root_.Go.Proofs.Tryz
def gA(a:ByteArray)(b:Int)(w:World)(K:KP):=CC 251 #[.string a,.int .i32 b] w λ a b=>∃ c,a=.returned (iv c)/\K (.bool (decide (c>=0))) b
theorem lC{s1 n1 w K}(h:gA s1 n1 w K):CP 239 #[.string s1,.int .i32 n1] w K:=ah (az []) func239 (by kernel_rfl) (by kernel_rfl) h
def marks:List UInt8:=[123,125,40,41,44,58,64,43,45,61]
theorem R3(c:UInt8)(h:128<=c.toNat):∃ a b:UInt8,Utf8.encode (un c)=bs [a,b]/\128<=b.toNat:=by
 have hc:=c.toNat_lt;refine⟨UInt8.ofNat (0xC0+c.toNat / 64),UInt8.ofNat (0x80+c.toNat%64),?_,?_⟩
 ·have hv:Utf8.valid (un c)=true:=by
   unfold Utf8.valid un
   simp
   omega
  have h1:(un c).toNat=c.toNat:=by unfold un; exact Int.toNat_natCast _
  unfold Utf8.encode;simp only[hv,if_true,h1];rw[if_neg (by omega),if_pos (by omega)];rfl
 ·rw[UInt8.toNat_ofNat'];omega
open Go.Shelf Go.RowKit Go.Lib in
set_option maxHeartbeats 2000000 in
set_option maxRecDepth 1000000 in
theorem ir(w:World)(n:Int)(h0:0<=n)(h1 : ¬ n<128)(h2:n<256)(h3:(n==65533)=false)(a b:UInt8)(he:Utf8.encode n=⟨#[a,b]⟩)(hv:Lib.validRune n=true)(hb:128<=b.toNat) :
  Calls prog 251 #[.string ⟨#[123,125,40,41,44,58,64,43,45,61]⟩,.int .i32 n] w λ e w'=>e=.returned (.int .i64 (-1))/\aA w w' []:=by
 have e289:∀ args w,(callFunc 260 args).run prog w=.ok (.enter 260 args) w:=enters_of func260 (by kernel_rfl) rfl;have e290:∀ args w,(callFunc 261 args).run prog w=.ok (.enter 261 args) w:=enters_of func261 (by kernel_rfl) rfl
 go_enter func251,Tryz.ntmps251
 go_wp2_with (first
  | (go_at_fn 261; refine(Tryz.utf8_ValidRune _ _).mono ?_; rintro e w' ⟨rfl,hw⟩; rw[hw,hv])
  | (go_at_fn 260; refine(Tryz.strings_IndexByte _ _ _).mono ?_; rintro e w' ⟨rfl,hw⟩; rw[hw]))
 have hcv:∀ w,(convert 21 9 (.int .i32 n)).run prog w=.ok (.string ⟨#[a,b]⟩) w:=λ w=>by
  rw[<- he];simp[convert,aC (P:=prog) underlying21,aC (P:=prog) underlying9,Conv.intToString]
 go_step3
 go_wp2_with (first
  | (go_at_fn 260; refine(Tryz.strings_IndexByte _ _ _).mono ?_; rintro e w' ⟨rfl,hw⟩; rw[hw]))
 refine wp_loop_once ?_;have hb2:((125:Int) !=(b.toNat:Int))=true:=by rw[bne_iff_ne]; omega
 have hne:∀ x:UInt8,x.toNat<128->(x==b)=false:=λ x hx=>by rw[beq_eq_false_iff_ne]; rintro rfl; omega
 go_wp2_with (first
  | (go_at_fn 260; refine(Tryz.strings_IndexByte _ _ _).mono ?_; rintro e w' ⟨rfl,hw⟩; rw[hw]))
 all_goals (try go_step3)
 go_wp2_with (first
  | (go_at_fn 260; refine(Tryz.strings_IndexByte _ _ _).mono ?_; rintro e w' ⟨rfl,hw⟩; rw[hw]))
 all_goals go_region
 all_goals go_wp2
 ·have hi:Lib.indexByte [40,41,44,58,64,43,45,61] ((⟨#[a,b]⟩:ByteArray)[1]'(by show 1<2; decide))=-1:=by
   show Lib.indexByte [40,41,44,58,64,43,45,61] b=-1;simp[Lib.indexByte,hne 40 (by decide),hne 41 (by decide),hne 44 (by decide),hne 58 (by decide),hne 64 (by decide),hne 43 (by decide),hne 45 (by decide),hne 61 (by decide)]
  have c2:aA w w.drew.drew []:=(aA.drew w []).trans (aA.drew _ []) (by simp)
  go_region_with (go_at_call 260; refine(Tryz.strings_IndexByte _ _ _).mono ?_; rintro e w' ⟨rfl,hw⟩; rw[hw])
  all_goals go_wp2
  all_goals (rw[Exit.noGoto_ret]; show bodyPost prog Tryz.f251 (λ e w'=>e=Ending.returned (Value.int IntKind.i64 (-1))/\aA w w' []) Exit.ret _ _; go_ret; exact⟨rfl,c2⟩)
 ·exfalso
  first
   | exact absurd hb2 (show ¬ ((125:Int) !=(b.toNat:Int))=true by assumption)
   | exact absurd hb2 (by rw[show((125:Int) !=(b.toNat:Int))=false by assumption]; decide)
   | exact absurd (show(125:Int)=(b.toNat:Int) by assumption) (by omega)
theorem DC(w:World)(c:UInt8)(h:128<=c.toNat):CP 251 #[sv marks,.int .i32 (un c)] w (λ r w'=>r=iv (-1)/\aA w w' []):=by
 obtain⟨a,b,he,hb⟩:=R3 c h;have hc:=c.toNat_lt;have hu:un c=(c.toNat:Int):=rfl;refine Calls.mono (ir w (un c) (by omega) (by omega) (by omega) (by rw[beq_eq_false_iff_ne]; omega) a b he (dT (.inl (by omega))) hb) ?_;rintro e w' ⟨rfl,h⟩;exact⟨_,rfl,rfl,h⟩
theorem H8:∀ n:Nat,n<128->decide (0<=Lib.indexByte marks n.toUInt8)=marks.contains n.toUInt8:=by decide
theorem Fg{c:UInt8}(h:128<=c.toNat):marks.contains c=false:=by
 cases hm:marks.contains c with
 | false=>rfl
 | true =>
  have:c∈marks:=by simpa using hm
  simp only[marks,List.mem_cons,List.mem_nil_iff,or_false] at this;rcases this with rfl|rfl|rfl|rfl|rfl|rfl|rfl|rfl|rfl|rfl<;>revert h<;>decide
theorem EX(w:World)(c:UInt8):CP 239 #[sv marks,.int .i32 (un c)] w (λ r w'=>r=.bool (marks.contains c)/\aA w w' []):=by
 rcases Nat.lt_or_ge c.toNat 128 with h|h
 ·refine(Tryz.strings_ContainsRune_ascii (bs marks) (un c) w (by unfold un; omega) (by unfold un; omega)).mono ?_;rintro e w1 ⟨rfl,rfl⟩;refine⟨_,rfl,?_,aA.refl _ _⟩;have e1:(un c).toNat.toUInt8=c:=by unfold un; rw[Int.toNat_natCast]; exact UInt8.ofNat_toNat
  have:=H8 c.toNat h;have e2:c.toNat.toUInt8=c:=UInt8.ofNat_toNat;rw[e2] at this;rw[e1,<- this]; rfl
 ·refine lC ?_;unfold gA;refine aj (DC w c h) ?_;rintro v w1 ⟨rfl,c1⟩;exact⟨_,rfl,by rw[Fg h]; rfl,c1⟩
structure Tk where
 k:Int
 t:List UInt8
 v:Int
 a:Int
def Tk.cells(x:Tk):List Value:=[iv x.k,sv x.t,iv x.v,iv x.a]
theorem Tk.len(x:Tk):x.cells.length=4:=rfl
theorem Tk.one(x:Tk):∀ v∈x.cells,v.oneCell' = true:=by
 intro v hv; simp[Tk.cells] at hv; rcases hv with rfl|rfl|rfl|rfl<;>rfl
def Tk.val(x:Tk):Value:=.agg x.cells.toArray
def uo:Tk:=⟨0,[],0,0⟩
theorem RB:hU prog 259 287 uo.val 4 40:=hU.mk' underlying259 (by kernel_rfl) rfl (by decide)
def digits(l:List UInt8):List UInt8:=l.takeWhile λ c=>wK (un c)
def word(l:List UInt8):List UInt8:=l.takeWhile λ c=>inr (un c)
def eu(l:List UInt8)(n:Nat)(c:UInt8):Tk×Int :=
 if MR (un c) then (if 12<(word (l.drop n)).length then (uo,3) else (⟨1,word (l.drop n),0,n⟩,0))
 else if wK (un c) then (if (wW (digits (l.drop n))).2≠0 then (uo,(wW (digits (l.drop n))).2) else (⟨2,digits (l.drop n),(wW (digits (l.drop n))).1,n⟩,0))
 else if marks.contains c then (⟨3,[c],0,n⟩,0) else (uo,2)
theorem Lz{p:UInt8->Bool}:∀ (l:List UInt8),(l.takeWhile p).all p=true
 | []=>rfl
 | c :: l=>by
  rw[List.takeWhile_cons]
  split
  ·rename_i h; rw[List.all_cons,h,Lz l]; rfl
  ·rfl
theorem PG(w:World){l:List UInt8}(hl:l.length<=4000){n:Nat}{c:UInt8}(hc:l[n]?=some c) :
  CP 216 #[sv l,iv n] w (λ r w'=>r=.tuple #[(eu l n c).1.val,iv (eu l n c).2]/\aA w w' []):=by
 refine B3 ?_;unfold AO;have hn:=(List.getElem?_eq_some_iff.1 hc).1;refine(St.start w).one.ax uo.cells.toArray λ r1 w1 s1=>s1.ax uo.cells.toArray λ r2 w2 s2=>s2.ay 0 rfl (Tk.mk 0 [] 0 n).cells rfl (Tk.one _) λ w3 s3=>?_;refine⟨λ w4=>(eu l n c).2=0/\St w w4 (Sep [ai r2 (eu l n c).1.cells.toArray 287,ai r1 uo.cells.toArray 287,emp]),?_,by omega,?_⟩
 ·rintro w4 ⟨h0,s4⟩ -;exact⟨_,_,_,_,s4.cellsIn 0 rfl,s4.ay 1 rfl (eu l n c).1.cells rfl (Tk.one _) λ w5 s5=>⟨_,_,_,_,s5.cellsIn 1 rfl,by rw[h0]; rfl,s5.av⟩⟩
 rw[Int.toNat_natCast,lR,hc];show aq (some c) _;rw[aq,wrap32];refine aj (yS w3 (un c)) ?_;rintro v _ ⟨rfl,rfl⟩;refine⟨_,rfl,?_⟩;have fail:∀ {e:Int} {w' : World},St w w' (Sep [ai r2 (Tk.mk 0 [] 0 n).cells.toArray 287,ai r1 uo.cells.toArray 287,emp])->True:=λ _=>trivial;clear fail
 cases h1:MR (un c) with
 | true =>
  have e1:eu l n c=if 12<(word (l.drop n)).length then (uo,3) else (⟨1,word (l.drop n),0,n⟩,0):=by rw[eu,if_pos h1]
  refine cT rfl (aj (KZ _ (by omega) (p:=λ c=>inr (un c)) ME (by omega)) ?_);rintro v w7 ⟨rfl,rfl⟩;refine⟨_,rfl,s3.aJ 0 rfl (j:=0) (show 0<4 by decide) rfl λ w8 s8=>s8.aJ 0 rfl (j:=1) (show 1<4 by decide) rfl λ w9 s9=>⟨_,s9.ag 0 rfl 1,?_⟩⟩;show cond (decide ((((bs (word (l.drop n))).size:Nat):Int)>12)) _ _;rw[gC]
  by_cases h12:12<(word (l.drop n)).length
  ·rw[if_pos h12] at e1;exact cT (dT (by omega)) (s9.ay 1 rfl uo.cells rfl (Tk.one _) λ w10 s10=>⟨0,bs [],0,0,s10.cellsIn 1 rfl,by rw[e1]; rfl,s10.av⟩)
  ·rw[if_neg h12] at e1;exact cF (dF (by omega)) ⟨by rw[e1],by rw[e1]; exact s9⟩
 | false =>
 refine cF rfl (aj (BM _ (un c)) ?_);rintro v _ ⟨rfl,rfl⟩;refine⟨_,rfl,?_⟩
 cases h2:wK (un c) with
 | true =>
  have e1:eu l n c=if (wW (digits (l.drop n))).2≠0 then (uo,(wW (digits (l.drop n))).2) else (⟨2,digits (l.drop n),(wW (digits (l.drop n))).1,n⟩,0):=by rw[eu,if_neg (by rw[h1]; decide),if_pos h2]
  refine cT rfl (aj (KZ _ (by omega) (p:=λ c=>wK (un c)) Mn (by omega)) ?_);rintro v w7 ⟨rfl,rfl⟩;refine⟨_,rfl,s3.aJ 0 rfl (j:=0) (show 0<4 by decide) rfl λ w8 s8=>s8.aJ 0 rfl (j:=1) (show 1<4 by decide) rfl λ w9 s9=>⟨_,s9.ag 0 rfl 1,?_⟩⟩;have hdl:(digits (l.drop n)).length<=4000:=Nat.le_trans (List.takeWhile_prefix _).length_le (by rw[List.length_drop]; omega);refine aj (Kw w9 (l:=digits (l.drop n)) (Lz _) (by omega)) ?_;rintro v _ ⟨rfl,rfl⟩;refine⟨_,_,rfl,?_⟩
  by_cases h3:(wW (digits (l.drop n))).2=0
  ·rw[if_neg (by simpa using h3)] at e1;exact cF (by rw[h3]; rfl) (s9.aJ 0 rfl (j:=2) (show 2<4 by decide) rfl λ w10 s10=>⟨by rw[e1],by rw[e1]; exact s10⟩)
  ·rw[if_pos h3] at e1;exact cT (by simpa using h3) (s9.ay 1 rfl uo.cells rfl (Tk.one _) λ w10 s10=>⟨0,bs [],0,0,s10.cellsIn 1 rfl,by rw[e1]; rfl,s10.av⟩)
 | false =>
 refine cF rfl (aj (EX _ c) ?_);rintro v w18 ⟨rfl,c18⟩;have s18:=s3.quiet c18;refine⟨_,rfl,?_⟩
 cases h3:marks.contains c with
 | true =>
  have e1:eu l n c=(⟨3,[c],0,n⟩,0):=by rw[eu,if_neg (by rw[h1]; decide),if_neg (by rw[h2]; decide),if_pos h3]
  have e2:IntKind.i64.wrap ((n:Int)+1)=((n+1:Nat):Int):=by rw[aB ⟨by omega,by omega⟩]; omega
  have e3:(bs l).extract n (n+1)=bs [c]:=by
   rw[BD,Nat.add_sub_cancel_left]
   congr 1
   rw[List.take_one,List.head?_drop,hc]; rfl
  rw[e2,gC];simp only[Int.toNat_natCast];rw[e3];refine cT rfl ⟨by omega,by omega,by omega,by omega,?_⟩;exact(s18.quiet (aA.drew w18 [])).aJ 0 rfl (j:=0) (show 0<4 by decide) rfl λ w8 s8=>s8.aJ 0 rfl (j:=1) (show 1<4 by decide) rfl λ w9 s9=>⟨by rw[e1],by rw[e1]; exact s9⟩
 | false =>
  have e1:eu l n c=(uo,2):=by rw[eu,if_neg (by rw[h1]; decide),if_neg (by rw[h2]; decide),if_neg (by rw[h3]; decide)]
  exact cF rfl (s18.ay 1 rfl uo.cells rfl (Tk.one _) λ w10 s10=>⟨0,bs [],0,0,s10.cellsIn 1 rfl,by rw[e1]; rfl,s10.av⟩)
theorem Kj{l:List UInt8}{n:Nat}{c:UInt8}(hc:l[n]?=some c)(h0:(eu l n c).2=0):1<=(eu l n c).1.t.length/\n+(eu l n c).1.t.length<=l.length:=by
 have hn:=(List.getElem?_eq_some_iff.1 hc).1;have hd:l.drop n=c :: l.drop (n+1):=by rw[List.drop_eq_getElem_cons hn]; congr 1; exact Option.some.inj ((gE hn).symm.trans hc)
 have tw:∀ {p:UInt8->Bool},p c=true->1<=((l.drop n).takeWhile p).length/\n+((l.drop n).takeWhile p).length<=l.length:=λ {p} hp=>by
  have h1:((l.drop n).takeWhile p).length<=(l.drop n).length:=(List.takeWhile_prefix _).length_le;rw[List.length_drop] at h1;refine⟨?_,by omega⟩;rw[hd,List.takeWhile_cons,if_pos hp]; simp
 unfold eu at h0 ⊢
 split
 ·rename_i h;rw[if_pos h] at h0
  split
  ·rename_i h2; rw[if_pos h2] at h0; cases h0
  ·exact tw (p:=λ c=>inr (un c)) (by simp[inr,h])
 ·rename_i h;rw[if_neg h] at h0
  split
  ·rename_i h2;rw[if_pos h2] at h0
   split
   ·rename_i h3; rw[if_pos h3] at h0; exact absurd h0 h3
   ·exact tw (p:=λ c=>wK (un c)) h2
  ·rename_i h2;rw[if_neg h2] at h0
   split
   ·exact⟨Nat.le_refl _,by simp; omega⟩
   ·rename_i h3; rw[if_neg h3] at h0; cases h0
def Ah(l:List UInt8):Nat->Nat->List Tk->List Tk×Int
 | 0,_,acc=>(acc,0)
 | f+1,n,acc=>match l[n]? with
  | none=>(acc,0)
  | some c=>if c=32 then Ah l f (n+1) acc else if (eu l n c).2≠0 then ([],(eu l n c).2) else Ah l f (n+(eu l n c).1.t.length) (acc++[(eu l n c).1])
def bI(l:List UInt8):List Tk×Int:=if 4000<l.length then ([],3) else Ah l l.length 0 []
theorem Lw{w:World}(l:List UInt8) :
  CP 184 #[sv l] w (λ r w'=>∃ a c,r=.tuple #[.slice a (bI l).1.length c,iv (bI l).2]/\St w w' (bM 287 4 Tk.cells a c (bI l).1)):=by
 refine wU ?_;unfold tq;rw[gC]
 by_cases hl:4000<l.length
 ·refine cT (dT (by omega)) ⟨none,0,?_⟩;rw[bI,if_pos hl];exact⟨rfl,(St.start w).cv.first⟩
 refine cF (dF (by omega)) ?_;have e0:bI l=Ah l l.length 0 []:=by rw[bI,if_neg hl]
 refine⟨λ a l1 c n w1 m=>∃ (k:Nat) (acc:List Tk),n=k/\k<=l.length/\m=l.length-k/\l1=acc.length/\acc.length<=k/\(∃ f,l.length-k<=f/\Ah l f k acc=bI l)/\St w w1 (star (bM 287 4 Tk.cells a c acc) emp),⟨l.length,0,[],rfl,by omega,by omega,rfl,by simp,⟨l.length,by omega,e0.symm⟩,(St.start w).cv⟩,?_⟩;rintro w1 m a l1 c n ⟨k,acc,rfl,hk,hm,rfl,hac,⟨f,hf,ht⟩,s1⟩ -
 by_cases hlt:k<l.length
 ·have hc:l[k]?=some (l[k]'hlt):=gE hlt;generalize l[k]'hlt=x at hc;obtain⟨f,rfl⟩:∃ g,f=g+1:=⟨f-1,by omega⟩;rw[Ah,hc] at ht;simp only at ht;refine cT (dT (by omega)) ⟨by omega,?_⟩;rw[Int.toNat_natCast,lR,hc];show cond ((x.toNat:Int)==32) _ _
  by_cases h32:x=32
  ·rw[if_pos h32] at ht;exact cT (by rw[h32]; rfl) ⟨l.length-(k+1),by omega,k+1,acc,aB ⟨by omega,by omega⟩,by omega,rfl,rfl,by omega,⟨f,by omega,ht⟩,s1⟩
  rw[if_neg h32] at ht;have hne:(x.toNat:Int)≠32:=λ h=>h32 (UInt8.toNat_inj.1 (by have:(32:UInt8).toNat=32:=rfl; omega));refine cF (by simpa using hne) (aj (PG w1 (by omega) hc) ?_);rintro v w2 ⟨rfl,c2⟩;have s2:St w w2 (Sep [_]):=s1.quiet c2;refine⟨_,_,_,_,_,rfl,s2.ax uo.cells.toArray λ r1 w3 s3=>s3.ay 0 rfl (eu l k x).1.cells rfl (Tk.one _) λ w4 s4=>?_⟩
  by_cases he:(eu l k x).2=0
  ·rw[if_neg (by simpa using he)] at ht;have hol:=Kj hc he;refine cF (by rw[he]; rfl) ⟨_,_,_,_,s4.cellsIn 0 rfl,cK RB Tk.len (x:=(eu l k x).1) (Tk.one _) (s4.out 1 rfl) (by omega) (by omega) (λ a' c' w5 s5=>?_) rfl⟩;have s6:St w w5 (Sep [_,_]):=s5;refine⟨_,s6.ag 1 rfl 1,l.length-(k+(eu l k x).1.t.length),by omega,k+(eu l k x).1.t.length,acc++[(eu l k x).1],?_,hol.2,rfl,rfl,?_,⟨f,by omega,ht⟩,s6.au [0]⟩
   ·rw[gC,aB ⟨by omega,by omega⟩]; omega
   ·rw[List.length_append,List.length_singleton]; omega
  ·rw[if_pos he] at ht;refine cT (by simpa using he) ⟨none,0,?_⟩;rw[<- ht];exact⟨rfl,(St.start' s4.av).cv.first⟩
 ·have hc:l[k]?=none:=List.getElem?_eq_none (by omega);have e:Ah l f k acc=(acc,0):=by
   cases f with
   | zero=>rfl
   | succ f=>rw[Ah,hc]
  rw[e] at ht;refine cF (dF (by omega)) ⟨a,c,?_⟩;rw[<- ht];exact⟨rfl,s1.first⟩
def RT(b:Nat)(a:OA)(c:Nat)(l:List Tk)(e:Int):List aD:=[ai b #[.slice a l.length c,iv e] 291,held λ w=>cW 4 Tk.cells w a l]
def jV(w0 w:World)(b:Nat)(l:List Tk)(e:Int)(B:aD):Prop:=∃ a c,l.length<=c/\l.length<=4000/\St w0 w (Sep (RT b a c l e++[B]))
abbrev pt (b:Nat):Value:=.pointer (some ⟨b,0,none⟩)
section
variable {w0 w:World} {b:Nat} {l:List Tk} {e:Int} {B:aD}
theorem jV.quiet{w' : World}(h:jV w0 w b l e B)(hc:aA w w' []):jV w0 w' b l e B:=let ⟨a,c,h1,h2,s⟩:=h; ⟨a,c,h1,h2,s.quiet hc⟩
theorem jV.av(h:jV w0 w b l e B):aA w0 w []:=let ⟨_,_,_,_,s⟩:=h; s.av
theorem jV.add(h:jV w0 w b l e B){w' : World}{A:aD}(k:St w w' A):jV w0 w' b l e (star A B):=by
 obtain⟨a,c,h1,h2,s⟩:=h;have s1:St w0 w' (Sep [A,_,_,B]):=s.and k;exact⟨a,c,h1,h2,(s1.au [1,2,0,3]).eqv (aT.right (aT.right aT.assoc'))⟩
theorem jV.drop{A:aD}(h:jV w0 w b l e (star A B)):jV w0 w b l e B:=by
 obtain⟨a,c,h1,h2,s⟩:=h;exact⟨a,c,h1,h2,s.weak (bG.right (bG.right (bG.left ((bG.left (bG.none A)).trans (aT.swap.trans (aT.unit' B)).weak))))⟩
theorem jV.out{m:List aD}(h:jV w0 w b l e (star (Sep m) B)):∃ B',St w0 w (Sep (m++[B']))/\∀ {w' : World} {m' : List aD},St w0 w' (Sep (m'++[B']))->jV w0 w' b l e (star (Sep m') B):=by
 obtain⟨a,c,h1,h2,s⟩:=h;refine⟨star (Sep (RT b a c l e)) B,St.open (((s.split (RT b a c l e)).eqv (aT.right (aT.unit' _))).zU),λ k=>⟨a,c,h1,h2,?_⟩⟩;exact St.cat ((k.shut.zU).eqv (aT.right (aT.unit _)))
theorem jV.frame(h:jV w0 w b l e B):St w0 w B:=by
 obtain⟨a,c,h1,h2,s⟩:=h;exact(s.split [_,_]).second.single
def aN(l:List Tk)(e:Int):Tk:=if e=0 then l.headD uo else uo
def fo(l:List Tk)(e:Int):List Tk:=if e=0 then l.tail else l
def mM(e k:Int):Int:=if e=0 then k else e
def sy(l:List Tk)(e:Int):Int:=mM e (if l.length=0 then 1 else 2)
def nh(m:List UInt8)(l:List Tk)(e:Int):Bool:=decide ((aN l e).k=3)&&(aN l e).t==m
def sE(m:List UInt8)(l:List Tk)(e:Int):List Tk:=if nh m l e then fo l e else l
theorem NQ{w:World}{a:OA}{c:Nat}{l:List Tk}(h:cW 4 Tk.cells w a l)(hc:l.length<=c):cW 4 Tk.cells w (if c=1 then a else Option.map (λ x=>Addr.add x (1*4)) a) l.tail:=λ i x hx=>by
 rw[List.getElem?_tail] at hx;have hi:=(List.getElem?_eq_some_iff.1 hx).1;obtain⟨q,hq,hcl⟩:=h.at hx;refine⟨q.add (1*4),_,by rw[if_neg (by omega),hq]; rfl,?_,rfl,rfl⟩;rw[Addr.add_add,<- Nat.add_mul,Nat.add_comm 1 i]; exact hcl
def JU(m:List UInt8)(l:List Tk)(e:Int):Int:=if nh m l e then e else sy l e
theorem pZ(h:jV w0 w b l e B):CP 217 #[pt b] w (λ r w'=>r=(aN l e).val/\aA w w' []):=by
 obtain⟨a,c,h1,h2,s⟩:=h;refine nC ?_;unfold iN;have rd:cW 4 Tk.cells w a l:=s.bK 1 rfl;have g0:=s.ag 0 rfl 0; have g1:=s.ag 0 rfl 1;refine(St.start w).one.ax uo.cells.toArray λ r1 w1 s1=>?_;have k0:=ct g0 s1.av; have k1:=ct g1 s1.av;refine⟨λ x w2=>x = !(decide (e=0)&&decide (l.length≠0))/\w2=w1,?_,_,k1,?_⟩
 ·rintro w2 x ⟨rfl,rfl⟩ -
  by_cases he:e=0
  ·cases l with
   | nil=>exact cT (by simp) (s1.ay 0 rfl uo.cells rfl (Tk.one _) λ w3 s3=>⟨_,_,_,_,s3.cellsIn 0 rfl,by rw[aN,if_pos he]; rfl,s3.av⟩)
   | cons x l =>
    obtain⟨q,hq,hcl⟩:=(rd.av s1.av).at (i:=0) (x:=x) rfl;refine cF (by simp[he]) ⟨_,_,_,k0,ak hq ⟨by omega,by simp,_,_,_,_,hcl,s1.ay 0 rfl x.cells rfl (Tk.one _) λ w3 s3=>⟨_,_,_,_,s3.cellsIn 0 rfl,by rw[aN,if_pos he]; rfl,s3.av⟩⟩⟩
  ·exact cT (by simp[he]) (s1.ay 0 rfl uo.cells rfl (Tk.one _) λ w3 s3=>⟨_,_,_,_,s3.cellsIn 0 rfl,by rw[aN,if_neg he]; rfl,s3.av⟩)
 ·by_cases he:e=0
  ·refine cF (by simp[he]) ⟨_,_,_,k0,?_,rfl⟩;rw[dT he]
   cases l with
   | nil=>rfl
   | cons x l=>simp; omega
  ·exact cT (by simpa using he) ⟨by simp[he],rfl⟩
theorem gX(h:jV w0 w b l e B)(k:Int):CP 219 #[pt b,iv k] w (λ r w'=>r=.tuple #[]/\jV w0 w' b l (mM e k) B):=by
 obtain⟨a,c,h1,h2,s⟩:=h;refine nw ?_;unfold iK;refine⟨λ x w1=>x=(e==0)/\w1=w,?_,_,s.ag 0 rfl 1,rfl,rfl⟩;rintro w1 x ⟨rfl,rfl⟩ -
 by_cases he:e=0
 ·exact cT (by simpa using he) (s.aJ 0 rfl (j:=1) (show 1<2 by decide) rfl λ w2 s2=>⟨rfl,a,c,h1,h2,by rw[mM,if_pos he]; exact s2⟩)
 ·exact cF (by simpa using he) ⟨rfl,a,c,h1,h2,by rw[mM,if_neg he]; exact s⟩
theorem zG(h:jV w0 w b l e B):CP 241 #[pt b] w (λ r w'=>r=.tuple #[]/\jV w0 w' b l (sy l e) B):=by
 refine mc ?_;unfold gK;refine⟨λ w1=>jV w0 w1 b l (if l.length=0 then mM e 1 else e) B,?_,?_⟩
 ·rintro w1 h1 -;refine aj (gX h1 2) ?_;rintro v w2 ⟨rfl,h2⟩;refine⟨rfl,rfl,?_⟩;have:sy l e=mM (if l.length=0 then mM e 1 else e) 2:=by
   unfold sy mM
   split<;>split<;>simp_all
  rw[this]; exact h2
 ·have h':=h;obtain⟨a,c,h1,h2,s⟩:=h';refine⟨_,_,_,s.ag 0 rfl 0,?_⟩
  by_cases hl:l.length=0
  ·refine cT (by simpa using hl) (aj (gX h 1) ?_);rintro v w3 ⟨rfl,h3⟩;exact⟨rfl,by rw[if_pos hl]; exact h3⟩
  ·exact cF (by simpa using hl) (by rw[if_neg hl]; exact h)
theorem xH(h:jV w0 w b l e B):CP 221 #[pt b] w (λ r w'=>r=(aN l e).val/\jV w0 w' b (fo l e) e B):=by
 have h':=h;obtain⟨a,c,h1,h2,s⟩:=h';refine nA ?_;unfold iM;refine s.ax uo.cells.toArray λ r1 w1 s1=>?_;refine aj (pZ (⟨a,c,h1,h2,s1.au [1,2,3]⟩:jV w0 w1 b l e B)) ?_;rintro v w2 ⟨rfl,c2⟩;refine⟨_,_,_,_,rfl,(s1.quiet c2).ax uo.cells.toArray λ r2 w3 s3=>s3.ay 0 rfl (aN l e).cells rfl (Tk.one _) λ w4 s4=>?_⟩;refine⟨λ w5=>∃ a' c',(fo l e).length<=c'/\St w0 w5 (Sep (ai r2 (aN l e).cells.toArray 287 :: ai r1 uo.cells.toArray 287 :: (RT b a' c' (fo l e) e++[B]))),?_,?_⟩
 ·rintro w5 ⟨a',c',hc',s5⟩ -;have hle:(fo l e).length<=4000:=by
   unfold fo; split
   ·rw[List.length_tail]; omega
   ·exact h2
  exact⟨_,_,_,_,s5.cellsIn 0 rfl,s5.ay 1 rfl (aN l e).cells rfl (Tk.one _) λ w6 s6=>⟨_,_,_,_,s6.cellsIn 1 rfl,rfl,a',c',hc',hle,s6.au [2,3,4]⟩⟩
 refine⟨λ x w7=>x=(decide (e=0)&&decide (l.length≠0))/\w7=w4,?_,_,s4.ag 2 rfl 1,?_⟩
 ·rintro w7 x ⟨rfl,rfl⟩ -
  by_cases g:e=0/\l.length≠0
  ·have en:fo l e=l.tail:=by rw[fo,if_pos g.1]
   refine cT (by simp[g.1]; intro h; exact g.2 (by rw[h]; rfl)) ⟨_,_,_,s4.ag 2 rfl 0,by omega,by omega,?_⟩;refine s4.aJ 2 rfl (j:=0) (show 0<2 by decide) rfl λ w8 s8=>⟨if c=1 then a else Option.map (λ x=>Addr.add x (1*4)) a,c-1,by rw[en,List.length_tail]; omega,?_⟩;have s9:=(s8.au [3,0,1,2,4]).DB ((aZ _).mono λ w hr=>NQ hr h1);rw[en];have el:l.tail.length=l.length-1:=List.length_tail;show St w0 w8 (Sep [_,_,ai b #[.slice (if c=1 then a else Option.map (λ x=>Addr.add x (1*4)) a) l.tail.length (c-1),iv e] _,_,_]);rw[el];exact s9.au [1,2,3,0,4]
  ·have en:fo l e=l:=by
    unfold fo
    split
    ·rename_i he
     cases l with
     | nil=>rfl
     | cons x l=>exact absurd ⟨he,by simp⟩ g
    ·rfl
   refine cF (by simp only[Bool.and_eq_false_iff,decide_eq_false_iff_not]; by_cases he:e=0; exact .inr λ h=>g ⟨he,h⟩; exact .inl he) ⟨a,c,by rw[en]; exact h1,by rw[en]; exact s4⟩
 ·by_cases he:e=0
  ·refine cT (by simpa using he) ⟨_,_,_,s4.ag 2 rfl 0,?_,rfl⟩;rw[dT he,Bool.true_and]
   by_cases hl:l.length=0
   ·rw[dF (by omega),dF (by omega)]
   ·rw[dT (by omega),dT hl]
  ·exact cF (by simpa using he) ⟨by rw[dF he]; rfl,rfl⟩
theorem pY(h:jV w0 w b l e B)(m:List UInt8):CP 224 #[pt b,sv m] w (λ r w'=>r=.bool (nh m l e)/\jV w0 w' b (sE m l e) e B):=by
 refine kP ?_;unfold gh;refine aj (pZ h) ?_;rintro v w1 ⟨rfl,c1⟩;refine⟨_,_,_,_,rfl,(St.start w1).one.ax uo.cells.toArray λ r1 w2 s2=>s2.ay 0 rfl (aN l e).cells rfl (Tk.one _) λ w3 s3=>?_⟩;have h3:=(h.quiet c1).quiet s3.av;refine⟨λ x w4=>x=(!nh m l e)/\w4=w3,?_,_,s3.ag 0 rfl 0,?_⟩
 ·rintro w4 x ⟨rfl,rfl⟩ -
  cases ha:nh m l e with
  | false=>exact cT rfl ⟨rfl,by rw[sE,ha]; exact h3⟩
  | true =>
   refine cF rfl (aj (xH h3) ?_);rintro v w5 ⟨rfl,h5⟩;exact⟨_,_,_,_,rfl,rfl,by rw[sE,ha]; exact h5⟩
 ·by_cases hk:(aN l e).k=3
  ·refine cF (by simpa using hk) ⟨_,s3.ag 0 rfl 1,?_,rfl⟩;rw[nh,dT hk,Bool.true_and,iw,iw]
  ·exact cT (by simpa using hk) ⟨by rw[nh,dF hk]; rfl,rfl⟩
theorem dR(h:jV w0 w b l e B)(m:List UInt8):CP 222 #[pt b,sv m] w (λ r w'=>r=.tuple #[]/\jV w0 w' b (sE m l e) (JU m l e) B):=by
 refine kR ?_;unfold gj;refine aj (pY h m) ?_;rintro v w1 ⟨rfl,h1⟩;refine⟨_,rfl,?_⟩
 cases ha:nh m l e with
 | true=>exact cF rfl ⟨rfl,by rw[JU,ha]; exact h1⟩
 | false =>
  have el:sE m l e=l:=by rw[sE,ha]; rfl
  rw[el] at h1;refine cT rfl (aj (zG h1) ?_);rintro v w2 ⟨rfl,h2⟩;exact⟨rfl,rfl,by rw[el,JU,ha]; exact h2⟩
def tQ(l:List Tk)(e:Int):List UInt8:=if (aN l e).k=1 then (aN l e).t else []
def Ba(l:List Tk)(e:Int):List Tk:=if (aN l e).k=1 then fo l e else l
def Hg(l:List Tk)(e:Int):Int:=if (aN l e).k=1 then e else sy l e
theorem ND(h:jV w0 w b l e B):CP 262 #[pt b] w (λ r w'=>r=sv (tQ l e)/\jV w0 w' b (Ba l e) (Hg l e) B):=by
 refine ny ?_;unfold iL;refine aj (pZ h) ?_;rintro v w1 ⟨rfl,c1⟩;refine⟨_,_,_,_,rfl,(St.start w1).one.ax uo.cells.toArray λ r1 w2 s2=>s2.ay 0 rfl (aN l e).cells rfl (Tk.one _) λ w3 s3=>⟨_,s3.ag 0 rfl 0,?_⟩⟩;have h3:=(h.quiet c1).quiet s3.av
 by_cases hk:(aN l e).k=1
 ·have g1:=s3.ag 0 rfl 1;refine cF (by simpa using hk) (aj (xH ((h.quiet c1).add s3)) ?_);rintro v w5 ⟨rfl,h5⟩;have s5:St w0 w5 (Sep [ai r1 (aN l e).cells.toArray 287,emp]):=h5.frame.first;exact⟨_,_,_,_,rfl,_,s5.ag 0 rfl 1,by rw[tQ,if_pos hk],by rw[Ba,if_pos hk,Hg,if_pos hk]; exact h5.drop⟩
 ·refine cT (by simpa using hk) (aj (zG h3) ?_);rintro v w2 ⟨rfl,h2⟩;exact⟨rfl,by rw[tQ,if_neg hk],by rw[Ba,if_neg hk,Hg,if_neg hk]; exact h2⟩
def EO(m:Int)(t:Tk):Bool:=decide (t.v<0)||decide (t.v>m)
def uv(m:Int)(l:List Tk)(e:Int):Int:=if (aN l e).k=2/\EO m (aN l e)=false then (aN l e).v else 0
def EP(m:Int)(l:List Tk)(e:Int):List Tk:=if (aN l e).k=2/\EO m (aN l e)=false then fo l e else l
def Jg(m:Int)(l:List Tk)(e:Int):Int:=if (aN l e).k=2 then (if EO m (aN l e) then mM e 4 else e) else sy l e
theorem vo(h:jV w0 w b l e B)(m:Int):CP 225 #[pt b,iv m] w (λ r w'=>r=iv (uv m l e)/\jV w0 w' b (EP m l e) (Jg m l e) B):=by
 refine kQ ?_;unfold gi;refine aj (pZ h) ?_;rintro v w1 ⟨rfl,c1⟩;refine⟨_,_,_,_,rfl,(St.start w1).one.ax uo.cells.toArray λ r1 w2 s2=>s2.ay 0 rfl (aN l e).cells rfl (Tk.one _) λ w3 s3=>⟨_,s3.ag 0 rfl 0,?_⟩⟩;have h3:=(h.quiet c1).add s3
 by_cases hk:(aN l e).k=2
 ·refine cF (by simpa using hk) ⟨λ x w5=>x=EO m (aN l e)/\w5=w3,?_,_,s3.ag 0 rfl 2,?_⟩
  ·rintro w5 x ⟨rfl,rfl⟩ -
   cases ha:EO m (aN l e) with
   | true =>
    refine cT rfl (aj (gX h3 4) ?_);rintro v w6 ⟨rfl,h6⟩;exact⟨rfl,by rw[uv,if_neg (by rw[ha]; simp)],by rw[EP,if_neg (by rw[ha]; simp),Jg,if_pos hk,if_pos ha]; exact h6.drop⟩
   | false =>
    refine cF rfl (aj (xH h3) ?_);rintro v w7 ⟨rfl,h7⟩;have s7:St w0 w7 (Sep [ai r1 (aN l e).cells.toArray 287,emp]):=h7.frame.first;exact⟨_,_,_,_,rfl,_,s7.ag 0 rfl 2,by rw[uv,if_pos ⟨hk,ha⟩],by rw[EP,if_pos ⟨hk,ha⟩,Jg,if_pos hk,if_neg (by rw[ha]; decide)]; exact h7.drop⟩
  ·by_cases h0:(aN l e).v<0
   ·exact cT (dT h0) ⟨by rw[EO,dT h0]; rfl,rfl⟩
   ·exact cF (dF h0) ⟨_,s3.ag 0 rfl 2,by rw[EO,dF h0]; rfl,rfl⟩
 ·refine cT (by simpa using hk) (aj (zG h3) ?_);rintro v w4 ⟨rfl,h4⟩;exact⟨rfl,by rw[uv,if_neg (λ h=>hk h.1)],by rw[EP,if_neg (λ h=>hk h.1),Jg,if_neg hk]; exact h4.drop⟩
theorem zo(h:jV w0 w b l e B):CP 226 #[pt b] w (λ r w'=>r=iv e/\w' = w):=by
 obtain⟨a,c,h1,h2,s⟩:=h;refine oG ?_;unfold jG;exact⟨_,s.ag 0 rfl 1,rfl,rfl⟩
def Dt(l:List Tk)(e:Int):Int:=if e=0/\0<l.length then 3 else e
theorem Qj(h:jV w0 w b l e B):CP 187 #[pt b] w (λ r w'=>r=iv (Dt l e)/\w' = w):=by
 have h':=h;obtain⟨a,c,h1,h2,s⟩:=h;refine oF ?_;unfold jF;refine⟨λ x w1=>x=decide (e=0/\0<l.length)/\w1=w,?_,_,s.ag 0 rfl 1,?_⟩
 ·rintro w1 x ⟨rfl,rfl⟩ -
  by_cases g:e=0/\0<l.length
  ·exact cT (dT g) ⟨by rw[Dt,if_pos g],rfl⟩
  ·refine cF (dF g) (aj (zo h') ?_);rintro v w2 ⟨rfl,rfl⟩;exact⟨_,rfl,by rw[Dt,if_neg g],rfl⟩
 ·by_cases he:e=0
  ·refine cT (by simpa using he) ⟨_,_,_,s.ag 0 rfl 0,?_,rfl⟩
   by_cases hl:0<l.length
   ·rw[dT (p:=e=0/\0<l.length) ⟨he,hl⟩]; exact dT (by omega)
   ·rw[dF (p:=e=0/\0<l.length) (λ h=>hl h.2)]; exact dF (by omega)
  ·exact cF (by simpa using he) ⟨by rw[dF (p:=e=0/\0<l.length) (λ h=>he h.1)],rfl⟩
theorem Ii(s:St w0 w B){a:OA}{c:Nat}(hr:cW 4 Tk.cells w a l)(hl:l.length<=4000):CP 185 #[.slice a l.length c] w (λ r w'=>∃ b,r=pt b/\jV w0 w' b l 0 B):=by
 refine qw ?_;unfold kO;refine dD (c2:=c) RB Tk.len Tk.one (l:=[]) s.cv hr (by simp; omega) (by simp; omega) λ a' c' w1 s1=>?_;have s2:St w0 w1 (star (bM 287 4 Tk.cells a' c' l) B):=s1;have hcap:=s2.mU.1;exact(s2.v8).ax _ λ r1 w2 s3=>⟨r1,rfl,a',c',hcap,hl,(((s3.au [1,0,2]).DB (bD Tk.len)).au [1,0,2])⟩
end
def j8(n:Int):Bool:=decide (0<=n)&&decide (n<=4)
def pr(l:List Int):Int:=l.foldl (λ n s=>n*(s+1)) 1
theorem Ce(l:List Int)(s:Int):pr (l++[s])=pr l*(s+1):=by simp[pr]
theorem uu{l:List Int}{p:Int->Bool}{k:Nat}{c:Int}(h:(l.take k).all p=true)(hc:l[k]?=some c)(hp:p c=true):(l.take (k+1)).all p=true:=by
 rw[aG hc,List.all_append,h]; simp[hp]
theorem xN{l:List Int}{p:Int->Bool}{k:Nat}{c:Int}(hc:l[k]?=some c)(hp:p c=false):l.all p=false:=by
 rw[List.all_eq_false]; exact⟨c,List.mem_of_getElem? hc,by simp[hp]⟩
theorem bR(w:World)(u:I6):CP 47 #[.agg u.vs.toArray] w (λ r w'=>r=iv (if u.l.all j8 then 0 else 4)/\aA w w' []):=by
 refine Fp ?_;unfold GV;refine aI ?_;have s1:=(St.start w).one.bO u.vs.toArray 34;generalize hw1:w.alloc _=w1 at s1 ⊢;generalize hr1:w.heap.size=r1 at s1 ⊢;refine⟨_,s1.cellsIn 0 rfl,λ n w2 m=>∃ k:Nat,n=k/\k<=6/\m=6-k/\(u.l.take k).all j8=true/\w2=w1,⟨6,0,rfl,by omega,by omega,rfl,rfl⟩,?_⟩;rintro w2 m n ⟨k,rfl,hk,hm,ha,rfl⟩ -
 by_cases hlt:(k:Int)<6
 ·have hk' : k<6:=by omega
  have g1:=u.get k hk';have g2:=u.yT k hk';generalize u.at' k=x at g1 g2;refine cT (by simpa using hlt) ⟨by omega,by omega,x,g1,λ b w3=>w3=w2/\b = !j8 x,?_,?_⟩
  ·rintro w3 b ⟨rfl,rfl⟩ -
   cases hx:j8 x with
   | true=>exact cF rfl ⟨6-(k+1),by omega,k+1,inc (by decide) hk',by omega,rfl,uu ha g2 hx,rfl⟩
   | false=>exact cT rfl ⟨by rw[xN g2 hx]; rfl,s1.av⟩
  ·by_cases h0:x<0
   ·exact cT (by simpa using h0) ⟨rfl,by simp[j8]; omega⟩
   ·refine cF (by simpa using h0) ⟨rfl,?_⟩;have:decide (0<=x)=true:=dT (by omega);unfold j8;rw[this,Bool.true_and]
    by_cases h4:x<=4
    ·rw[dT h4,dF (by omega)]; rfl
    ·rw[dF h4,dT (by omega)]; rfl
 ·obtain rfl:k=6:=by omega
  refine cF (by simp) ⟨?_,s1.av⟩;rw[show u.l.all j8=true from ha]; rfl
theorem oQ{l:List Int}(h:l.all j8=true):1<=pr l/\pr l<=5 ^ l.length:=by
 suffices H:∀ (l:List Int) (a:Int),l.all j8=true->1<=a->1<=l.foldl (λ n s=>n*(s+1)) a/\l.foldl (λ n s=>n*(s+1)) a<=a*5 ^ l.length by
  have:=H l 1 h (by omega);unfold pr; omega
 intro l
 induction l with
 | nil=>intro a _ h1; simp; exact h1
 | cons x l ih =>
  intro a ha h1;simp only[List.all_cons,Bool.and_eq_true] at ha;have hx:=ha.1;simp only[j8,Bool.and_eq_true,decide_eq_true_eq] at hx;have h2:1<=a*(x+1):=by
   have:a*1<=a*(x+1):=Int.mul_le_mul_of_nonneg_left (by omega) (by omega);omega
  obtain⟨h3,h4⟩:=ih (a*(x+1)) ha.2 h2;refine⟨h3,?_⟩;simp only[List.foldl_cons,List.length_cons,Int.pow_succ];have h5:a*(x+1)<=a*5:=Int.mul_le_mul_of_nonneg_left (by omega) (by omega);have h6:(a*(x+1))*5 ^ l.length<=(a*5)*5 ^ l.length:=Int.mul_le_mul_of_nonneg_right h5 (Int.pow_nonneg (by omega));have h7:a*5*5 ^ l.length=a*(5 ^ l.length*5):=by rw[Int.mul_assoc,Int.mul_comm 5 (5 ^ l.length)]
  rw[<- h7];omega
theorem xw(w:World)(u:I6):CP 105 #[.agg u.vs.toArray] w (λ r w'=>r=iv (if u.l.all j8=true/\pr u.l<=1024 then pr u.l else 0)/\aA w w' []):=by
 refine Fu ?_;unfold GZ;refine aI ?_;have s1:=(St.start w).one.bO u.vs.toArray 34;generalize hw1:w.alloc _=w1 at s1 ⊢;generalize hr1:w.heap.size=r1 at s1 ⊢;refine⟨_,s1.cellsIn 0 rfl,aj (bR w1 u) ?_⟩;rintro v w2 ⟨rfl,c2⟩;refine⟨_,rfl,?_⟩;have s2:=s1.quiet c2
 by_cases hall:u.l.all j8=true
 ·rw[if_pos hall];refine cF rfl ⟨_,s2.cellsIn 0 rfl,λ p n w3 m=>∃ k:Nat,n=k/\k<=6/\m=6-k/\p=pr (u.l.take k)/\w3=w2,⟨6,0,rfl,by omega,by omega,rfl,rfl⟩,?_⟩;rintro w3 m p n ⟨k,rfl,hk,hm,rfl,rfl⟩ -;have hb:1<=pr (u.l.take k)/\pr (u.l.take k)<=15625:=by
   have h1:(u.l.take k).all j8=true:=by
    rw[List.all_eq_true] at hall ⊢;exact λ x hx=>hall x (List.mem_of_mem_take hx)
   obtain⟨h2,h3⟩:=oQ h1;refine⟨h2,Int.le_trans h3 ?_⟩;have h4:(u.l.take k).length=k:=by simp[I6.len]; omega
   rw[h4]
   match k,hk with
   | 0,_|1,_|2,_|3,_|4,_|5,_|6,_=>decide
  by_cases hlt:(k:Int)<6
  ·have hk' : k<6:=by omega
   have g1:=u.get k hk';have g2:=u.yT k hk';generalize u.at' k=x at g1 g2;have hx:0<=x/\x<=4:=by
    have:=List.all_eq_true.1 hall x (List.mem_of_getElem? g2);simpa[j8] using this
   have hm1:pr (u.l.take k)*(x+1)<=15625*5:=Int.le_trans (Int.mul_le_mul_of_nonneg_left (show x+1<=5 by omega) (by omega)) (Int.mul_le_mul_of_nonneg_right hb.2 (by omega));have hm0:0<=pr (u.l.take k)*(x+1):=Int.mul_nonneg (by omega) (by omega);refine cT (by simpa using hlt) ⟨by omega,by omega,x,g1,6-(k+1),by omega,k+1,inc (by decide) hk',by omega,rfl,?_,rfl⟩;rw[aB (n:=x+1) ⟨by omega,by omega⟩,aB ⟨by omega,by omega⟩,aG g2,Ce]
  ·obtain rfl:k=6:=by omega
   refine cF (by simp) ?_;have e:u.l.take 6=u.l:=rfl;rw[e] at hb ⊢
   by_cases hp:pr u.l<=1024
   ·refine cF (dF (by omega)) ⟨?_,s2.av⟩;rw[if_pos ⟨hall,hp⟩]
   ·refine cT (dT (by omega)) ⟨?_,s2.av⟩;rw[if_neg λ h=>hp h.2]
 ·rw[if_neg hall];refine cT rfl ⟨?_,s2.av⟩;rw[if_neg λ h=>hall h.1]
structure Pr where
 nm:List UInt8
 sup:Int
 res:Int
 pts:Int
 grp:Int
def Pr.cells(p:Pr):List Value:=[sv p.nm,iv p.sup,iv p.res,iv p.pts,iv p.grp]
def Pr.In(p:Pr):Prop:=Go.Vc.In p.sup/\Go.Vc.In p.res/\Go.Vc.In p.pts/\Go.Vc.In p.grp
def dx(w:World)(a:OA)(l:List Pr):Prop:=∀ (i:Nat) (p:Pr),l[i]?=some p->p.In/\∃ q,a=some q/\af w (q.add (i*5)) 0 p.cells
theorem dx.av{w w' : World}{a:OA}{l:List Pr}(h:dx w a l)(hc:aA w w' []):dx w' a l:=λ i p hp =>
 let ⟨h1,q,hq,h2⟩:=h i p hp
 ⟨h1,q,hq,bC hc h2⟩
theorem dx.take{w:World}{a:OA}{l:List Pr}(h:dx w a l)(n:Nat):dx w a (l.take n):=λ i p hp=>by
 rw[List.getElem?_take] at hp
 split at hp
 ·exact h i p hp
 ·cases hp
theorem Pr.one(p:Pr):∀ v∈p.cells,v.oneCell' = true:=by
 intro v hv; simp[Pr.cells] at hv; rcases hv with rfl|rfl|rfl|rfl|rfl<;>rfl
theorem Lc{a:OA}{c:Nat}:(if c=0 then a else Option.map (λ x=>Addr.add x (0*5)) a)=a:=by
 split
 ·rfl
 ·cases a<;>simp[Addr.add]
theorem fL{α:Type}{l:List α}{p:α->Bool}{k:Nat}{x:α}(h:(l.take k).any p=false)(hx:l[k]?=some x)(hp:p x=false):(l.take (k+1)).any p=false:=by
 rw[aG hx,List.any_append,h]; simp[hp]
theorem jq{α:Type}{l:List α}{p:α->Bool}{k:Nat}{x:α}(hx:l[k]?=some x)(hp:p x=true):l.any p=true:=List.any_eq_true.2 ⟨x,List.mem_of_getElem? hx,hp⟩
theorem Pu{w:World}{a:OA}{c:Nat}{l:List Pr}(h:dx w a l)(hl:l.length<=1000)(nm:List UInt8) :
  CP 130 #[.slice a l.length c,sv nm] w (λ r w'=>(∃ k:Int,r=.tuple #[iv k,.bool (l.any λ p=>p.nm==nm)])/\aA w w' []):=by
 refine AX ?_;unfold Fw;refine⟨λ n w1 m=>∃ k:Nat,n=k/\k<=l.length/\m=l.length-k/\(l.take k).any (λ p=>p.nm==nm)=false/\aA w w1 [],⟨l.length,0,rfl,by omega,by omega,rfl,aA.refl _ _⟩,?_⟩;rintro w1 m n ⟨k,rfl,hk,hm,ha,hc⟩ -
 by_cases hlt:(k:Int)<(l.length:Int)
 ·have hx:l[k]?=some (l[k]'(by omega)):=gE (by omega);generalize l[k]'(by omega)=x at hx;obtain⟨_,q,rfl,hcl⟩:=(h.av hc) k x hx;refine cT (by simpa using hlt) ⟨by omega,by omega,_,_,_,_,_,hcl,aI ?_⟩;refine((St.start' hc).one.bO _ 120).ay 0 rfl x.cells rfl x.one λ w3 s3=>?_;refine⟨_,by rw[s3.ag 0 rfl]; rfl,?_⟩
  by_cases hn:x.nm=nm
  ·exact cT (by rw[hn]; simp) ⟨⟨k,by rw[jq hx (by simpa using hn)]⟩,s3.av⟩
  ·exact cF (by rw[iw,iw]; simpa using hn) ⟨l.length-(k+1),by omega,k+1,by rw[aB ⟨by omega,by omega⟩]; rfl,by omega,rfl,fL ha hx (by simpa using hn),s3.av⟩
 ·refine cF (by simpa using hlt) ⟨⟨0,?_⟩,hc⟩;rw[List.take_of_length_le (by omega)] at ha;rw[ha]
theorem pN(w:World)(n x y:Int):CP 131 #[iv n,iv x,iv y] w (λ r w'=>r=.bool (decide (x<=n)&&decide (n<=y))/\w' = w):=by
 refine Cc ?_;unfold AW
 by_cases h:n>=x
 ·exact cT (dT h) ⟨by rw[dT (show x<=n from h)]; rfl,rfl⟩
 ·exact cF (dF h) ⟨by rw[dF (show ¬ x<=n from h)]; rfl,rfl⟩
def CE(l:List Pr):List Int:=(l.map Pr.sup++List.replicate (6-l.length) 0).take 6
def aQ(l:List Pr):I6:=I6.Sw (l.map Pr.sup)
theorem CD(l:List Pr)(k:Nat)(hk:k<6):(aQ l).at' k=(l.map Pr.sup).getD k 0:=by
 match k,hk with
 | 0,_|1,_|2,_|3,_|4,_|5,_=>rfl
theorem FU(l:List Pr):(aQ l).l=CE l:=by
 apply List.ext_getElem?;intro k;unfold CE
 by_cases hk:k<6
 ·rw[I6.yT _ k hk,CD l k hk,List.getElem?_take,if_pos hk]
  by_cases hl:k<l.length
  ·rw[List.getElem?_append_left (by simpa using hl)];simp[hl]
  ·rw[List.getElem?_append_right (by simp; omega),List.getElem?_replicate,if_pos (by simp; omega)];simp[hl]
 ·rw[List.getElem?_eq_none (by rw[I6.len]; omega),List.getElem?_take,if_neg hk]
theorem jd{w:World}{a:OA}{c:Nat}{l:List Pr}(h:dx w a l)(hl:l.length<=1000) :
  CP 34 #[.slice a l.length c] w (λ r w'=>r=.agg (aQ l).vs.toArray/\aA w w' []):=by
 refine D7 ?_;unfold D6;refine aI (aI ?_);have s2:=((St.start w).one.bO z6.vs.toArray 34).bO z6.vs.toArray 34;generalize hw2:((w.alloc _).alloc _)=w2 at s2 ⊢;generalize hr1:w.heap.size=r1 at s2 ⊢;generalize hr2:(w.alloc _).heap.size=r2 at s2 ⊢;refine⟨λ n w3 m=>∃ k:Nat,n=k/\k<=l.length/\m=l.length-k/\St w w3 (Sep [ai r2 (I6.mix (min k 6) (aQ l) z6).vs.toArray 34,ai r1 z6.vs.toArray 34,emp]),⟨l.length,0,rfl,by omega,by omega,s2⟩,?_⟩;rintro w3 m n ⟨k,rfl,hk,hm,s3⟩ -
 by_cases hlt:(k:Int)<(l.length:Int)
 ·have hx:l[k]?=some (l[k]'(by omega)):=gE (by omega);generalize l[k]'(by omega)=x at hx;obtain⟨_,q,hq,hcl⟩:=(h.av s3.av) k x hx;refine cT (by simpa using hlt) ⟨λ w4=>St w w4 (Sep [ai r2 (I6.mix (min (k+1) 6) (aQ l) z6).vs.toArray 34,ai r1 z6.vs.toArray 34,emp]),?_,?_⟩
  ·rintro w4 s4 -;exact⟨l.length-(k+1),by omega,k+1,aB ⟨by omega,by omega⟩,by omega,rfl,s4⟩
  rw[hq];refine⟨by omega,by omega,_,_,_,_,_,hcl,aI ?_⟩;refine(s3.bO _ 120).ay 0 rfl x.cells rfl x.one λ w6 s6=>?_
  by_cases h6:k<6
  ·refine cT (dT (by omega)) ⟨_,by rw[s6.ag 0 rfl]; rfl,by omega,by omega,?_⟩;have ea:Addr.add ⟨r2,0,none⟩ (((k:Nat):Int).toNat*1)=⟨r2,k,none⟩:=by rw[bw]; simp
   rw[ea];refine s6.aJ 1 rfl (by rw[I6.size]; exact h6) rfl λ w7 s7=>?_;have e1:x.sup=(aQ l).at' k:=by rw[CD l k h6]; simp[List.getElem?_map,hx]
   rw[Nat.min_eq_left (by omega),e1,I6.fH _ _ _ h6] at s7;rw[Nat.min_eq_left (by omega)];exact s7.au [1,2,3]
  ·rw[Nat.min_eq_right (by omega)] at s6 ⊢;exact cF (dF (by omega)) (s6.au [1,2,3])
 ·obtain rfl:k=l.length:=by omega
  have hcn:I6.mix (min l.length 6) (aQ l) z6=aQ l:=by
   refine I6.ext' λ j hj=>?_;rw[I6.bV _ _ _ _ hj,CD l j hj]
   split
   ·rfl
   ·rw[List.getD_eq_getElem?_getD,List.getElem?_eq_none (by simp; omega)]
    match j,hj with
    | 0,_|1,_|2,_|3,_|4,_|5,_=>rfl
  rw[hcn] at s3;refine cF (by simp) ⟨_,s3.cellsIn 0 rfl,?_⟩;refine s3.ay 1 rfl (aQ l).vs rfl (I6.one _) λ w8 s8=>?_;exact⟨_,s8.cellsIn 1 rfl,rfl,s8.av⟩
def IC(p:Pr):Bool:=(decide (1<=p.sup)&&decide (p.sup<=4))&&((decide (0<=p.res)&&decide (p.res<=1000000))&&((decide (0<=p.pts)&&decide (p.pts<=1000))&&(decide (0<=p.grp)&&decide (p.grp<=4))))
def ze(p:Pr):Bool:=ei p.nm&&IC p
def uq(l:List Pr)(i:Nat)(p:Pr):Prop:=ze p=true/\((l.take i).any λ q=>q.nm==p.nm)=false
structure bP (l:List Pr):Prop where
 l1:1<=l.length
 l2:l.length<=6
 good:∀ i p,l[i]?=some p->uq l i p
 lim:pr (l.map Pr.sup)<=1024
theorem Ea(l:List Int):∀ n,pr (l++List.replicate n 0)=pr l
 | 0=>by simp
 | n+1=>by
  rw[List.replicate_succ',<- List.append_assoc,Ce,Ea l n];omega
theorem CF{l:List Pr}(h:l.length<=6):pr (CE l)=pr (l.map Pr.sup):=by
 unfold CE;rw[List.take_of_length_le (by simp; omega),Ea]
theorem Hr{l:List Pr}(h:∀ i p,l[i]?=some p->uq l i p):(CE l).all j8=true:=by
 rw[List.all_eq_true];intro x hx;have hx:=List.mem_of_mem_take hx;rcases List.mem_append.1 hx with hx|hx
 ·obtain⟨p,hp,rfl⟩:=List.mem_map.1 hx;obtain⟨i,hi,rfl⟩:=List.mem_iff_getElem.1 hp;have:=(h i _ (gE hi)).1;simp only[ze,IC,Bool.and_eq_true,decide_eq_true_eq] at this;simp only[j8,Bool.and_eq_true,decide_eq_true_eq];omega
 ·obtain⟨_,rfl⟩:=List.mem_replicate.1 hx
  decide
def OJ(Q:Prop)(w:World):KP:=λ r w'=>(∃ e:Int,r=iv e/\(e=0<->Q))/\aA w w' []
def Bs(Q:Prop)(k:Int)(w:World):KP:=λ r w'=>(r=iv k/\(k=0<->Q))/\aA w w' []
theorem aW{Q:Prop}{w w' : World}{e k:Int}(he:e≠0)(h : ¬ Q)(hc:aA w w' [])(hk:k=e):Bs Q k w (iv e) w':=by subst hk; exact⟨⟨rfl,λ h'=>absurd h' he,λ h'=>absurd h' h⟩,hc⟩
theorem pP{Q:Prop}{w w' : World}{k:Int}(h:Q)(hc:aA w w' [])(hk:k=0):Bs Q k w (iv 0) w':=by subst hk; exact⟨⟨rfl,λ _=>h,λ _=>rfl⟩,hc⟩
theorem Bs.old{Q:Prop}{w w' : World}{k:Int}{r:Value}(h:Bs Q k w r w'):OJ Q w r w':=⟨⟨k,h.1⟩,h.2⟩
def dY{α:Type}(f:Nat->α->Int):Nat->List α->Int
 | _,[]=>0
 | i,x :: l=>if f i x≠0 then f i x else dY f (i+1) l
theorem kM{α:Type}{f:Nat->α->Int}:∀ {l:List α} {n k:Nat} {x:α},(∀ i p,i<k->l[i]?=some p->f (n+i) p=0)->l[k]?=some x->f (n+k) x≠0->dY f n l=f (n+k) x
 | y :: l,n,0,x,_,hx,h=>by cases hx; rw[Nat.add_zero] at h ⊢; rw[dY,if_pos h]
 | y :: l,n,k+1,x,ha,hx,h=>by
  rw[dY,if_neg (by simpa using ha 0 y (by omega) rfl),kM (l:=l) (k:=k) (x:=x) (λ i p hi hp=>by have:=ha (i+1) p (by omega) (by simpa using hp); rwa [show n+(i+1)=n+1+i by omega] at this) (by simpa using hx) (by rwa [show n+1+k=n+(k+1) by omega])];rw[show n+1+k=n+(k+1) by omega]
theorem fV{α:Type}{f:Nat->α->Int}:∀ {l:List α} {n:Nat},(∀ i p,l[i]?=some p->f (n+i) p=0)->dY f n l=0
 | [],_,_=>rfl
 | y :: l,n,ha=>by
  rw[dY,if_neg (by simpa using ha 0 y rfl)];exact fV λ i p hp=>by have:=ha (i+1) p (by simpa using hp); rwa [show n+(i+1)=n+1+i by omega] at this
def I4(l:List Pr)(i:Nat)(p:Pr):Int:=if ei p.nm=false then 5 else if ((l.take i).any λ q=>q.nm==p.nm) then 7 else if IC p=false then 4 else 0
theorem D9{l:List Pr}{i:Nat}{p:Pr}(h:uq l i p):I4 l i p=0:=by
 obtain⟨h1,h2⟩:=h;unfold ze at h1;rw[Bool.and_eq_true] at h1;rw[I4,h1.1,h2,h1.2]; rfl
def Ir(l:List Pr):Int:=if l.length=0 then 1 else if 6<l.length then 3 else if dY (I4 l) 0 l≠0 then dY (I4 l) 0 l else if pr (CE l)<=1024 then 0 else 12
theorem Aw{w:World}{a:OA}{c:Nat}{l:List Pr}(h:dx w a l)(hcap:l.length<=c) :
  CP 96 #[.slice a l.length c] w ((Bs (bP l) (Ir l) w)):=by
 refine Fq ?_;unfold GW
 by_cases h0:l.length=0
 ·exact cT (by rw[h0]; rfl) (aW (by decide) (λ hp=>by have:=hp.l1; omega) (aA.refl _ _) (by rw[Ir,if_pos h0]))
 refine cF (by simpa using h0) ?_;rcases Nat.lt_or_ge 6 l.length with h6|h6
 ·exact cT (dT (by omega)) (aW (by decide) (λ hp=>by have:=hp.l2; omega) (aA.refl _ _) (by rw[Ir,if_neg h0,if_pos h6]))
 refine cF (dF (by omega)) ⟨λ n w1 m=>∃ k:Nat,n=k/\k<=l.length/\m=l.length-k/\(∀ i p,i<k->l[i]?=some p->uq l i p)/\aA w w1 [],⟨l.length,0,rfl,by omega,by omega,λ i p hi=>by omega,aA.refl _ _⟩,?_⟩;rintro w1 m n ⟨k,rfl,hk,hm,ha,hc⟩ -
 by_cases hlt:(k:Int)<(l.length:Int)
 ·have hx:l[k]?=some (l[k]'(by omega)):=gE (by omega);generalize l[k]'(by omega)=x at hx;obtain⟨_,q,hq,hcl⟩:=(h.av hc) k x hx;have bad : ¬ uq l k x->¬ bP l:=λ hb hp=>hb (hp.good k x hx);have bk:∀ {e:Int},e≠0->I4 l k x=e->Ir l=e:=λ he h=>by
   have:=kM (f:=I4 l) (n:=0) (λ i p hi hp=>by rw[Nat.zero_add]; exact D9 (ha i p hi hp)) hx (by rw[Nat.zero_add,h]; exact he);rw[Nat.zero_add,h] at this;rw[Ir,if_neg h0,if_neg (by omega),this,if_pos he]
  refine cT (by simpa using hlt) ?_;rw[hq];refine⟨by omega,by omega,_,_,_,_,_,hcl,aI ?_⟩;refine((St.start' hc).one.bO _ 120).ay 0 rfl x.cells rfl x.one λ w3 s3=>?_;generalize hr1:w1.heap.size=r1 at s3 ⊢;have cx:∀ {w' : World},aA w3 w' []->∀ (j:Nat) (v:Value),x.cells[j]?=some v->w'.cell? ⟨r1,j,none⟩=some v:=λ hc j v hv=>ct (by rw[s3.ag 0 rfl]; simpa using hv) hc;refine⟨_,cx (aA.refl _ _) 0 _ rfl,aj (yN w3 x.nm) ?_⟩;rintro v w4 ⟨rfl,rfl⟩;refine⟨_,rfl,?_⟩
  cases hn:ei x.nm with
  | false=>exact cT rfl (aW (by decide) (bad λ hg=>by have:=hg.1; simp[ze,hn] at this) s3.av (bk (by decide) (by rw[I4,hn]; rfl)))
  | true =>
   have d4:aA w4 w4.drew []:=aA.drew w4 [];refine cF rfl ⟨by omega,by omega,_,cx d4 0 _ rfl,?_⟩;rw[<- hq,Lc];have hf:=Pu (c:=c-0) ((h.av (s3.av.trans d4 (by simp))).take k) (by rw[List.length_take]; omega) x.nm;rw[List.length_take,Nat.min_eq_left hk] at hf;refine aj hf ?_;rintro v w5 ⟨⟨kk,rfl⟩,c5⟩;have d5:aA w4 w5 []:=d4.trans c5 (by simp);refine⟨_,_,rfl,?_⟩
   cases hany:((l.take k).any λ p=>p.nm==x.nm) with
   | true=>exact cT rfl (aW (by decide) (bad λ hg=>by have:=hg.2; rw[hany] at this; cases this) (s3.av.trans d5 (by simp)) (bk (by decide) (by rw[I4,hn,hany]; rfl)))
   | false =>
    refine cF rfl ⟨λ b w6=>aA w5 w6 []/\b = !IC x,?_,?_⟩
    ·rintro w6 b ⟨c6,rfl⟩ -;have c7:=s3.av.trans (d5.trans c6 (by simp)) (by simp)
     cases hr:IC x with
     | false=>exact cT rfl (aW (by decide) (bad λ hg=>by have:=hg.1; simp[ze,hr] at this) c7 (bk (by decide) (by rw[I4,hn,hany,hr]; rfl)))
     | true =>
      refine cF rfl ⟨l.length-(k+1),by omega,k+1,by rw[aB ⟨by omega,by omega⟩]; rfl,by omega,rfl,λ i p hi hp=>?_,c7⟩;rcases Nat.lt_or_ge i k with h' | h'
      ·exact ha i p h' hp
      ·obtain rfl:i=k:=by omega
       rw[hx] at hp; cases hp;exact⟨by simp[ze,hn,hr],hany⟩
    ·refine⟨_,cx d5 1 _ rfl,aj (pN w5 _ _ _) ?_⟩;rintro v w6 ⟨rfl,rfl⟩;refine⟨_,rfl,?_⟩
     cases g1:(decide (1<=x.sup)&&decide (x.sup<=4)) with
     | false=>exact cT rfl ⟨aA.refl _ _,by simp only[IC,g1]; rfl⟩
     | true =>
      refine cF rfl ⟨_,cx d5 2 _ rfl,aj (pN w6 _ _ _) ?_⟩;rintro v w7 ⟨rfl,rfl⟩;refine⟨_,rfl,?_⟩
      cases g2:(decide (0<=x.res)&&decide (x.res<=1000000)) with
      | false=>exact cT rfl ⟨aA.refl _ _,by simp only[IC,g1,g2]; rfl⟩
      | true =>
       refine cF rfl ⟨_,cx d5 3 _ rfl,aj (pN w7 _ _ _) ?_⟩;rintro v w8 ⟨rfl,rfl⟩;refine⟨_,rfl,?_⟩
       cases g3:(decide (0<=x.pts)&&decide (x.pts<=1000)) with
       | false=>exact cT rfl ⟨aA.refl _ _,by simp only[IC,g1,g2,g3]; rfl⟩
       | true =>
        refine cF rfl ⟨_,cx d5 4 _ rfl,aj (pN w8 _ _ _) ?_⟩;rintro v w9 ⟨rfl,rfl⟩;exact⟨_,rfl,aA.refl _ _,by simp only[IC,g1,g2,g3]; rfl⟩
 ·obtain rfl:k=l.length:=by omega
  have hg:∀ i p,l[i]?=some p->uq l i p:=λ i p hp=>ha i p (List.getElem?_eq_some_iff.1 hp).1 hp;refine cF (by simp) (aj (jd (h.av hc) (by omega)) ?_);rintro v w2 ⟨rfl,c2⟩;refine⟨_,rfl,aj (xw w2 _) ?_⟩;rintro v w3 ⟨rfl,c3⟩;have c4:aA w w3 []:=hc.trans (c2.trans c3 (by simp)) (by simp);refine⟨_,rfl,?_⟩;have hall:=Hr hg;have hpr:=CF h6;rw[FU];have hb:=(oQ hall).1;have e0:Ir l=if pr (CE l)<=1024 then 0 else 12:=by
   have:=fV (f:=I4 l) (n:=0) (l:=l) λ i p hp=>by rw[Nat.zero_add]; exact D9 (hg i p hp)
   rw[Ir,if_neg h0,if_neg (by omega),this,if_neg (by decide)]
  by_cases hlim:pr (CE l)<=1024
  ·rw[if_pos ⟨hall,hlim⟩];exact cF (by simp; omega) (pP ⟨by omega,h6,hg,by rw[<- hpr]; exact hlim⟩ c4 (by rw[e0,if_pos hlim]))
  ·rw[if_neg λ h=>hlim h.2];exact cT rfl (aW (by decide) (λ hp=>hlim (by rw[hpr]; exact hp.lim)) c4 (by rw[e0,if_neg hlim]))
theorem yf{w:World}{a:OA}{c:Nat}{l:List Pr}(h:dx w a l)(hcap:l.length<=c) :
  CP 96 #[.slice a l.length c] w ((OJ (bP l) w)):=aj (Aw h hcap) λ _ _ h=>⟨_,rfl,h.old⟩
def nW(a b:I6)(w:World)(K:KP):=an w (.cells a.vs.toArray 34) λ a c=>an c (.cells b.vs.toArray 34) λ b c=>∃ d:Int->qN,(∃ e,d 0 c e)/\∀ c e f,d f c e->∀ g:qv,cond (decide (f<6)) (0<=f/\f<6/\∃ g,c.drew.cell? (Addr.add (qd a 0) ((f).toNat*1))=some (iv g)/\0<=f/\f<6/\∃ h,c.drew.cell? (Addr.add (qd b 0) ((f).toNat*1))=some (iv h)/\cond (decide (g<h)) (K (iv (-1)) c.drew) (0<=f/\f<6/\∃ g,c.drew.drew.cell? (Addr.add (qd a 0) ((f).toNat*1))=some (iv g)/\0<=f/\f<6/\∃ a,c.drew.drew.cell? (Addr.add (qd b 0) ((f).toNat*1))=some (iv a)/\cond (decide (g>a)) (K (iv 1) c.drew.drew) (∃ a,a<e/\d (IntKind.i64.wrap (f+1)) c.drew.drew a))) (K qz c)
theorem sL{u1 u2 w K}(h:nW u1 u2 w K):CP 70 #[.agg u1.vs.toArray,.agg u2.vs.toArray] w K:=ah (az [(26,[(6,.s (.int .i64))])]) func70 (by kernel_rfl) (by kernel_rfl) h
def vG(a b:I6)(w:World)(K:KP):=an w (.cells a.vs.toArray 53) λ a c=>an c (.cells b.vs.toArray 34) λ b c=>∃ d:I6,af c (qd b 0) 0 d.vs/\∃ b:Int->Int->qN,(∃ e,b 0 (0:Int) c e)/\∀ c e f g,b f g c e->∀ h:qv,cond (decide (g<6)) (0<=g/\g<6/\∃ h,(d.vs.toArray:Array Value)[(g).toNat*1]?=some (iv h)/\0<=g/\g<6/\∃ d,c.cell? (Addr.add (qd a 0) ((g).toNat*1))=some (iv d)/\∃ a,a<e/\b (IntKind.i64.wrap (f+(IntKind.i64.wrap (d*h)))) (IntKind.i64.wrap (g+1)) c a) (K (iv f) c)
theorem xY{u1 u2 w K}(h:vG u1 u2 w K):CP 65 #[.agg u1.vs.toArray,.agg u2.vs.toArray] w K:=ah (az [(58,[(5,.s (.int .i64)),(9,.s (.int .i64))])]) func65 (by kernel_rfl) (by kernel_rfl) h
def qI(a b:I6)(w:World)(K:KP):=an w (.cells a.vs.toArray 34) λ a c=>an c (.cells b.vs.toArray 34) λ b c=>∃ d:I6,af c.drew (qd a 0) 0 d.vs/\∃ e:I6,af c.drew (qd b 0) 0 e.vs/\∃ b:I6,af c.drew (qd a 0) 0 b.vs/\CC 205 #[.agg d.vs.toArray,.agg e.vs.toArray] c.drew λ c d=>∃ e:I6,c=.returned (.agg e.vs.toArray)/\af d (qd a 0) 0 b.vs/\K (.bool (I6.beq e b)) d
theorem uB{u1 u2 w K}(h:qI u1 u2 w K):CP 162 #[.agg u1.vs.toArray,.agg u2.vs.toArray] w K:=ah (az []) func162 (by kernel_rfl) (by kernel_rfl) h
def xX(a:I6)(w:World)(K:KP):=an w (.cells a.vs.toArray 34) λ a b=>∃ c:I6,af b (qd a 0) 0 c.vs/\CC 105 #[.agg c.vs.toArray] b λ b c=>∃ d,b=.returned (iv d)/\cond (d==0) (K (.func (.func 159) #[] #[]) c) (∃ b:I6,af c (qd a 0) 0 b.vs/\CC 160 #[.agg b.vs.toArray] c λ a b=>∃ c:Value,a=.returned c/\K c b)
theorem zZ{u1 w K}(h:xX u1 w K):CP 107 #[.agg u1.vs.toArray] w K:=ah (az []) func107 (by kernel_rfl) (by kernel_rfl) h
def vI(a b:I6)(w:World)(K:KP):=an w (.cells a.vs.toArray 34) λ a c=>an c (.cells b.vs.toArray 34) λ b c=>an c (.cells z6.vs.toArray 34) λ c d=>∃ e:Int->qN,(∃ f,e 0 d f)/\∀ d f g,e g d f->∀ h:qv,cond (decide (g<6)) (0<=g/\g<6/\∃ h,d.drew.cell? (Addr.add (qd a 0) ((g).toNat*1))=some (iv h)/\0<=g/\g<6/\∃ i,d.drew.cell? (Addr.add (qd b 0) ((g).toNat*1))=some (iv i)/\0<=g/\g<6/\aM d.drew (Addr.add (qd a 0) ((g).toNat*1)) (iv (if i<h then i else h)) λ b=>∃ h,h<f/\e (IntKind.i64.wrap (g+1)) b h) (∃ b:I6,af d (qd a 0) 0 b.vs/\aK (qd c 0) 0 b.vs d λ a=>∃ b:I6,af a (qd c 0) 0 b.vs/\K (.agg b.vs.toArray) a)
theorem yb{u1 u2 w K}(h:vI u1 u2 w K):CP 205 #[.agg u1.vs.toArray,.agg u2.vs.toArray] w K:=ah (az [(26,[(6,.s (.int .i64))])]) func205 (by kernel_rfl) (by kernel_rfl) h
def sM(a:I6)(w:World)(K:KP):=an w (.cells a.vs.toArray 34) λ a b=>∃ c:I6,af b (qd a 0) 0 c.vs/\∃ a:Int->Int->qN,(∃ d,a 0 (0:Int) b d)/\∀ b d e f,a e f b d->∀ g:qv,cond (decide (f<6)) (0<=f/\f<6/\∃ g,(c.vs.toArray:Array Value)[(f).toNat*1]?=some (iv g)/\∃ c,c<d/\a (IntKind.i64.wrap (e+g)) (IntKind.i64.wrap (f+1)) b c) (K (iv e) b)
theorem wH{u1 w K}(h:sM u1 w K):CP 201 #[.agg u1.vs.toArray] w K:=ah (az [(58,[(3,.s (.int .i64)),(7,.s (.int .i64))])]) func201 (by kernel_rfl) (by kernel_rfl) h
def vH(a b:I6)(w:World)(K:KP):=an w (.cells a.vs.toArray 34) λ a c=>an c (.cells b.vs.toArray 34) λ b c=>an c (.cells z6.vs.toArray 34) λ c d=>∃ e:Int->qN,(∃ f,e 0 d f)/\∀ d f g,e g d f->∀ h:qv,cond (decide (g<6)) (0<=g/\g<6/\∃ h,d.drew.cell? (Addr.add (qd a 0) ((g).toNat*1))=some (iv h)/\0<=g/\g<6/\∃ i,d.drew.cell? (Addr.add (qd b 0) ((g).toNat*1))=some (iv i)/\0<=g/\g<6/\aM d.drew (Addr.add (qd a 0) ((g).toNat*1)) (iv (if i>h then i else h)) λ b=>∃ h,h<f/\e (IntKind.i64.wrap (g+1)) b h) (∃ b:I6,af d (qd a 0) 0 b.vs/\aK (qd c 0) 0 b.vs d λ a=>∃ b:I6,af a (qd c 0) 0 b.vs/\K (.agg b.vs.toArray) a)
theorem xZ{u1 u2 w K}(h:vH u1 u2 w K):CP 158 #[.agg u1.vs.toArray,.agg u2.vs.toArray] w K:=ah (az [(26,[(6,.s (.int .i64))])]) func158 (by kernel_rfl) (by kernel_rfl) h
def vK(a:I6)(w:World)(K:KP):=an w (.cells a.vs.toArray 34) λ a b=>K (.func (.func 203) #[] #[qp a]) b
theorem ye{u1 w K}(h:vK u1 w K):CP 160 #[.agg u1.vs.toArray] w K:=ah (az []) func160 (by kernel_rfl) (by kernel_rfl) h
def vJ(a b:I6)(w:World)(K:KP):=an w (.cells a.vs.toArray 34) λ a c=>an c (.cells b.vs.toArray 34) λ b c=>∃ d:Bool->qW,(∀ e f,d f e->∀ g:qv,cond f (K (.tuple #[qz,iv 4]) e) (∃ f:I6,af e (qd a 0) 0 f.vs/\∃ g:Int->Int->qN,(∃ h,g 0 (0:Int) e h)/\∀ e h i j,g i j e h->∀ k:qv,cond (decide (j<6)) (0<=j/\j<6/\∃ k,(f.vs.toArray:Array Value)[(j).toNat*1]?=some (iv k)/\0<=j/\j<6/\∃ f,e.cell? (Addr.add (qd b 0) ((j).toNat*1))=some (iv f)/\∃ l,l<h/\g (IntKind.i64.wrap ((IntKind.i64.wrap (i*(IntKind.i64.wrap (k+1))))+f)) (IntKind.i64.wrap (j+1)) e l) (K (.tuple #[iv i,qz]) e)))/\∃ e:I6,af c (qd a 0) 0 e.vs/\CC 105 #[.agg e.vs.toArray] c λ c e=>∃ f,c=.returned (iv f)/\cond (f==0) (d true e) (∃ c:I6,af e (qd b 0) 0 c.vs/\CC 47 #[.agg c.vs.toArray] e λ c e=>∃ f,c=.returned (iv f)/\cond (f !=0) (d true e) (∃ c:I6,af e (qd b 0) 0 c.vs/\∃ b:I6,af e (qd a 0) 0 b.vs/\CC 162 #[.agg c.vs.toArray,.agg b.vs.toArray] e λ a b=>∃ c,a=.returned (.bool c)/\d (!c) b))
theorem yd{u1 u2 w K}(h:vJ u1 u2 w K):CP 161 #[.agg u1.vs.toArray,.agg u2.vs.toArray] w K:=ah (az [(6,[(22,.s .bool)]),(122,[(6,.s (.int .i64)),(24,.s (.int .i64))])]) func161 (by kernel_rfl) (by kernel_rfl) h
def xW(a b:I6)(w:World)(K:KP):=an w (.cells a.vs.toArray 34) λ a c=>an c (.cells b.vs.toArray 34) λ b c=>an c (.cells z6.vs.toArray 34) λ c d=>∃ e:Int->qN,(∃ f,e 0 d f)/\∀ d f g,e g d f->∀ h:qv,cond (decide (g<6)) (0<=g/\g<6/\∃ h,d.drew.cell? (Addr.add (qd a 0) ((g).toNat*1))=some (iv h)/\0<=g/\g<6/\∃ i,d.drew.cell? (Addr.add (qd b 0) ((g).toNat*1))=some (iv i)/\0<=g/\g<6/\aM d.drew (Addr.add (qd a 0) ((g).toNat*1)) (iv (IntKind.i64.wrap (h+i))) λ b=>∃ h,h<f/\e (IntKind.i64.wrap (g+1)) b h) (∃ b:I6,af d (qd a 0) 0 b.vs/\aK (qd c 0) 0 b.vs d λ a=>∃ b:I6,af a (qd c 0) 0 b.vs/\K (.agg b.vs.toArray) a)
theorem zY{u1 u2 w K}(h:xW u1 u2 w K):CP 202 #[.agg u1.vs.toArray,.agg u2.vs.toArray] w K:=ah (az [(26,[(6,.s (.int .i64))])]) func202 (by kernel_rfl) (by kernel_rfl) h
def qJ(a b:Nat)(w:World)(K:KP):=an w (.cells z6.vs.toArray 34) λ c d=>aK (qd c 0) 0 z6.vs d λ d=>∃ e:qN,(∃ f,e d f)/\∀ d f,e d f->∀ g:qv,∃ g:I6,af d (qd c 0) 0 g.vs/\lK prog a #[.agg g.vs.toArray] d λ a d=>∃ g,.returned (.bool a)=Ending.returned (.bool g)/\cond g (∃ a:I6,af d (qd c 0) 0 a.vs/\∃ g:I6,af d (qd b 0) 0 g.vs/\CC 204 #[.agg a.vs.toArray,.agg g.vs.toArray] d λ a b=>∃ g:I6,a=.returned (.agg g.vs.toArray)/\aK (qd c 0) 0 g.vs b λ a=>∃ b:I6,af a (qd c 0) 0 b.vs/\cond (I6.beq b z6) (K (.tuple #[]) a) (∃ b,b<f/\e a b)) (K (.tuple #[]) d)
theorem uC{l1 b1 w K}(h:qJ l1 b1 w K):CP 203 #[.func (.yield l1) #[] #[],.pointer (some ⟨b1,0,none⟩)] w K:=ah (az [(6,[])]) func203 (by kernel_rfl) (by kernel_rfl) h
def ku(a b:I6)(w:World)(K:KP):=an w (.cells a.vs.toArray 34) λ a c=>an c (.cells b.vs.toArray 34) λ b c=>an c (.cells z6.vs.toArray 34) λ c d=>∃ e:Int->qN,(∃ f,e 5 d f)/\∀ d f g,e g d f->∀ h:qv,cond (decide (g>=0)) (0<=g/\g<6/\∃ h,d.drew.cell? (Addr.add (qd a 0) ((g).toNat*1))=some (iv h)/\0<=g/\g<6/\∃ i,d.drew.cell? (Addr.add (qd b 0) ((g).toNat*1))=some (iv i)/\cond (decide (h<i)) (0<=g/\g<6/\∃ b,d.drew.cell? (Addr.add (qd a 0) ((g).toNat*1))=some (iv b)/\0<=g/\g<6/\aM d.drew (Addr.add (qd a 0) ((g).toNat*1)) (iv (IntKind.i64.wrap (b+1))) λ b=>∃ h:I6,af b (qd a 0) 0 h.vs/\aK (qd c 0) 0 h.vs b λ b=>∃ h:I6,af b (qd c 0) 0 h.vs/\K (.agg h.vs.toArray) b) (0<=g/\g<6/\aM d.drew (Addr.add (qd a 0) ((g).toNat*1)) qz λ b=>∃ h,h<f/\e (IntKind.i64.wrap (g-1)) b h)) (∃ b:I6,af d (qd a 0) 0 b.vs/\aK (qd c 0) 0 b.vs d λ a=>∃ b:I6,af a (qd c 0) 0 b.vs/\K (.agg b.vs.toArray) a)
theorem qf{u1 u2 w K}(h:ku u1 u2 w K):CP 204 #[.agg u1.vs.toArray,.agg u2.vs.toArray] w K:=ah (az [(26,[(5,.s (.int .i64))])]) func204 (by kernel_rfl) (by kernel_rfl) h
theorem e9(r k:Nat):Addr.add ⟨r,0,none⟩ (((k:Nat):Int).toNat*1)=⟨r,k,none⟩:=by rw[bw]; simp
theorem aH{w0 w:World}{l:List aD}{r:Nat}{u:I6}{T:TypeId}(h:St w0 w (Sep l))(i:Nat)(e:l[i]?=some (ai r u.vs.toArray T)){k:Nat}(hk:k<6):w.cell? ⟨r,k,none⟩=some (iv (u.at' k)):=by
 rw[h.ag i e]; simpa using u.get k hk
def EZ(p u:I6)(k:Nat):Int:=(List.range k).foldl (λ s j=>s+p.at' j*u.at' j) 0
theorem AE(p u:I6)(k:Nat):EZ p u (k+1)=EZ p u k+p.at' k*u.at' k:=by simp[EZ,List.range_succ]
def cost(p u:I6):Int:=p.a*u.a+p.b*u.b+p.c*u.c+p.d*u.d+p.e*u.e+p.f*u.f
theorem Gs(p u:I6):EZ p u 6=cost p u:=by simp[EZ,cost,List.range_succ,I6.at']
def tot(u:I6):Int:=u.a+u.b+u.c+u.d+u.e+u.f
def I6.Le(u:I6)(n:Int):Prop:=∀ k,k<6->0<=u.at' k/\u.at' k<=n
theorem It{u:I6}(h:u.l.all j8=true):I6.Le u 4:=λ k hk=>by
 have:=List.all_eq_true.1 h _ (List.mem_of_getElem? (u.yT k hk));simpa[j8] using this
theorem leq{u:I6}(h:I6.Le u 4):u.l.all j8=true:=by
 have h0:=h 0 (by decide); have h1:=h 1 (by decide); have h2:=h 2 (by decide); have h3:=h 3 (by decide); have h4:=h 4 (by decide); have h5:=h 5 (by decide);simp only[I6.at'] at h0 h1 h2 h3 h4 h5;simp[I6.l,j8,h0,h1,h2,h3,h4,h5]
theorem QN(w:World)(u v:I6)(hu:I6.Le u 1000000)(hv:I6.Le v 1000000):CP 202 #[.agg u.vs.toArray,.agg v.vs.toArray] w (λ r w'=>r=.agg (u.zip (· + ·) v).vs.toArray/\aA w w' []):=by
 refine zY ?_;unfold xW;refine aI (aI (aI ?_));have s3:=(((St.start w).one.bO u.vs.toArray 34).bO v.vs.toArray 34).bO z6.vs.toArray 34;generalize hw3:World.alloc _ _=w3 at s3 ⊢;generalize hr1:w.heap.size=r1 at s3 ⊢;generalize hr2:(w.alloc _).heap.size=r2 at s3 ⊢;generalize hr3:((w.alloc _).alloc _).heap.size=r3 at s3 ⊢;refine⟨λ n w4 m=>∃ k:Nat,n=k/\k<=6/\m=6-k/\St w w4 (Sep [ai r3 z6.vs.toArray 34,ai r2 v.vs.toArray 34,ai r1 (I6.mix k (u.zip (· + ·) v) u).vs.toArray 34,emp]),⟨6,0,rfl,by omega,by omega,s3⟩,?_⟩;rintro w4 m n ⟨k,rfl,hk,hm,s4⟩ -
 by_cases hlt:(k:Int)<6
 ·have hk' : k<6:=by omega
  have s5:=s4.quiet (aA.drew _ _);have h1:=hu k hk';have h2:=hv k hk';refine cT (dT hlt) ⟨by omega,by omega,u.at' k,?_,by omega,by omega,v.at' k,?_,by omega,by omega,?_⟩
  ·rw[e9,aH s5 2 rfl hk',I6.bV _ _ _ _ hk',if_neg (by omega)]
  ·rw[e9,aH s5 1 rfl hk']
  ·rw[e9,aB ⟨by omega,by omega⟩];refine s5.aJ 2 rfl hk' rfl λ w6 s6=>⟨6-(k+1),by omega,k+1,inc (by decide) hk',by omega,rfl,?_⟩;rw[show u.at' k+v.at' k=(u.zip (· + ·) v).at' k by rw[I6.jf _ _ _ _ hk'],I6.fH _ _ _ hk'] at s6;exact s6
 ·obtain rfl:k=6:=by omega
  refine cF (by simp) ⟨_,s4.cellsIn 2 rfl,?_⟩;exact s4.ay 0 rfl (u.zip (· + ·) v).vs rfl (I6.one _) λ w8 s8=>⟨_,s8.cellsIn 0 rfl,rfl,s8.av⟩
theorem PB(w:World)(u v:I6):CP 158 #[.agg u.vs.toArray,.agg v.vs.toArray] w (λ r w'=>r=.agg (u.zip (λ x y=>if y>x then y else x) v).vs.toArray/\aA w w' []):=by
 refine xZ ?_;unfold vH;refine aI (aI (aI ?_));have s3:=(((St.start w).one.bO u.vs.toArray 34).bO v.vs.toArray 34).bO z6.vs.toArray 34;generalize hw3:World.alloc _ _=w3 at s3 ⊢;generalize hr1:w.heap.size=r1 at s3 ⊢;generalize hr2:(w.alloc _).heap.size=r2 at s3 ⊢;generalize hr3:((w.alloc _).alloc _).heap.size=r3 at s3 ⊢;refine⟨λ n w4 m=>∃ k:Nat,n=k/\k<=6/\m=6-k/\St w w4 (Sep [ai r3 z6.vs.toArray 34,ai r2 v.vs.toArray 34,ai r1 (I6.mix k (u.zip (λ x y=>if y>x then y else x) v) u).vs.toArray 34,emp]),⟨6,0,rfl,by omega,by omega,s3⟩,?_⟩;rintro w4 m n ⟨k,rfl,hk,hm,s4⟩ -
 by_cases hlt:(k:Int)<6
 ·have hk' : k<6:=by omega
  have s5:=s4.quiet (aA.drew _ _);refine cT (dT hlt) ⟨by omega,by omega,u.at' k,?_,by omega,by omega,v.at' k,?_,by omega,by omega,?_⟩
  ·rw[e9,aH s5 2 rfl hk',I6.bV _ _ _ _ hk',if_neg (by omega)]
  ·rw[e9,aH s5 1 rfl hk']
  ·rw[e9];refine s5.aJ 2 rfl hk' rfl λ w6 s6=>⟨6-(k+1),by omega,k+1,inc (by decide) hk',by omega,rfl,?_⟩;rw[show(if v.at' k>u.at' k then v.at' k else u.at' k)=(u.zip (λ x y=>if y>x then y else x) v).at' k by rw[I6.jf _ _ _ _ hk'],I6.fH _ _ _ hk'] at s6;exact s6
 ·obtain rfl:k=6:=by omega
  refine cF (by simp) ⟨_,s4.cellsIn 2 rfl,?_⟩;exact s4.ay 0 rfl (u.zip (λ x y=>if y>x then y else x) v).vs rfl (I6.one _) λ w8 s8=>⟨_,s8.cellsIn 0 rfl,rfl,s8.av⟩
theorem PK(w:World)(u v:I6):CP 205 #[.agg u.vs.toArray,.agg v.vs.toArray] w (λ r w'=>r=.agg (u.zip (λ x y=>if y<x then y else x) v).vs.toArray/\aA w w' []):=by
 refine yb ?_;unfold vI;refine aI (aI (aI ?_));have s3:=(((St.start w).one.bO u.vs.toArray 34).bO v.vs.toArray 34).bO z6.vs.toArray 34;generalize hw3:World.alloc _ _=w3 at s3 ⊢;generalize hr1:w.heap.size=r1 at s3 ⊢;generalize hr2:(w.alloc _).heap.size=r2 at s3 ⊢;generalize hr3:((w.alloc _).alloc _).heap.size=r3 at s3 ⊢;refine⟨λ n w4 m=>∃ k:Nat,n=k/\k<=6/\m=6-k/\St w w4 (Sep [ai r3 z6.vs.toArray 34,ai r2 v.vs.toArray 34,ai r1 (I6.mix k (u.zip (λ x y=>if y<x then y else x) v) u).vs.toArray 34,emp]),⟨6,0,rfl,by omega,by omega,s3⟩,?_⟩;rintro w4 m n ⟨k,rfl,hk,hm,s4⟩ -
 by_cases hlt:(k:Int)<6
 ·have hk' : k<6:=by omega
  have s5:=s4.quiet (aA.drew _ _);refine cT (dT hlt) ⟨by omega,by omega,u.at' k,?_,by omega,by omega,v.at' k,?_,by omega,by omega,?_⟩
  ·rw[e9,aH s5 2 rfl hk',I6.bV _ _ _ _ hk',if_neg (by omega)]
  ·rw[e9,aH s5 1 rfl hk']
  ·rw[e9];refine s5.aJ 2 rfl hk' rfl λ w6 s6=>⟨6-(k+1),by omega,k+1,inc (by decide) hk',by omega,rfl,?_⟩;rw[show(if v.at' k<u.at' k then v.at' k else u.at' k)=(u.zip (λ x y=>if y<x then y else x) v).at' k by rw[I6.jf _ _ _ _ hk'],I6.fH _ _ _ hk'] at s6;exact s6
 ·obtain rfl:k=6:=by omega
  refine cF (by simp) ⟨_,s4.cellsIn 2 rfl,?_⟩;exact s4.ay 0 rfl (u.zip (λ x y=>if y<x then y else x) v).vs rfl (I6.one _) λ w8 s8=>⟨_,s8.cellsIn 0 rfl,rfl,s8.av⟩
def within(u v:I6):Bool:=decide (u.a<=v.a)&&(decide (u.b<=v.b)&&(decide (u.c<=v.c)&&(decide (u.d<=v.d)&&(decide (u.e<=v.e)&&decide (u.f<=v.f)))))
theorem within_iff{u v:I6}:within u v=true<->∀ k,k<6->u.at' k<=v.at' k:=by
 simp only[within,Bool.and_eq_true,decide_eq_true_eq];constructor
 ·rintro⟨h0,h1,h2,h3,h4,h5⟩ k hk
  match k,hk with
  | 0,_=>exact h0
  | 1,_=>exact h1
  | 2,_=>exact h2
  | 3,_=>exact h3
  | 4,_=>exact h4
  | 5,_=>exact h5
 ·exact λ h=>⟨h 0 (by decide),h 1 (by decide),h 2 (by decide),h 3 (by decide),h 4 (by decide),h 5 (by decide)⟩
theorem uh(w:World)(u v:I6):CP 162 #[.agg u.vs.toArray,.agg v.vs.toArray] w (λ r w'=>r=.bool (within u v)/\aA w w' []):=by
 refine uB ?_;unfold qI;refine aI (aI ?_);have s2:=(((St.start w).one.bO u.vs.toArray 34).bO v.vs.toArray 34).quiet (aA.drew _ _);refine⟨_,s2.cellsIn 1 rfl,_,s2.cellsIn 0 rfl,_,s2.cellsIn 1 rfl,aj (PK _ u v) ?_⟩;rintro r w3 ⟨rfl,c3⟩;refine⟨_,rfl,bC c3 (s2.cellsIn 1 rfl),?_,(s2.quiet c3).av⟩;have m:∀ x y:Int,((if y<x then y else x)==x)=decide (x<=y):=λ x y=>by
  by_cases h:y<x
  ·rw[if_pos h,dF (by omega)]; simp; omega
  ·rw[if_neg h,dT (by omega)]; simp
 simp only[I6.beq,I6.zip,within,m,Bool.and_true]
theorem NS(w:World)(u:I6)(hu:I6.Le u 1000000):CP 201 #[.agg u.vs.toArray] w (λ r w'=>r=iv (tot u)/\aA w w' []):=by
 refine wH ?_;unfold sM;refine aI ?_;have s1:=(St.start w).one.bO u.vs.toArray 34;generalize hw1:World.alloc _ _=w1 at s1 ⊢;generalize hr1:w.heap.size=r1 at s1 ⊢;let z1:I6:=⟨1,1,1,1,1,1⟩;have e1:∀ k,k<6->z1.at' k=1:=λ k hk=>by
  match k,hk with
  | 0,_|1,_|2,_|3,_|4,_|5,_=>rfl
 refine⟨u,s1.cellsIn 0 rfl,λ p n w3 m=>∃ k:Nat,n=k/\k<=6/\m=6-k/\p=EZ z1 u k/\0<=p/\p<=(k:Int)*1000000/\w3=w1,⟨6,0,rfl,by omega,by omega,rfl,by simp,by simp,rfl⟩,?_⟩;rintro w3 m p n ⟨k,rfl,hk,hm,hp,h0,h1,rfl⟩ -
 by_cases hlt:(k:Int)<6
 ·have hk' : k<6:=by omega
  have h2:=hu k hk';refine cT (dT hlt) ⟨by omega,by omega,u.at' k,u.get k hk',6-(k+1),by omega,k+1,inc (by decide) hk',by omega,rfl,?_,?_,?_,rfl⟩
  ·rw[aB ⟨by omega,by omega⟩,AE,e1 k hk',hp]; omega
  ·rw[aB ⟨by omega,by omega⟩]; omega
  ·rw[aB ⟨by omega,by omega⟩]; omega
 ·obtain rfl:k=6:=by omega
  refine cF (by simp) ⟨?_,s1.av⟩;rw[hp,Gs]; simp[cost,tot,z1]
theorem O7(w:World)(p u:I6)(B:Int)(hB:B<=1000000000000)(hp:∀ k,k<6->-B<=p.at' k/\p.at' k<=B)(hu:I6.Le u 4):CP 65 #[.agg p.vs.toArray,.agg u.vs.toArray] w (λ r w'=>r=iv (cost p u)/\aA w w' []):=by
 refine xY ?_;unfold vG;refine aI (aI ?_);have s2:=((St.start w).one.bO p.vs.toArray 53).bO u.vs.toArray 34;generalize hw2:World.alloc _ _=w2 at s2 ⊢;generalize hr1:w.heap.size=r1 at s2 ⊢;generalize hr2:(w.alloc _).heap.size=r2 at s2 ⊢;have b1:∀ k,k<6->-(4*B)<=p.at' k*u.at' k/\p.at' k*u.at' k<=4*B:=λ k hk=>by
  have h1:=hp k hk;have h2:=hu k hk;have h3:0<=B:=by omega
  obtain⟨j,hj⟩:∃ j:Nat,u.at' k=(j:Int):=⟨(u.at' k).toNat,by omega⟩;rw[hj] at h2 ⊢;have h4:j<=4:=by omega
  match j,h4 with
  | 0,_|1,_|2,_|3,_|4,_=>omega
 refine⟨u,s2.cellsIn 0 rfl,λ s n w3 m=>∃ k:Nat,n=k/\k<=6/\m=6-k/\s=EZ p u k/\-((k:Int)*(4*B))<=s/\s<=(k:Int)*(4*B)/\w3=w2,⟨6,0,rfl,by omega,by omega,rfl,by simp,by simp,rfl⟩,?_⟩;rintro w3 m s n ⟨k,rfl,hk,hm,hs,h0,h1,rfl⟩ -
 by_cases hlt:(k:Int)<6
 ·have hk' : k<6:=by omega
  have h2:=b1 k hk';have h3:((k+1:Nat):Int)*(4*B)=(k:Int)*(4*B)+4*B:=by rw[Int.natCast_add,Int.add_mul]; omega
  have h4:(k:Int)*(4*B)<=5*(4*B)/\0<=(k:Int)*(4*B):=by
   have h0:0<=B:=by have:=hp k hk'; omega
   exact⟨Int.mul_le_mul_of_nonneg_right (by omega) (by omega),Int.mul_nonneg (by omega) (by omega)⟩
  refine cT (dT hlt) ⟨by omega,by omega,u.at' k,u.get k hk',by omega,by omega,p.at' k,?_,6-(k+1),by omega,k+1,inc (by decide) hk',by omega,rfl,?_,?_,?_,rfl⟩
  ·rw[e9,aH s2 1 rfl hk']
  ·rw[aB (n:=p.at' k*u.at' k) ⟨by omega,by omega⟩,aB ⟨by omega,by omega⟩,AE,hs]
  ·rw[aB (n:=p.at' k*u.at' k) ⟨by omega,by omega⟩,aB ⟨by omega,by omega⟩]; omega
  ·rw[aB (n:=p.at' k*u.at' k) ⟨by omega,by omega⟩,aB ⟨by omega,by omega⟩]; omega
 ·obtain rfl:k=6:=by omega
  refine cF (by simp) ⟨?_,s2.av⟩;rw[hs,Gs]
def gM(m u:I6):Nat->Int
 | 0=>0
 | k+1=>gM m u k*(m.at' k+1)+u.at' k
def I5(m:I6):Nat->Int
 | 0=>1
 | k+1=>I5 m k*(m.at' k+1)
abbrev rk (m u:I6):Int:=gM m u 6
theorem KJ(m:I6):∀ k,k<=6->pr (m.l.take k)=I5 m k
 | 0,_=>rfl
 | k+1,h=>by rw[aG (m.yT k (by omega)),Ce,KJ m k (by omega)]; rfl
theorem FA(m:I6):pr m.l=I5 m 6:=KJ m 6 (by omega)
structure EF (m u:I6):Prop where
 mm:I6.Le m 4
 u:∀ k,k<6->0<=u.at' k/\u.at' k<=m.at' k
theorem EF.le{m u:I6}(h:EF m u):I6.Le u 4:=λ k hk=>by have:=h.mm k hk; have:=h.u k hk; omega
theorem vn{m u:I6}(h:EF m u):∀ k,k<=6->0<=gM m u k/\gM m u k+1<=I5 m k/\I5 m k<=5 ^ k
 | 0,_=>⟨by simp[gM],by simp[gM,I5],by simp[I5]⟩
 | k+1,hk=>by
  obtain⟨h1,h2,h3⟩:=vn h k (by omega);have hm:=h.mm k (by omega);have hu:=h.u k (by omega);simp only[gM,I5];refine⟨?_,?_,?_⟩
  ·have:=Int.mul_nonneg h1 (show(0:Int)<=m.at' k+1 by omega); omega
  ·have h4:(gM m u k+1)*(m.at' k+1)<=I5 m k*(m.at' k+1):=Int.mul_le_mul_of_nonneg_right h2 (by omega);rw[Int.add_mul] at h4; omega
  ·have h4:I5 m k*(m.at' k+1)<=5 ^ k*(m.at' k+1):=Int.mul_le_mul_of_nonneg_right h3 (by omega);have h5:(5:Int) ^ k*(m.at' k+1)<=5 ^ k*5:=Int.mul_le_mul_of_nonneg_left (by omega) (Int.pow_nonneg (by omega));rw[Int.pow_succ]; omega
theorem P5(w:World)(m u:I6):CP 161 #[.agg m.vs.toArray,.agg u.vs.toArray] w (λ r w'=>(∃ n e:Int,r=.tuple #[iv n,iv e]/\(e=0<->(pr m.l<=1024/\EF m u))/\(e=0->n=rk m u))/\aA w w' []):=by
 refine yd ?_;unfold vJ;refine aI (aI ?_);have s2:=((St.start w).one.bO m.vs.toArray 34).bO u.vs.toArray 34;generalize hw2:World.alloc _ _=w2 at s2 ⊢;generalize hr1:w.heap.size=r1 at s2 ⊢;generalize hr2:(w.alloc _).heap.size=r2 at s2 ⊢;refine⟨λ b w3=>aA w2 w3 []/\(b=false<->(pr m.l<=1024/\EF m u)),?_,_,s2.cellsIn 1 rfl,aj (xw w2 m) ?_⟩
 ·rintro w3 b ⟨hc,hb⟩ -
  cases b with
  | true=>exact cT rfl ⟨⟨0,4,rfl,⟨λ h=>(by cases h),λ h=>(by cases hb.2 h)⟩,λ h=>(by cases h)⟩,(s2.quiet hc).av⟩
  | false =>
   obtain⟨hp,hin⟩:=hb.1 rfl;have s3:=s2.quiet hc;refine cF rfl ⟨m,s3.cellsIn 1 rfl,λ p n w4 x=>∃ k:Nat,n=k/\k<=6/\x=6-k/\p=gM m u k/\w4=w3,⟨6,0,rfl,by omega,by omega,rfl,rfl⟩,?_⟩;rintro w4 x p n ⟨k,rfl,hk,hx,rfl,rfl⟩ -
   by_cases hlt:(k:Int)<6
   ·have hk' : k<6:=by omega
    have b0:=vn hin k hk;have b1:=vn hin (k+1) hk';have hm:=hin.mm k hk';have hu:=hin.u k hk';have h5:(5:Int) ^ (k+1)<=15625:=by
     match k,hk' with
     | 0,_|1,_|2,_|3,_|4,_|5,_=>decide
    refine cT (dT hlt) ⟨by omega,by omega,m.at' k,m.get k hk',by omega,by omega,u.at' k,by rw[e9,aH s3 0 rfl hk'],6-(k+1),by omega,k+1,inc (by decide) hk',by omega,rfl,?_,rfl⟩;have e:gM m u (k+1)=gM m u k*(m.at' k+1)+u.at' k:=rfl;have h6:0<=gM m u k*(m.at' k+1):=Int.mul_nonneg b0.1 (by omega);rw[aB (n:=m.at' k+1) ⟨by omega,by omega⟩,aB (n:=gM m u k*(m.at' k+1)) ⟨by omega,by omega⟩,aB ⟨by omega,by omega⟩,e]
   ·obtain rfl:k=6:=by omega
    exact cF (by simp) ⟨⟨_,0,rfl,⟨λ _=>⟨hp,hin⟩,λ _=>rfl⟩,λ _=>rfl⟩,s3.av⟩
 ·rintro v w5 ⟨rfl,c5⟩;refine⟨_,rfl,?_⟩
  by_cases g1:m.l.all j8=true/\pr m.l<=1024
  ·rw[if_pos g1];have hp1:=(oQ g1.1).1;refine cF (by simp; omega) ⟨_,(s2.quiet c5).cellsIn 0 rfl,aj (bR w5 u) ?_⟩;rintro v w6 ⟨rfl,c6⟩;refine⟨_,rfl,?_⟩;have c56:=c5.trans c6 (by simp)
   by_cases g2:u.l.all j8=true
   ·rw[if_pos g2];have s6:=s2.quiet c56;refine cF rfl ⟨_,s6.cellsIn 0 rfl,_,s6.cellsIn 1 rfl,aj (uh w6 u m) ?_⟩;rintro v w7 ⟨rfl,c7⟩;refine⟨_,rfl,c56.trans c7 (by simp),?_⟩;have hq:=It g2
    cases g3:within u m with
    | true=>exact⟨λ _=>⟨g1.2,It g1.1,λ k hk=>⟨(hq k hk).1,within_iff.1 g3 k hk⟩⟩,λ _=>rfl⟩
    | false=>exact⟨λ h=>(by cases h),λ h=>(by rw[within_iff.2 λ k hk=>(h.2.u k hk).2] at g3; cases g3)⟩
   ·rw[if_neg g2];exact cT rfl ⟨c56,λ h=>(by cases h),λ h=>absurd (leq h.2.le) g2⟩
  ·rw[if_neg g1];exact cT rfl ⟨c5,λ h=>(by cases h),λ h=>absurd ⟨leq h.2.mm,h.1⟩ g1⟩
def mP(u m:I6):Nat->I6
 | 0=>z6
 | k+1=>if u.at' k<m.at' k then (I6.mix (k+1) u z6).put k (u.at' k+1) else mP u m k
abbrev jI (u m:I6):I6:=mP u m 6
theorem uk(k:Nat):z6.at' k=0:=by
 match k with
 | 0|1|2|3|4|5=>rfl
 | n+6=>rfl
theorem Dz(w:World){u m:I6}(h:EF m u):CP 204 #[.agg u.vs.toArray,.agg m.vs.toArray] w (λ r w'=>r=.agg (jI u m).vs.toArray/\aA w w' []):=by
 refine qf ?_;unfold ku;refine aI (aI (aI ?_));have s3:=(((St.start w).one.bO u.vs.toArray 34).bO m.vs.toArray 34).bO z6.vs.toArray 34;generalize hw3:World.alloc _ _=w3 at s3 ⊢;generalize hr1:w.heap.size=r1 at s3 ⊢;generalize hr2:(w.alloc _).heap.size=r2 at s3 ⊢;generalize hr3:((w.alloc _).alloc _).heap.size=r3 at s3 ⊢;refine⟨λ n w4 x=>∃ k:Nat,n=(k:Int)-1/\k<=6/\x=k/\jI u m=mP u m k/\St w w4 (Sep [ai r3 z6.vs.toArray 34,ai r2 m.vs.toArray 34,ai r1 (I6.mix k u z6).vs.toArray 34,emp]),⟨6,6,rfl,by omega,rfl,rfl,s3⟩,?_⟩;rintro w4 x n ⟨k,rfl,hk,hx,hn,s4⟩ -
 by_cases hlt:(0:Int)<=(k:Int)-1
 ·obtain⟨j,rfl⟩:∃ j,k=j+1:=⟨k-1,by omega⟩;have hj:j<6:=by omega
  rw[show((j+1:Nat):Int)-1=(j:Int) by omega] at *;have s5:=s4.quiet (aA.drew _ _);have hu:=h.u j hj;have hm:=h.mm j hj;have cu:w4.drew.cell? (Addr.add ⟨r1,0,none⟩ ((j:Int).toNat*1))=some (iv (u.at' j)):=by
   rw[e9,aH s5 2 rfl hj,I6.bV _ _ _ _ hj,if_pos (by omega)]
  refine cT (dT (show(j:Int)>=0 by omega)) ⟨by omega,by omega,u.at' j,cu,by omega,by omega,m.at' j,by rw[e9,aH s5 1 rfl hj],?_⟩
  by_cases g:u.at' j<m.at' j
  ·refine cT (dT g) ⟨by omega,by omega,u.at' j,cu,by omega,by omega,?_⟩;rw[e9,aB ⟨by omega,by omega⟩];refine s5.aJ 2 rfl hj rfl λ w6 s6=>?_;rw[I6.pX _ _ _ hj] at s6;have e:jI u m=(I6.mix (j+1) u z6).put j (u.at' j+1):=by rw[hn]; unfold mP; rw[if_pos g]
   rw[<- e] at s6;exact⟨_,s6.cellsIn 2 rfl,s6.ay 0 rfl (jI u m).vs rfl (I6.one _) λ w8 s8=>⟨_,s8.cellsIn 0 rfl,rfl,s8.av⟩⟩
  ·refine cF (dF g) ⟨by omega,by omega,?_⟩;rw[e9];refine s5.aJ 2 rfl hj rfl λ w6 s6=>⟨j,by omega,j,aB ⟨by omega,by omega⟩,by omega,rfl,?_,?_⟩
   ·rw[hn]; conv=>lhs; unfold mP
    rw[if_neg g]
   ·have e:(I6.mix (j+1) u z6).put j 0=I6.mix j u z6:=by
     refine I6.ext' λ i hi=>?_;rw[I6.zf _ _ _ _ hj hi,I6.bV _ _ _ _ hi,I6.bV _ _ _ _ hi,uk]
     by_cases h1:i=j
     ·rw[if_pos h1,if_neg (by omega)]
     ·rw[if_neg h1]
      by_cases h2:i<j
      ·rw[if_pos (by omega),if_pos h2]
      ·rw[if_neg (by omega),if_neg h2]
    rw[I6.pX _ _ _ hj,e] at s6;exact s6
 ·obtain rfl:k=0:=by omega
  have e:jI u m=z6:=hn;refine cF (dF hlt) ⟨_,s4.cellsIn 2 rfl,?_⟩;rw[I6.Kr] at *;exact s4.ay 0 rfl z6.vs rfl (I6.one _) λ w8 s8=>⟨_,s8.cellsIn 0 rfl,by rw[e],s8.av⟩
theorem KW(m:I6):∀ k,gM m z6 k=0
 | 0=>rfl
 | k+1=>by simp[gM,KW m k,uk]
theorem GM{u m:I6}(h:EF m u):EF m (jI u m):=by
 suffices H:∀ k,k<=6->∀ j,j<6->0<=(mP u m k).at' j/\(mP u m k).at' j<=m.at' j from⟨h.mm,H 6 (by omega)⟩
 intro k
 induction k with
 | zero=>intro _ j hj; have:=h.mm j hj; simp only[mP,uk]; omega
 | succ k ih =>
  intro hk j hj;unfold mP;have hu:=h.u j hj
  split
  ·rename_i g;rw[I6.zf _ _ _ _ (by omega) hj]
   split
   ·rename_i e; subst e; have:=h.u j hj; omega
   ·rw[I6.bV _ _ _ _ hj,uk]
    split<;>omega
  ·exact ih (by omega) j hj
theorem B8{u m:I6}(h:EF m u):(jI u m=z6/\∀ k,k<6->u.at' k=m.at' k)\/(rk m (jI u m)=rk m u+1):=by
 suffices H:∀ k,k<=6->(∀ j,k<=j->j<6->u.at' j=m.at' j)->(mP u m k=z6/\∀ j,j<6->u.at' j=m.at' j)\/(rk m (mP u m k)=rk m u+1) from H 6 (by omega) λ j h1 h2=>by omega
 intro k
 induction k with
 | zero=>exact λ _ ha=>.inl ⟨rfl,λ j hj=>ha j (by omega) hj⟩
 | succ k ih =>
  intro hk ha;unfold mP
  by_cases g:u.at' k<m.at' k
  ·rw[if_pos g];refine .inr ?_;have at1:∀ j,j<6->((I6.mix (k+1) u z6).put k (u.at' k+1)).at' j=if j=k then u.at' k+1 else if j<k then u.at' j else 0:=λ j hj=>by
    rw[I6.zf _ _ _ _ (by omega) hj]
    split
    ·rfl
    ·rw[I6.bV _ _ _ _ hj,uk]
     by_cases h2:j<k
     ·rw[if_pos (by omega),if_pos h2]
     ·rw[if_neg (by omega),if_neg h2]
   have low:∀ i,i<=k->gM m ((I6.mix (k+1) u z6).put k (u.at' k+1)) i=gM m u i:=by
    intro i
    induction i with
    | zero=>intro _; rfl
    | succ i ih2 =>
     intro hi;simp only[gM];rw[ih2 (by omega),at1 i (by omega),if_neg (by omega),if_pos (by omega)]
   have high:∀ d,k+1+d<=6->gM m ((I6.mix (k+1) u z6).put k (u.at' k+1)) (k+1+d)=gM m u (k+1+d)+1:=by
    intro d
    induction d with
    | zero =>
     intro _;show gM m _ (k+1)=gM m u (k+1)+1;simp only[gM];rw[low k (by omega),at1 k (by omega),if_pos rfl];omega
    | succ d ih2 =>
     intro hd;show gM m _ (k+1+d+1)=gM m u (k+1+d+1)+1;simp only[gM];rw[ih2 (by omega),at1 _ (by omega),if_neg (by omega),if_neg (by omega),ha (k+1+d) (by omega) (by omega),Int.add_mul];omega
   have:=high (6-(k+1)) (by omega);rw[show k+1+(6-(k+1))=6 by omega] at this;exact this
  ·rw[if_neg g];refine ih (by omega) λ j h1 h2=>?_;rcases Nat.lt_or_ge k j with h3|h3
   ·exact ha j (by omega) h2
   ·obtain rfl:j=k:=by omega
    have:=h.u j h2;omega
def bX(m:I6):Nat->I6
 | 0=>z6
 | i+1=>jI (bX m i) m
def aR(m:I6):Nat:=(pr m.l).toNat
theorem Cd(m:I6)(h:I6.Le m 4):∀ k,k<=6->gM m m k+1=I5 m k
 | 0,_=>rfl
 | k+1,hk=>by
  simp only[gM,I5];rw[<- Cd m h k (by omega),Int.add_mul];omega
theorem RL{m:I6}(h:I6.Le m 4):EF m z6:=⟨h,λ k hk=>by have:=h k hk; rw[uk]; omega⟩
theorem jr{m:I6}(h:I6.Le m 4):∀ i,EF m (bX m i)
 | 0=>RL h
 | i+1=>GM (jr h i)
theorem lV{m:I6}(h:I6.Le m 4):0<aR m/\(aR m:Int)=pr m.l/\aR m<=15625:=by
 have h1:=oQ (leq h);have h2:m.l.length=6:=rfl;rw[h2] at h1;have h3:(5:Int) ^ 6=15625:=by decide
 unfold aR;omega
theorem BE{m:I6}(h:I6.Le m 4):∀ i,i<aR m->rk m (bX m i)=i
 | 0,_=>KW m 6
 | i+1,hi=>by
  have h1:=BE h i (by omega);rcases B8 (jr h i) with⟨_,h2⟩|h2
  ·exfalso
   have h3:bX m i=m:=I6.ext' h2;rw[h3] at h1;have h4:=Cd m h 6 (by omega);have h5:=(lV h).2.1;rw[FA] at h5;have h6:gM m m 6=(i:Int):=h1;omega
  ·show rk m (jI (bX m i) m)=_;rw[h2,h1]; omega
theorem C8{m:I6}(h:I6.Le m 4){i:Nat}(hi:i<aR m):jI (bX m i) m=z6<->i+1=aR m:=by
 have h1:=BE h i hi;have h5:=(lV h).2.1;have h4:=Cd m h 6 (by omega);rw[FA] at h5;constructor
 ·intro e;rcases B8 (jr h i) with⟨_,h2⟩|h2
  ·have h3:bX m i=m:=I6.ext' h2;rw[h3] at h1;have h6:gM m m 6=(i:Int):=h1;omega
  ·rw[e] at h2;have h6:gM m z6 6=rk m (bX m i)+1:=h2;rw[KW,h1] at h6;omega
 ·intro e;rcases B8 (jr h i) with⟨h2,_⟩|h2
  ·exact h2
  ·exfalso
   have h7:=vn (GM (jr h i)) 6 (by omega);have h6:gM m (jI (bX m i) m) 6=rk m (bX m i)+1:=h2;rw[h1] at h6;omega
theorem Gt{w0 w:World}{b l:Nat}{m:I6}(hm:I6.Le m 4){R:Nat->aD}{B:aD}(hY:∀ (i:Nat) (w1:World) (Fr:aD),i<aR m->St w0 w1 (star (R i) Fr)->lK prog l #[.agg (bX m i).vs.toArray] w1 λ g w2=>g=true/\St w0 w2 (star (R (i+1)) Fr))(h:St w0 w (star (R 0) (star (ai b m.vs.toArray 34) B))) :
  CP 203 #[.func (.yield l) #[] #[],.pointer (some ⟨b,0,none⟩)] w (λ r w'=>r=.tuple #[]/\St w0 w' (star (R (aR m)) (star (ai b m.vs.toArray 34) B))):=by
 refine uC ?_;unfold qJ;refine aI ?_;obtain⟨hc0,_,_⟩:=lV hm;have s1:St w0 (w.alloc (.cells z6.vs.toArray 34)) (Sep [ai w.heap.size z6.vs.toArray 34,R 0,ai b m.vs.toArray 34,B]):=h.p4.bO _ _;generalize World.alloc _ _=w1 at s1 ⊢;generalize w.heap.size=r1 at s1 ⊢;refine s1.ay 0 rfl z6.vs rfl (I6.one _) λ w2 s2=>?_;refine⟨λ w3 x=>∃ i,i<aR m/\x=aR m-i/\St w0 w3 (Sep [ai r1 (bX m i).vs.toArray 34,R i,ai b m.vs.toArray 34,B]),⟨aR m,0,hc0,by omega,s2⟩,?_⟩;rintro w3 x ⟨i,hi,rfl,s3⟩ -;refine⟨_,s3.cellsIn 0 rfl,?_⟩;have s3' : St w0 w3 (star (R i) (Sep [ai r1 (bX m i).vs.toArray 34,ai b m.vs.toArray 34,B])):=s3.out 1 rfl;have hy:=hY i w3 _ hi s3';obtain⟨fn,tmps,asg,bdy,hrun,hR⟩:=hy;refine⟨fn,tmps,asg,bdy,hrun,hR.mono λ e w4 ⟨g,he,hg,s4⟩=>⟨g,he,g,rfl,?_⟩⟩;subst hg;have s5:St w0 w4 (Sep [R (i+1),ai r1 (bX m i).vs.toArray 34,ai b m.vs.toArray 34,B]):=s4;refine cT rfl ⟨_,s5.cellsIn 1 rfl,_,s5.cellsIn 2 rfl,aj (Dz w4 (jr hm i)) ?_⟩;rintro v w5 ⟨rfl,c5⟩;refine⟨_,rfl,(s5.quiet c5).ay 1 rfl _ rfl (I6.one _) λ w6 s6=>⟨_,s6.cellsIn 1 rfl,?_⟩⟩;have s6' : St w0 w6 (Sep [R (i+1),ai r1 (jI (bX m i) m).vs.toArray 34,ai b m.vs.toArray 34,B]):=s6
 by_cases hz:jI (bX m i) m=z6
 ·have e:=(C8 hm hi).1 hz;rw[<- e];exact cT (by rw[hz]; rfl) ⟨rfl,(s6'.au [0,2,3]).triple⟩
 ·refine cF (by rw[I6.beq_eq]; exact dF hz) ⟨aR m-(i+1),by omega,i+1,?_,rfl,s6'.au [1,0,2,3]⟩;have:i+1≠aR m:=λ e=>hz ((C8 hm hi).2 e);omega
theorem N3{w0 w:World}{A:aD}(s:St w0 w A)(m:I6)(hm:I6.Le m 4)(hp:pr m.l<=1024):CP 107 #[.agg m.vs.toArray] w (λ r w'=>∃ b,r=.func (.func 203) #[] #[.pointer (some ⟨b,0,none⟩)]/\St w0 w' (star (ai b m.vs.toArray 34) A)):=by
 refine zZ ?_;unfold xX;refine aI ?_;have s1:=s.one.bO m.vs.toArray 34;generalize World.alloc _ _=w1 at s1 ⊢;generalize w.heap.size=r1 at s1 ⊢;refine⟨_,s1.cellsIn 0 rfl,aj (xw w1 m) ?_⟩;rintro v w2 ⟨rfl,c2⟩;refine⟨_,rfl,?_⟩;have h1:=(oQ (leq hm)).1;rw[if_pos ⟨leq hm,hp⟩];have s2:=s1.quiet c2;refine cF (by simp; omega) ⟨_,s2.cellsIn 0 rfl,?_⟩;refine aj (K:=λ r w'=>∃ b,r=.func (.func 203) #[] #[.pointer (some ⟨b,0,none⟩)]/\St w0 w' (star (ai b m.vs.toArray 34) A)) (ye ?_) ?_
 ·unfold vK;exact aI ⟨_,rfl,((s2.au [1]).bO m.vs.toArray 34).pair⟩
 ·exact λ v w' h=>⟨v,rfl,h⟩
