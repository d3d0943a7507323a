import Derived.Shelf.Strings.Builder1
import Derived.Shelf.Strings.Builder2
import Derived.Shelf.Strings.OnBuilder
import Derived.Shelf.Small.Utf8
import Derived.Shelf.Small.Strs
import Derived.Shelf.Strconv.Atoi
import Derived.Shelf.Strconv.Itoa0
import Derived.Shelf.Strconv.Itoa1
import Derived.Shelf.LaysM
import Derived.Shelf.Strconv.Itoa2
import Derived.Shelf.Strconv.Itoa3
import Derived.Shelf.Strconv.Itoa4
import Derived.Shelf.Strings.Search1
import Derived.Shelf.Strings.Search2
import Derived.Shelf.Strings.Search3
import Derived.Shelf.Strings.Count
import Derived.Shelf.Strings.Shaped
import Derived.Shelf.Strings.Split
import Derived.Shelf.Strings.Runes
import Derived.Shelf.Unicode.DecodeSlow
import Derived.Test.YtpihmghnbplohaaGreatDoorProg
import Derived.KernelRfl
import Derived.WalkMore
import Derived.Outline
import Derived.RegionTactic
import Derived.Deep.RegionWith
import Derived.Scope
import Derived.Test.YtpihmghnbplohaaGreatDoorM02
import Derived.Test.YtpihmghnbplohaaGreatDoorM06
set_option linter.unusedVariables false
set_option maxRecDepth 100000
namespace Go.Proofs
open Go.Shelf
def Tryz.DE:Go.Shelf.Ren:=⟨fun | 221=>171 | 268=>217 | 138=>218 | 143=>219 | 195=>260 | 197=>261 | 218=>262 | 219=>263 | 260=>287 | 217=>288 | 225=>289 | 224=>290 | 267=>291 | 266=>301 | 314=>302 | n=>n,fun | 9=>9 | 3=>3 | 31=>25 | 4=>4 | 0=>0 | 105=>381 | 21=>21 | 5=>5 | 46=>167 | 119=>407 | 139=>410 | 138=>409 | 146=>411 | 51=>329 | n=>n,fun | 1=>2 | 3=>5 | 4=>6 | n=>n⟩
theorem Tryz.No:Go.Proofs.Lays.n221 Tryz.prog Tryz.DE:={
  mixed:=by kernel_rfl
  f138:=Tryz.func218.trans (congrArg some (by kernel_rfl))
  f143:=Tryz.func219.trans (congrArg some (by kernel_rfl))
  f195:=Tryz.func260.trans (congrArg some (by kernel_rfl))
  f197:=Tryz.func261.trans (congrArg some (by kernel_rfl))
  f217:=Tryz.func288.trans (congrArg some (by kernel_rfl))
  f218:=Tryz.func262.trans (congrArg some (by kernel_rfl))
  f219:=Tryz.func263.trans (congrArg some (by kernel_rfl))
  f221:=Tryz.func171.trans (congrArg some (by kernel_rfl))
  f224:=Tryz.func290.trans (congrArg some (by kernel_rfl))
  f225:=Tryz.func289.trans (congrArg some (by kernel_rfl))
  f260:=Tryz.func287.trans (congrArg some (by kernel_rfl))
  f266:=Tryz.func301.trans (congrArg some (by kernel_rfl))
  f267:=Tryz.func291.trans (congrArg some (by kernel_rfl))
  f268:=Tryz.func217.trans (congrArg some (by kernel_rfl))
  f314:=Tryz.func302.trans (congrArg some (by kernel_rfl))
  t0:=Tryz.underlying0
  a0:=Tryz.isAgg0
  z0:=Tryz.sizeOf0
  v0:=Tryz.zeroValue0
  t3:=Tryz.underlying3
  a3:=Tryz.isAgg3
  z3:=Tryz.sizeOf3
  v3:=Tryz.zeroValue3
  t4:=Tryz.underlying4
  a4:=Tryz.isAgg4
  z4:=Tryz.sizeOf4
  v4:=Tryz.zeroValue4
  t5:=Tryz.underlying5
  a5:=Tryz.isAgg5
  z5:=Tryz.sizeOf5
  v5:=Tryz.zeroValue5
  t9:=Tryz.underlying9
  a9:=Tryz.isAgg9
  z9:=Tryz.sizeOf9
  v9:=Tryz.zeroValue9
  t21:=Tryz.underlying21
  a21:=Tryz.isAgg21
  z21:=Tryz.sizeOf21
  v21:=Tryz.zeroValue21
  t31:=Tryz.underlying25
  a31:=Tryz.isAgg25
  z31:=Tryz.sizeOf25
  v31:=Tryz.zeroValue25
  t46:=Tryz.underlying167
  a46:=Tryz.isAgg167
  z46:=Tryz.sizeOf167
  v46:=Tryz.zeroValue167
  t51:=Tryz.underlying329
  a51:=Tryz.isAgg329
  z51:=Tryz.sizeOf329
  v51:=Tryz.zeroValue329
  t105:=Tryz.underlying381
  a105:=Tryz.isAgg381
  z105:=Tryz.sizeOf381
  v105:=Tryz.zeroValue381
  t119:=Tryz.underlying407
  a119:=Tryz.isAgg407
  z119:=Tryz.sizeOf407
  t138:=Tryz.underlying409
  a138:=Tryz.isAgg409
  z138:=Tryz.sizeOf409
  v138:=Tryz.zeroValue409
  t139:=Tryz.underlying410
  a139:=Tryz.isAgg410
  z139:=Tryz.sizeOf410
  v139:=Tryz.zeroValue410
  t146:=Tryz.underlying411
  a146:=Tryz.isAgg411
  z146:=Tryz.sizeOf411
  v146:=Tryz.zeroValue411
  g1:=by kernel_rfl
  g3:=by kernel_rfl
  g4:=by kernel_rfl }
def Tryz.DD:Go.Shelf.Ren:=⟨fun | 172=>264 | 244=>292 | 245=>293 | 247=>303 | 279=>304 | 280=>305 | 281=>306 | 282=>307 | 287=>311 | 316=>312 | 171=>100 | 205=>313 | 321=>314 | 322=>315 | 243=>132 | 246=>133 | 283=>159 | 284=>160 | 285=>161 | 286=>162 | 129=>208 | 317=>207 | 318=>209 | 319=>210 | 320=>211 | 337=>257 | 338=>258 | n=>n,fun | 9=>9 | 3=>3 | 75=>141 | 76=>188 | 4=>4 | 5=>5 | 167=>413 | 37=>125 | 0=>0 | 85=>414 | 2=>2 | 168=>416 | 53=>37 | 175=>420 | 46=>167 | 210=>423 | 127=>221 | 145=>428 | 143=>426 | 21=>21 | 171=>259 | 173=>262 | 212=>328 | 51=>329 | 20=>20 | 213=>330 | 232=>401 | 233=>402 | 80=>192 | n=>n,fun | 15=>7 | 16=>8 | 17=>1 | 18=>3 | 19=>4 | n=>n⟩
theorem Tryz.Nn:Go.Proofs.Lays.n172 Tryz.prog Tryz.DD:={
  mixed:=by kernel_rfl
  f129:=Tryz.func208.trans (congrArg some (by kernel_rfl))
  f171:=Tryz.func100.trans (congrArg some (by kernel_rfl))
  f172:=Tryz.func264.trans (congrArg some (by kernel_rfl))
  f205:=Tryz.func313.trans (congrArg some (by kernel_rfl))
  f243:=Tryz.func132.trans (congrArg some (by kernel_rfl))
  f244:=Tryz.func292.trans (congrArg some (by kernel_rfl))
  f245:=Tryz.func293.trans (congrArg some (by kernel_rfl))
  f246:=Tryz.func133.trans (congrArg some (by kernel_rfl))
  f247:=Tryz.func303.trans (congrArg some (by kernel_rfl))
  f279:=Tryz.func304.trans (congrArg some (by kernel_rfl))
  f280:=Tryz.func305.trans (congrArg some (by kernel_rfl))
  f281:=Tryz.func306.trans (congrArg some (by kernel_rfl))
  f282:=Tryz.func307.trans (congrArg some (by kernel_rfl))
  f283:=Tryz.func159.trans (congrArg some (by kernel_rfl))
  f284:=Tryz.func160.trans (congrArg some (by kernel_rfl))
  f285:=Tryz.func161.trans (congrArg some (by kernel_rfl))
  f286:=Tryz.func162.trans (congrArg some (by kernel_rfl))
  f287:=Tryz.func311.trans (congrArg some (by kernel_rfl))
  f316:=Tryz.func312.trans (congrArg some (by kernel_rfl))
  f317:=Tryz.func207.trans (congrArg some (by kernel_rfl))
  f318:=Tryz.func209.trans (congrArg some (by kernel_rfl))
  f319:=Tryz.func210.trans (congrArg some (by kernel_rfl))
  f320:=Tryz.func211.trans (congrArg some (by kernel_rfl))
  f321:=Tryz.func314.trans (congrArg some (by kernel_rfl))
  f322:=Tryz.func315.trans (congrArg some (by kernel_rfl))
  f337:=Tryz.func257.trans (congrArg some (by kernel_rfl))
  f338:=Tryz.func258.trans (congrArg some (by kernel_rfl))
  t0:=Tryz.underlying0
  a0:=Tryz.isAgg0
  z0:=Tryz.sizeOf0
  v0:=Tryz.zeroValue0
  t2:=Tryz.underlying2
  a2:=Tryz.isAgg2
  z2:=Tryz.sizeOf2
  v2:=Tryz.zeroValue2
  t3:=Tryz.underlying3
  a3:=Tryz.isAgg3
  z3:=Tryz.sizeOf3
  v3:=Tryz.zeroValue3
  t4:=Tryz.underlying4
  a4:=Tryz.isAgg4
  z4:=Tryz.sizeOf4
  v4:=Tryz.zeroValue4
  t5:=Tryz.underlying5
  a5:=Tryz.isAgg5
  z5:=Tryz.sizeOf5
  v5:=Tryz.zeroValue5
  t9:=Tryz.underlying9
  a9:=Tryz.isAgg9
  z9:=Tryz.sizeOf9
  v9:=Tryz.zeroValue9
  t20:=Tryz.underlying20
  a20:=Tryz.isAgg20
  z20:=Tryz.sizeOf20
  v20:=Tryz.zeroValue20
  t21:=Tryz.underlying21
  a21:=Tryz.isAgg21
  z21:=Tryz.sizeOf21
  v21:=Tryz.zeroValue21
  t37:=Tryz.underlying125
  a37:=Tryz.isAgg125
  z37:=Tryz.sizeOf125
  v37:=Tryz.zeroValue125
  t46:=Tryz.underlying167
  a46:=Tryz.isAgg167
  z46:=Tryz.sizeOf167
  v46:=Tryz.zeroValue167
  t51:=Tryz.underlying329
  a51:=Tryz.isAgg329
  z51:=Tryz.sizeOf329
  v51:=Tryz.zeroValue329
  t53:=Tryz.underlying37
  a53:=Tryz.isAgg37
  z53:=Tryz.sizeOf37
  v53:=Tryz.zeroValue37
  t75:=Tryz.underlying141
  a75:=Tryz.isAgg141
  z75:=Tryz.sizeOf141
  v75:=Tryz.zeroValue141
  t76:=Tryz.underlying188
  a76:=Tryz.isAgg188
  z76:=Tryz.sizeOf188
  v76:=Tryz.zeroValue188
  t85:=Tryz.underlying414
  a85:=Tryz.isAgg414
  z85:=Tryz.sizeOf414
  v85:=Tryz.zeroValue414
  t127:=Tryz.underlying221
  a127:=Tryz.isAgg221
  z127:=Tryz.sizeOf221
  v127:=Tryz.zeroValue221
  t143:=Tryz.underlying426
  a143:=Tryz.isAgg426
  z143:=Tryz.sizeOf426
  v143:=Tryz.zeroValue426
  t145:=Tryz.underlying428
  a145:=Tryz.isAgg428
  z145:=Tryz.sizeOf428
  v145:=Tryz.zeroValue428
  t167:=Tryz.underlying413
  a167:=Tryz.isAgg413
  z167:=Tryz.sizeOf413
  v167:=Tryz.zeroValue413
  t168:=Tryz.underlying416
  a168:=Tryz.isAgg416
  z168:=Tryz.sizeOf416
  v168:=Tryz.zeroValue416
  t171:=Tryz.underlying259
  a171:=Tryz.isAgg259
  z171:=Tryz.sizeOf259
  v171:=Tryz.zeroValue259
  t173:=Tryz.underlying262
  a173:=Tryz.isAgg262
  z173:=Tryz.sizeOf262
  v173:=Tryz.zeroValue262
  t175:=Tryz.underlying420
  a175:=Tryz.isAgg420
  z175:=Tryz.sizeOf420
  v175:=Tryz.zeroValue420
  t210:=Tryz.underlying423
  a210:=Tryz.isAgg423
  z210:=Tryz.sizeOf423
  v210:=Tryz.zeroValue423
  t212:=Tryz.underlying328
  a212:=Tryz.isAgg328
  z212:=Tryz.sizeOf328
  v212:=Tryz.zeroValue328
  t213:=Tryz.underlying330
  a213:=Tryz.isAgg330
  z213:=Tryz.sizeOf330
  t232:=Tryz.underlying401
  a232:=Tryz.isAgg401
  z232:=Tryz.sizeOf401
  v232:=Tryz.zeroValue401
  t233:=Tryz.underlying402
  a233:=Tryz.isAgg402
  z233:=Tryz.sizeOf402
  v233:=Tryz.zeroValue402
  g15:=by kernel_rfl
  g16:=by kernel_rfl
  g17:=by kernel_rfl
  g18:=by kernel_rfl
  g19:=by kernel_rfl }
open Go.RowKit in
theorem Tryz.strconv_Atoi(s:ByteArray)(n:Int)(hl:s.size<=18)(h:Lib.atoi s.data.toList=some n)(w:World) :
    Calls Tryz.prog 264 #[.string s] w λ e w'=>e=.returned (.tuple #[.int .i64 n,.nilIface])/\∃ t,w' = Lib.bytesWorld w 5 t:=Any.strconv_Atoi Tryz.Nn s n hl h w
def Tryz.DC:Go.Shelf.Ren:=⟨fun | 151=>271 | 152=>296 | 137=>308 | 119=>309 | 224=>290 | 225=>289 | 217=>288 | 266=>301 | n=>n,fun | 9=>9 | 21=>21 | 4=>4 | 3=>3 | 5=>5 | 0=>0 | 46=>167 | n=>n,fun | n=>n⟩
theorem Tryz.Nl:Go.Proofs.Lays.n151 Tryz.prog Tryz.DC:={
  mixed:=by kernel_rfl
  f119:=Tryz.func309.trans (congrArg some (by kernel_rfl))
  f137:=Tryz.func308.trans (congrArg some (by kernel_rfl))
  f151:=Tryz.func271.trans (congrArg some (by kernel_rfl))
  f152:=Tryz.func296.trans (congrArg some (by kernel_rfl))
  f217:=Tryz.func288.trans (congrArg some (by kernel_rfl))
  f224:=Tryz.func290.trans (congrArg some (by kernel_rfl))
  f225:=Tryz.func289.trans (congrArg some (by kernel_rfl))
  f266:=Tryz.func301.trans (congrArg some (by kernel_rfl))
  t0:=Tryz.underlying0
  a0:=Tryz.isAgg0
  z0:=Tryz.sizeOf0
  v0:=Tryz.zeroValue0
  t3:=Tryz.underlying3
  a3:=Tryz.isAgg3
  z3:=Tryz.sizeOf3
  v3:=Tryz.zeroValue3
  t4:=Tryz.underlying4
  a4:=Tryz.isAgg4
  z4:=Tryz.sizeOf4
  v4:=Tryz.zeroValue4
  t5:=Tryz.underlying5
  a5:=Tryz.isAgg5
  z5:=Tryz.sizeOf5
  v5:=Tryz.zeroValue5
  t9:=Tryz.underlying9
  a9:=Tryz.isAgg9
  z9:=Tryz.sizeOf9
  v9:=Tryz.zeroValue9
  t21:=Tryz.underlying21
  a21:=Tryz.isAgg21
  z21:=Tryz.sizeOf21
  v21:=Tryz.zeroValue21
  t46:=Tryz.underlying167
  a46:=Tryz.isAgg167
  z46:=Tryz.sizeOf167
  v46:=Tryz.zeroValue167 }
open Go.RowKit Go.Lib in
theorem Tryz.strings_ContainsRune_ascii(s:ByteArray)(r:Int)(w:World)(h0:0<=r)(h1:r<128) :
    Calls Tryz.prog 271 #[.string s,.int .i32 r] w λ e w'=>e=.returned (.bool (decide (0<=Lib.indexByte s.data.toList r.toNat.toUInt8)))/\w' = w:=Any.strings_ContainsRune_ascii Tryz.Nl s r w h0 h1
def Tryz.DA:Go.Shelf.Ren:=⟨fun | 138=>218 | 195=>260 | 218=>262 | 143=>219 | 219=>263 | 217=>288 | 225=>289 | 224=>290 | 267=>291 | 266=>301 | 314=>302 | n=>n,fun | 9=>9 | 3=>3 | 4=>4 | 5=>5 | 0=>0 | 46=>167 | 146=>411 | 51=>329 | n=>n,fun | 1=>2 | n=>n⟩
theorem Tryz.Nj:Go.Proofs.Lays.n138 Tryz.prog Tryz.DA:={
  mixed:=by kernel_rfl
  f138:=Tryz.func218.trans (congrArg some (by kernel_rfl))
  f143:=Tryz.func219.trans (congrArg some (by kernel_rfl))
  f195:=Tryz.func260.trans (congrArg some (by kernel_rfl))
  f217:=Tryz.func288.trans (congrArg some (by kernel_rfl))
  f218:=Tryz.func262.trans (congrArg some (by kernel_rfl))
  f219:=Tryz.func263.trans (congrArg some (by kernel_rfl))
  f224:=Tryz.func290.trans (congrArg some (by kernel_rfl))
  f225:=Tryz.func289.trans (congrArg some (by kernel_rfl))
  f266:=Tryz.func301.trans (congrArg some (by kernel_rfl))
  f267:=Tryz.func291.trans (congrArg some (by kernel_rfl))
  f314:=Tryz.func302.trans (congrArg some (by kernel_rfl))
  t0:=Tryz.underlying0
  a0:=Tryz.isAgg0
  z0:=Tryz.sizeOf0
  v0:=Tryz.zeroValue0
  t3:=Tryz.underlying3
  a3:=Tryz.isAgg3
  z3:=Tryz.sizeOf3
  v3:=Tryz.zeroValue3
  t4:=Tryz.underlying4
  a4:=Tryz.isAgg4
  z4:=Tryz.sizeOf4
  v4:=Tryz.zeroValue4
  t5:=Tryz.underlying5
  a5:=Tryz.isAgg5
  z5:=Tryz.sizeOf5
  v5:=Tryz.zeroValue5
  t9:=Tryz.underlying9
  a9:=Tryz.isAgg9
  z9:=Tryz.sizeOf9
  v9:=Tryz.zeroValue9
  t46:=Tryz.underlying167
  a46:=Tryz.isAgg167
  z46:=Tryz.sizeOf167
  v46:=Tryz.zeroValue167
  t51:=Tryz.underlying329
  a51:=Tryz.isAgg329
  z51:=Tryz.sizeOf329
  v51:=Tryz.zeroValue329
  t146:=Tryz.underlying411
  a146:=Tryz.isAgg411
  z146:=Tryz.sizeOf411
  v146:=Tryz.zeroValue411
  g1:=by kernel_rfl }
open Go.RowKit Go.Lib in
theorem Tryz.strings_Count_one(s:ByteArray)(c:UInt8)(w:World) :
    Calls Tryz.prog 218 #[.string s,.string ⟨#[c]⟩] w λ e w'=>e=.returned (.int .i64 (Lib.countByte s.data.toList c))/\w' = w:=Any.strings_Count_one Tryz.Nj s c w
def Tryz.Dz:Go.Shelf.Ren:=⟨fun | 137=>308 | 217=>288 | 266=>301 | n=>n,fun | 9=>9 | 5=>5 | 3=>3 | n=>n,fun | n=>n⟩
theorem Tryz.Ni:Go.Proofs.Lays.n137 Tryz.prog Tryz.Dz:={
  mixed:=by kernel_rfl
  f137:=Tryz.func308.trans (congrArg some (by kernel_rfl))
  f217:=Tryz.func288.trans (congrArg some (by kernel_rfl))
  f266:=Tryz.func301.trans (congrArg some (by kernel_rfl))
  t3:=Tryz.underlying3
  a3:=Tryz.isAgg3
  z3:=Tryz.sizeOf3
  v3:=Tryz.zeroValue3
  t5:=Tryz.underlying5
  a5:=Tryz.isAgg5
  z5:=Tryz.sizeOf5
  v5:=Tryz.zeroValue5
  t9:=Tryz.underlying9
  a9:=Tryz.isAgg9
  z9:=Tryz.sizeOf9
  v9:=Tryz.zeroValue9 }
open Go.RowKit in
theorem Tryz.strings_IndexByte(s:ByteArray)(c:Int)(w:World) :
    Calls Tryz.prog 308 #[.string s,.int .u8 c] w λ e w'=>e=.returned (.int .i64 (Lib.indexByte s.data.toList c.toNat.toUInt8))/\w' = w:=Any.strings_IndexByte Tryz.Ni s c w
def Tryz.DB:Go.Shelf.Ren:=⟨fun | 143=>219 | 219=>263 | 217=>288 | 225=>289 | 224=>290 | 267=>291 | 266=>301 | 314=>302 | n=>n,fun | 9=>9 | 3=>3 | 4=>4 | 5=>5 | 46=>167 | 146=>411 | 51=>329 | n=>n,fun | 1=>2 | n=>n⟩
theorem Tryz.Nk:Go.Proofs.Lays.n143 Tryz.prog Tryz.DB:={
  mixed:=by kernel_rfl
  f143:=Tryz.func219.trans (congrArg some (by kernel_rfl))
  f217:=Tryz.func288.trans (congrArg some (by kernel_rfl))
  f219:=Tryz.func263.trans (congrArg some (by kernel_rfl))
  f224:=Tryz.func290.trans (congrArg some (by kernel_rfl))
  f225:=Tryz.func289.trans (congrArg some (by kernel_rfl))
  f266:=Tryz.func301.trans (congrArg some (by kernel_rfl))
  f267:=Tryz.func291.trans (congrArg some (by kernel_rfl))
  f314:=Tryz.func302.trans (congrArg some (by kernel_rfl))
  t3:=Tryz.underlying3
  a3:=Tryz.isAgg3
  z3:=Tryz.sizeOf3
  v3:=Tryz.zeroValue3
  t4:=Tryz.underlying4
  a4:=Tryz.isAgg4
  z4:=Tryz.sizeOf4
  v4:=Tryz.zeroValue4
  t5:=Tryz.underlying5
  a5:=Tryz.isAgg5
  z5:=Tryz.sizeOf5
  v5:=Tryz.zeroValue5
  t9:=Tryz.underlying9
  a9:=Tryz.isAgg9
  z9:=Tryz.sizeOf9
  v9:=Tryz.zeroValue9
  t46:=Tryz.underlying167
  a46:=Tryz.isAgg167
  z46:=Tryz.sizeOf167
  v46:=Tryz.zeroValue167
  t51:=Tryz.underlying329
  a51:=Tryz.isAgg329
  z51:=Tryz.sizeOf329
  v51:=Tryz.zeroValue329
  t146:=Tryz.underlying411
  a146:=Tryz.isAgg411
  z146:=Tryz.sizeOf411
  v146:=Tryz.zeroValue411
  g1:=by kernel_rfl }
open Go.RowKit Go.Lib in
theorem Tryz.strings_Index_one(s:ByteArray)(c:UInt8)(w:World) :
    Calls Tryz.prog 219 #[.string s,.string ⟨#[c]⟩] w λ e w'=>e=.returned (.int .i64 (Lib.indexByte s.data.toList c))/\w' = w:=Any.strings_Index_one Tryz.Nk s c w
def Tryz.Dy:Go.Shelf.Ren:=⟨fun | 119=>309 | n=>n,fun | 21=>21 | 4=>4 | n=>n,fun | n=>n⟩
theorem Tryz.Nh:Go.Proofs.Lays.n119 Tryz.prog Tryz.Dy:={
  mixed:=by kernel_rfl
  f119:=Tryz.func309.trans (congrArg some (by kernel_rfl))
  t4:=Tryz.underlying4
  a4:=Tryz.isAgg4
  z4:=Tryz.sizeOf4
  v4:=Tryz.zeroValue4
  t21:=Tryz.underlying21
  a21:=Tryz.isAgg21
  z21:=Tryz.sizeOf21
  v21:=Tryz.zeroValue21 }
theorem Tryz.utf8_ValidRune(r:Int)(w:World) :
    Calls Tryz.prog 309 #[.int .i32 r] w λ e w'=>e=.returned (.bool (Lib.validRune r))/\w' = w:=Any.utf8_ValidRune Tryz.Nh r w
end Go.Proofs
namespace Go.Proofs.YtpihmghnbplohaaGreatDoor
open Go Go.Vc Tryz
def gJ(a:ByteArray)(b:Int)(w:World)(K:KP):Prop:=Calls prog 296 #[.string a,.int .i32 b] w λ a b=>∃ c,a=.returned (iv c)/\K (.bool (decide (c>=0))) b
theorem kW{s1 n1 w K}(h:gJ s1 n1 w K):CP 271 #[.string s1,.int .i32 n1] w (K):=ah (ay []) func271 (by kernel_rfl) (by kernel_rfl) h
def marks:List UInt8:=[123,125,40,41,44,58,64,43,45,61]
theorem S7(c:UInt8)(h:128<=c.toNat):∃ a b:UInt8,Utf8.encode (un c)=bs [a,b]/\128<=b.toNat:=by
  have hc:=c.toNat_lt;refine⟨UInt8.ofNat (0xC0+c.toNat / 64),UInt8.ofNat (0x80+c.toNat%64),?_,?_⟩
  · have hv:Utf8.valid (un c)=true:=by
      unfold Utf8.valid un
      simp
      omega
    have h1:(un c).toNat=c.toNat:=by unfold un; exact Int.toNat_natCast _
    unfold Utf8.encode;simp only[hv,if_true,h1];rw[if_neg (by omega),if_pos (by omega)];rfl
  · rw[UInt8.toNat_ofNat'];omega
open Go.Shelf Go.RowKit Go.Lib in
set_option maxHeartbeats 2000000 in
set_option maxRecDepth 1000000 in
theorem ir(w:World)(n:Int)(h0:0<=n)(h1 : ¬ n<128)(h2:n<256)(h3:(n==65533)=false)(a b:UInt8)(he:Utf8.encode n=⟨#[a,b]⟩)(hv:Lib.validRune n=true)(hb:128<=b.toNat) :
    Calls prog 296 #[.string ⟨#[123,125,40,41,44,58,64,43,45,61]⟩,.int .i32 n] w λ e w'=>e=.returned (.int .i64 (-1))/\az w w' []:=by
  have e289:∀ args w,(callFunc 308 args).run prog w=.ok (.enter 308 args) w:=enters_of func308 (by kernel_rfl) rfl;have e290:∀ args w,(callFunc 309 args).run prog w=.ok (.enter 309 args) w:=enters_of func309 (by kernel_rfl) rfl
  go_enter func296,Tryz.ntmps296
  go_wp2_with (first
    | (go_at_fn 309; refine(Tryz.utf8_ValidRune _ _).mono ?_; rintro e w' ⟨rfl,hw⟩; rw[hw,hv])
    | (go_at_fn 308; refine(Tryz.strings_IndexByte _ _ _).mono ?_; rintro e w' ⟨rfl,hw⟩; rw[hw]))
  have hcv:∀ w,(convert 21 9 (.int .i32 n)).run prog w=.ok (.string ⟨#[a,b]⟩) w:=λ w=>by
    rw[<- he];simp[convert,aI (P:=prog) underlying21,aI (P:=prog) underlying9,Conv.intToString]
  go_step3
  go_wp2_with (first
    | (go_at_fn 308; refine(Tryz.strings_IndexByte _ _ _).mono ?_; rintro e w' ⟨rfl,hw⟩; rw[hw]))
  refine wp_loop_once ?_;have hb2:((125:Int) !=(b.toNat:Int))=true:=by rw[bne_iff_ne]; omega
  have hne:∀ x:UInt8,x.toNat<128->(x==b)=false:=λ x hx=>by rw[beq_eq_false_iff_ne]; rintro rfl; omega
  go_wp2_with (first
    | (go_at_fn 308; refine(Tryz.strings_IndexByte _ _ _).mono ?_; rintro e w' ⟨rfl,hw⟩; rw[hw]))
  all_goals (try go_step3)
  go_wp2_with (first
    | (go_at_fn 308; refine(Tryz.strings_IndexByte _ _ _).mono ?_; rintro e w' ⟨rfl,hw⟩; rw[hw]))
  all_goals go_region
  all_goals go_wp2
  · have hi:Lib.indexByte [40,41,44,58,64,43,45,61] ((⟨#[a,b]⟩:ByteArray)[1]'(by show 1<2; decide))=-1:=by
      show Lib.indexByte [40,41,44,58,64,43,45,61] b=-1;simp[Lib.indexByte,hne 40 (by decide),hne 41 (by decide),hne 44 (by decide),hne 58 (by decide),hne 64 (by decide),hne 43 (by decide),hne 45 (by decide),hne 61 (by decide)]
    have c2:az w w.drew.drew []:=(az.drew w []).trans (az.drew _ []) (by simp)
    go_region_with (go_at_call 308; refine(Tryz.strings_IndexByte _ _ _).mono ?_; rintro e w' ⟨rfl,hw⟩; rw[hw])
    all_goals go_wp2
    all_goals (rw[Exit.noGoto_ret]; show bodyPost prog Tryz.f296 (λ e w'=>e=Ending.returned (Value.int IntKind.i64 (-1))/\az w w' []) Exit.ret _ _; go_ret; exact⟨rfl,c2⟩)
  · exfalso
    first
      | exact absurd hb2 (show ¬ ((125:Int) !=(b.toNat:Int))=true by assumption)
      | exact absurd hb2 (by rw[show((125:Int) !=(b.toNat:Int))=false by assumption]; decide)
      | exact absurd (show(125:Int)=(b.toNat:Int) by assumption) (by omega)
theorem Dp(w:World)(c:UInt8)(h:128<=c.toNat):CP 296 #[sv marks,.int .i32 (un c)] w (λ r w'=>r=iv (-1)/\az w w' []):=by
  obtain⟨a,b,he,hb⟩:=S7 c h;have hc:=c.toNat_lt;have hu:un c=(c.toNat:Int):=rfl;refine Calls.mono (ir w (un c) (by omega) (by omega) (by omega) (by rw[beq_eq_false_iff_ne]; omega) a b he (dT (.inl (by omega))) hb) ?_;rintro e w' ⟨rfl,h⟩;exact⟨_,rfl,rfl,h⟩
theorem Is:∀ n:Nat,n<128->decide (0<=Lib.indexByte marks n.toUInt8)=marks.contains n.toUInt8:=by decide
theorem Fe{c:UInt8}(h:128<=c.toNat):marks.contains c=false:=by
  cases hm:marks.contains c with
  | false=>rfl
  | true =>
    have:c∈marks:=by simpa using hm
    simp only[marks,List.mem_cons,List.mem_nil_iff,or_false] at this;rcases this with rfl | rfl | rfl | rfl | rfl | rfl | rfl | rfl | rfl | rfl<;>revert h<;>decide
theorem ES(w:World)(c:UInt8):CP 271 #[sv marks,.int .i32 (un c)] w (λ r w'=>r=.bool (marks.contains c)/\az w w' []):=by
  rcases Nat.lt_or_ge c.toNat 128 with h | h
  · refine(Tryz.strings_ContainsRune_ascii (bs marks) (un c) w (by unfold un; omega) (by unfold un; omega)).mono ?_;rintro e w1 ⟨rfl,rfl⟩;refine⟨_,rfl,?_,az.refl _ _⟩;have e1:(un c).toNat.toUInt8=c:=by unfold un; rw[Int.toNat_natCast]; exact UInt8.ofNat_toNat
    have:=Is c.toNat h;have e2:c.toNat.toUInt8=c:=UInt8.ofNat_toNat;rw[e2] at this;rw[e1,<- this]; rfl
  · refine kW ?_;unfold gJ;refine aj (Dp w c h) ?_;rintro v w1 ⟨rfl,c1⟩;exact⟨_,rfl,by rw[Fe h]; rfl,c1⟩
structure Tk where
  k:Int
  t:List UInt8
  v:Int
  a:Int
def Tk.cells(x:Tk):List Value:=[iv x.k,sv x.t,iv x.v,iv x.a]
theorem Tk.len(x:Tk):x.cells.length=4:=rfl
theorem Tk.one(x:Tk):∀ v∈x.cells,v.oneCell' = true:=by
  intro v hv; simp[Tk.cells] at hv; rcases hv with rfl | rfl | rfl | rfl<;>rfl
def Tk.val(x:Tk):Value:=.agg x.cells.toArray
def tK:Tk:=⟨0,[],0,0⟩
theorem Ss:gL prog 310 357 tK.val 4 40:=gL.mk' underlying310 (by kernel_rfl) rfl (by decide)
def digits(l:List UInt8):List UInt8:=l.takeWhile λ c=>vK (un c)
def word(l:List UInt8):List UInt8:=l.takeWhile λ c=>inr (un c)
def eX(l:List UInt8)(n:Nat)(c:UInt8):Tk×Int :=
  if Np (un c) then (if 12<(word (l.drop n)).length then (tK,3) else (⟨1,word (l.drop n),0,n⟩,0))
  else if vK (un c) then (if (vZ (digits (l.drop n))).2≠0 then (tK,(vZ (digits (l.drop n))).2) else (⟨2,digits (l.drop n),(vZ (digits (l.drop n))).1,n⟩,0))
  else if marks.contains c then (⟨3,[c],0,n⟩,0) else (tK,2)
theorem L5{p:UInt8->Bool}:∀ (l:List UInt8),(l.takeWhile p).all p=true
  | []=>rfl
  | c :: l=>by
    rw[List.takeWhile_cons]
    split
    · rename_i h; rw[List.all_cons,h,L5 l]; rfl
    · rfl
theorem Qt(w:World){l:List UInt8}(hl:l.length<=4000){n:Nat}{c:UInt8}(hc:l[n]? = some c) :
    CP 231 #[sv l,iv n] w (λ r w'=>r=.tuple #[(eX l n c).1.val,iv (eX l n c).2]/\az w w' []):=by
  refine BX ?_;unfold Ao;have hn:=(List.getElem?_eq_some_iff.1 hc).1;refine(St.start w).one.ax tK.cells.toArray λ r1 w1 s1=>s1.ax tK.cells.toArray λ r2 w2 s2=>s2.aA 0 rfl (Tk.mk 0 [] 0 n).cells rfl (Tk.one _) λ w3 s3=>?_;refine⟨λ w4=>(eX l n c).2=0/\St w w4 (Sep [ai r2 (eX l n c).1.cells.toArray 357,ai r1 tK.cells.toArray 357,emp]),?_,by omega,?_⟩
  · rintro w4 ⟨h0,s4⟩ -;exact⟨_,_,_,_,s4.cellsIn 0 rfl,s4.aA 1 rfl (eX l n c).1.cells rfl (Tk.one _) λ w5 s5=>⟨_,_,_,_,s5.cellsIn 1 rfl,by rw[h0]; rfl,s5.av⟩⟩
  rw[Int.toNat_natCast,jY,hc];show an (some c) _;rw[an,wrap32];refine aj (yl w3 (un c)) ?_;rintro v _ ⟨rfl,rfl⟩;refine⟨_,rfl,?_⟩;have fail:∀ {e:Int} {w' : World},St w w' (Sep [ai r2 (Tk.mk 0 [] 0 n).cells.toArray 357,ai r1 tK.cells.toArray 357,emp])->True:=λ _=>trivial;clear fail
  cases h1:Np (un c) with
  | true =>
    have e1:eX l n c=if 12<(word (l.drop n)).length then (tK,3) else (⟨1,word (l.drop n),0,n⟩,0):=by rw[eX,if_pos h1]
    refine cT rfl (aj (Lt _ (by omega) (p:=λ c=>inr (un c)) Nc (by omega)) ?_);rintro v w7 ⟨rfl,rfl⟩;refine⟨_,rfl,s3.aH 0 rfl (j:=0) (show 0<4 by decide) rfl λ w8 s8=>s8.aH 0 rfl (j:=1) (show 1<4 by decide) rfl λ w9 s9=>⟨_,s9.ag 0 rfl 1,?_⟩⟩;show cond (decide ((((bs (word (l.drop n))).size:Nat):Int)>12)) _ _;rw[fm]
    by_cases h12:12<(word (l.drop n)).length
    · rw[if_pos h12] at e1;exact cT (dT (by omega)) (s9.aA 1 rfl tK.cells rfl (Tk.one _) λ w10 s10=>⟨0,bs [],0,0,s10.cellsIn 1 rfl,by rw[e1]; rfl,s10.av⟩)
    · rw[if_neg h12] at e1;exact cF (dF (by omega)) ⟨by rw[e1],by rw[e1]; exact s9⟩
  | false =>
  refine cF rfl (aj (BC _ (un c)) ?_);rintro v _ ⟨rfl,rfl⟩;refine⟨_,rfl,?_⟩
  cases h2:vK (un c) with
  | true =>
    have e1:eX l n c=if (vZ (digits (l.drop n))).2≠0 then (tK,(vZ (digits (l.drop n))).2) else (⟨2,digits (l.drop n),(vZ (digits (l.drop n))).1,n⟩,0):=by rw[eX,if_neg (by rw[h1]; decide),if_pos h2]
    refine cT rfl (aj (Lt _ (by omega) (p:=λ c=>vK (un c)) MU (by omega)) ?_);rintro v w7 ⟨rfl,rfl⟩;refine⟨_,rfl,s3.aH 0 rfl (j:=0) (show 0<4 by decide) rfl λ w8 s8=>s8.aH 0 rfl (j:=1) (show 1<4 by decide) rfl λ w9 s9=>⟨_,s9.ag 0 rfl 1,?_⟩⟩;have hdl:(digits (l.drop n)).length<=4000:=Nat.le_trans (List.takeWhile_prefix _).length_le (by rw[List.length_drop]; omega);refine aj (KX w9 (l:=digits (l.drop n)) (L5 _) (by omega)) ?_;rintro v _ ⟨rfl,rfl⟩;refine⟨_,_,rfl,?_⟩
    by_cases h3:(vZ (digits (l.drop n))).2=0
    · rw[if_neg (by simpa using h3)] at e1;exact cF (by rw[h3]; rfl) (s9.aH 0 rfl (j:=2) (show 2<4 by decide) rfl λ w10 s10=>⟨by rw[e1],by rw[e1]; exact s10⟩)
    · rw[if_pos h3] at e1;exact cT (by simpa using h3) (s9.aA 1 rfl tK.cells rfl (Tk.one _) λ w10 s10=>⟨0,bs [],0,0,s10.cellsIn 1 rfl,by rw[e1]; rfl,s10.av⟩)
  | false =>
  refine cF rfl (aj (ES _ c) ?_);rintro v w18 ⟨rfl,c18⟩;have s18:=s3.quiet c18;refine⟨_,rfl,?_⟩
  cases h3:marks.contains c with
  | true =>
    have e1:eX l n c=(⟨3,[c],0,n⟩,0):=by rw[eX,if_neg (by rw[h1]; decide),if_neg (by rw[h2]; decide),if_pos h3]
    have e2:IntKind.i64.wrap ((n:Int)+1)=((n+1:Nat):Int):=by rw[aC ⟨by omega,by omega⟩]; omega
    have e3:(bs l).extract n (n+1)=bs [c]:=by
      rw[Bn,Nat.add_sub_cancel_left]
      congr 1
      rw[List.take_one,List.head?_drop,hc]; rfl
    rw[e2,fm];simp only[Int.toNat_natCast];rw[e3];refine cT rfl ⟨by omega,by omega,by omega,by omega,?_⟩;exact(s18.quiet (az.drew w18 [])).aH 0 rfl (j:=0) (show 0<4 by decide) rfl λ w8 s8=>s8.aH 0 rfl (j:=1) (show 1<4 by decide) rfl λ w9 s9=>⟨by rw[e1],by rw[e1]; exact s9⟩
  | false =>
    have e1:eX l n c=(tK,2):=by rw[eX,if_neg (by rw[h1]; decide),if_neg (by rw[h2]; decide),if_neg (by rw[h3]; decide)]
    exact cF rfl (s18.aA 1 rfl tK.cells rfl (Tk.one _) λ w10 s10=>⟨0,bs [],0,0,s10.cellsIn 1 rfl,by rw[e1]; rfl,s10.av⟩)
theorem KF{l:List UInt8}{n:Nat}{c:UInt8}(hc:l[n]? = some c)(h0:(eX l n c).2=0):1<=(eX l n c).1.t.length/\n+(eX l n c).1.t.length<=l.length:=by
  have hn:=(List.getElem?_eq_some_iff.1 hc).1;have hd:l.drop n=c :: l.drop (n+1):=by rw[List.drop_eq_getElem_cons hn]; congr 1; exact Option.some.inj ((gE hn).symm.trans hc)
  have tw:∀ {p:UInt8->Bool},p c=true->1<=((l.drop n).takeWhile p).length/\n+((l.drop n).takeWhile p).length<=l.length:=λ {p} hp=>by
    have h1:((l.drop n).takeWhile p).length<=(l.drop n).length:=(List.takeWhile_prefix _).length_le;rw[List.length_drop] at h1;refine⟨?_,by omega⟩;rw[hd,List.takeWhile_cons,if_pos hp]; simp
  unfold eX at h0 ⊢
  split
  · rename_i h;rw[if_pos h] at h0
    split
    · rename_i h2; rw[if_pos h2] at h0; cases h0
    · exact tw (p:=λ c=>inr (un c)) (by simp[inr,h])
  · rename_i h;rw[if_neg h] at h0
    split
    · rename_i h2;rw[if_pos h2] at h0
      split
      · rename_i h3; rw[if_pos h3] at h0; exact absurd h0 h3
      · exact tw (p:=λ c=>vK (un c)) h2
    · rename_i h2;rw[if_neg h2] at h0
      split
      · exact⟨Nat.le_refl _,by simp; omega⟩
      · rename_i h3; rw[if_neg h3] at h0; cases h0
def zM(l:List UInt8):Nat->Nat->List Tk->List Tk×Int
  | 0,_,acc=>(acc,0)
  | f+1,n,acc=>match l[n]? with
    | none=>(acc,0)
    | some c=>if c=32 then zM l f (n+1) acc else if (eX l n c).2≠0 then ([],(eX l n c).2) else zM l f (n+(eX l n c).1.t.length) (acc++[(eX l n c).1])
def bM(l:List UInt8):List Tk×Int:=if 4000<l.length then ([],3) else zM l l.length 0 []
theorem L2{w:World}(l:List UInt8) :
    CP 195 #[sv l] w (λ r w'=>∃ a c,r=.tuple #[.slice a (bM l).1.length c,iv (bM l).2]/\St w w' (bW 357 4 Tk.cells a c (bM l).1)):=by
  refine vW ?_;unfold sC;rw[fm]
  by_cases hl:4000<l.length
  · refine cT (dT (by omega)) ⟨none,0,?_⟩;rw[bM,if_pos hl];exact⟨rfl,(St.start w).eZ.first⟩
  refine cF (dF (by omega)) ?_;have e0:bM l=zM l l.length 0 []:=by rw[bM,if_neg hl]
  refine⟨λ a l1 c n w1 m=>∃ (k:Nat) (acc:List Tk),n=k/\k<=l.length/\m=l.length-k/\l1=acc.length/\acc.length<=k/\(∃ f,l.length-k<=f/\zM l f k acc=bM l)/\St w w1 (star (bW 357 4 Tk.cells a c acc) emp),⟨l.length,0,[],rfl,by omega,by omega,rfl,by simp,⟨l.length,by omega,e0.symm⟩,(St.start w).eZ⟩,?_⟩;rintro w1 m a l1 c n ⟨k,acc,rfl,hk,hm,rfl,hac,⟨f,hf,ht⟩,s1⟩ -
  by_cases hlt:k<l.length
  · have hc:l[k]? = some (l[k]'hlt):=gE hlt;generalize l[k]'hlt=x at hc;obtain⟨f,rfl⟩:∃ g,f=g+1:=⟨f-1,by omega⟩;rw[zM,hc] at ht;simp only at ht;refine cT (dT (by omega)) ⟨by omega,?_⟩;rw[Int.toNat_natCast,jY,hc];show cond ((x.toNat:Int)==32) _ _
    by_cases h32:x=32
    · rw[if_pos h32] at ht;exact cT (by rw[h32]; rfl) ⟨l.length-(k+1),by omega,k+1,acc,aC ⟨by omega,by omega⟩,by omega,rfl,rfl,by omega,⟨f,by omega,ht⟩,s1⟩
    rw[if_neg h32] at ht;have hne:(x.toNat:Int)≠32:=λ h=>h32 (UInt8.toNat_inj.1 (by have:(32:UInt8).toNat=32:=rfl; omega));refine cF (by simpa using hne) (aj (Qt w1 (by omega) hc) ?_);rintro v w2 ⟨rfl,c2⟩;have s2:St w w2 (Sep [_]):=s1.quiet c2;refine⟨_,_,_,_,_,rfl,s2.ax tK.cells.toArray λ r1 w3 s3=>s3.aA 0 rfl (eX l k x).1.cells rfl (Tk.one _) λ w4 s4=>?_⟩
    by_cases he:(eX l k x).2=0
    · rw[if_neg (by simpa using he)] at ht;have hol:=KF hc he;refine cF (by rw[he]; rfl) ⟨_,_,_,_,s4.cellsIn 0 rfl,iC Ss Tk.len (x:=(eX l k x).1) (Tk.one _) (s4.out 1 rfl) (by omega) (by omega) (λ a' c' w5 s5=>?_) rfl⟩;have s6:St w w5 (Sep [_,_]):=s5;refine⟨_,s6.ag 1 rfl 1,l.length-(k+(eX l k x).1.t.length),by omega,k+(eX l k x).1.t.length,acc++[(eX l k x).1],?_,hol.2,rfl,rfl,?_,⟨f,by omega,ht⟩,s6.aq [0]⟩
      · rw[fm,aC ⟨by omega,by omega⟩]; omega
      · rw[List.length_append,List.length_singleton]; omega
    · rw[if_pos he] at ht;refine cT (by simpa using he) ⟨none,0,?_⟩;rw[<- ht];exact⟨rfl,(St.start' s4.av).eZ.first⟩
  · have hc:l[k]? = none:=List.getElem?_eq_none (by omega);have e:zM l f k acc=(acc,0):=by
      cases f with
      | zero=>rfl
      | succ f=>rw[zM,hc]
    rw[e] at ht;refine cF (dF (by omega)) ⟨a,c,?_⟩;rw[<- ht];exact⟨rfl,s1.first⟩
end Go.Proofs.YtpihmghnbplohaaGreatDoor
