import Derived.Shelf.Strings.Builder1
import Derived.Shelf.Strings.Builder2
import Derived.Shelf.Strings.OnBuilder
import Derived.Shelf.Small.Utf8
import Derived.Shelf.Small.Strs
import Derived.Shelf.Strconv.Atoi
import Derived.Shelf.Strconv.Itoa0
import Derived.Shelf.Strconv.Itoa1
import Derived.Shelf.LaysM
import Derived.Shelf.Strconv.Itoa2
import Derived.Shelf.Strconv.Itoa3
import Derived.Shelf.Strconv.Itoa4
import Derived.Shelf.Strings.Search1
import Derived.Shelf.Strings.Search2
import Derived.Shelf.Strings.Search3
import Derived.Shelf.Strings.Count
import Derived.Shelf.Strings.Shaped
import Derived.Shelf.Strings.Split
import Derived.Shelf.Strings.Runes
import Derived.Shelf.Unicode.DecodeSlow
import Derived.Test.YtjpbdjhaajdepaaGreatDoorProg
import Derived.KernelRfl
import Derived.WalkMore
import Derived.Outline
import Derived.RegionTactic
import Derived.Deep.RegionWith
import Derived.Scope
import Derived.Test.YtjpbdjhaajdepaaGreatDoorM02
import Derived.Test.YtjpbdjhaajdepaaGreatDoorM06
set_option linter.unusedVariables false
set_option maxRecDepth 100000
namespace Go.Proofs
open Go.Shelf
def Tryz.DQ:Go.Shelf.Ren:=⟨fun | 221=>134 | 268=>170 | 138=>171 | 143=>172 | 195=>209 | 197=>210 | 218=>211 | 219=>212 | 260=>236 | 217=>237 | 225=>238 | 224=>239 | 267=>240 | 266=>250 | 314=>251 | n=>n,fun | 9=>9 | 3=>3 | 31=>94 | 4=>4 | 0=>0 | 105=>308 | 21=>21 | 5=>5 | 46=>171 | 119=>332 | 139=>335 | 138=>334 | 146=>336 | 51=>193 | n=>n,fun | 1=>1 | 3=>4 | 4=>5 | n=>n⟩
theorem Tryz.NT:Go.Proofs.Lays.n221 Tryz.prog Tryz.DQ:={
  mixed:=by kernel_rfl
  f138:=Tryz.func171.trans (congrArg some (by kernel_rfl))
  f143:=Tryz.func172.trans (congrArg some (by kernel_rfl))
  f195:=Tryz.func209.trans (congrArg some (by kernel_rfl))
  f197:=Tryz.func210.trans (congrArg some (by kernel_rfl))
  f217:=Tryz.func237.trans (congrArg some (by kernel_rfl))
  f218:=Tryz.func211.trans (congrArg some (by kernel_rfl))
  f219:=Tryz.func212.trans (congrArg some (by kernel_rfl))
  f221:=Tryz.func134.trans (congrArg some (by kernel_rfl))
  f224:=Tryz.func239.trans (congrArg some (by kernel_rfl))
  f225:=Tryz.func238.trans (congrArg some (by kernel_rfl))
  f260:=Tryz.func236.trans (congrArg some (by kernel_rfl))
  f266:=Tryz.func250.trans (congrArg some (by kernel_rfl))
  f267:=Tryz.func240.trans (congrArg some (by kernel_rfl))
  f268:=Tryz.func170.trans (congrArg some (by kernel_rfl))
  f314:=Tryz.func251.trans (congrArg some (by kernel_rfl))
  t0:=Tryz.underlying0
  a0:=Tryz.isAgg0
  z0:=Tryz.sizeOf0
  v0:=Tryz.zeroValue0
  t3:=Tryz.underlying3
  a3:=Tryz.isAgg3
  z3:=Tryz.sizeOf3
  v3:=Tryz.zeroValue3
  t4:=Tryz.underlying4
  a4:=Tryz.isAgg4
  z4:=Tryz.sizeOf4
  v4:=Tryz.zeroValue4
  t5:=Tryz.underlying5
  a5:=Tryz.isAgg5
  z5:=Tryz.sizeOf5
  v5:=Tryz.zeroValue5
  t9:=Tryz.underlying9
  a9:=Tryz.isAgg9
  z9:=Tryz.sizeOf9
  v9:=Tryz.zeroValue9
  t21:=Tryz.underlying21
  a21:=Tryz.isAgg21
  z21:=Tryz.sizeOf21
  v21:=Tryz.zeroValue21
  t31:=Tryz.underlying94
  a31:=Tryz.isAgg94
  z31:=Tryz.sizeOf94
  v31:=Tryz.zeroValue94
  t46:=Tryz.underlying171
  a46:=Tryz.isAgg171
  z46:=Tryz.sizeOf171
  v46:=Tryz.zeroValue171
  t51:=Tryz.underlying193
  a51:=Tryz.isAgg193
  z51:=Tryz.sizeOf193
  v51:=Tryz.zeroValue193
  t105:=Tryz.underlying308
  a105:=Tryz.isAgg308
  z105:=Tryz.sizeOf308
  v105:=Tryz.zeroValue308
  t119:=Tryz.underlying332
  a119:=Tryz.isAgg332
  z119:=Tryz.sizeOf332
  t138:=Tryz.underlying334
  a138:=Tryz.isAgg334
  z138:=Tryz.sizeOf334
  v138:=Tryz.zeroValue334
  t139:=Tryz.underlying335
  a139:=Tryz.isAgg335
  z139:=Tryz.sizeOf335
  v139:=Tryz.zeroValue335
  t146:=Tryz.underlying336
  a146:=Tryz.isAgg336
  z146:=Tryz.sizeOf336
  v146:=Tryz.zeroValue336
  g1:=by kernel_rfl
  g3:=by kernel_rfl
  g4:=by kernel_rfl }
def Tryz.DP:Go.Shelf.Ren:=⟨fun | 172=>213 | 244=>241 | 245=>242 | 247=>252 | 279=>253 | 280=>254 | 281=>255 | 282=>256 | 287=>260 | 316=>261 | 171=>27 | 205=>262 | 321=>263 | 322=>264 | 243=>54 | 246=>55 | 283=>81 | 284=>82 | 285=>83 | 286=>84 | 129=>106 | 317=>105 | 318=>107 | 319=>108 | 320=>109 | 337=>132 | 338=>133 | n=>n,fun | 9=>9 | 3=>3 | 75=>89 | 76=>90 | 4=>4 | 5=>5 | 167=>338 | 37=>85 | 0=>0 | 85=>339 | 2=>2 | 168=>341 | 53=>43 | 175=>345 | 46=>171 | 210=>348 | 127=>140 | 145=>353 | 143=>351 | 21=>21 | 171=>164 | 173=>167 | 212=>192 | 51=>193 | 20=>20 | 213=>194 | 232=>266 | 233=>267 | 80=>96 | n=>n,fun | 15=>6 | 16=>7 | 17=>0 | 18=>2 | 19=>3 | n=>n⟩
theorem Tryz.NS:Go.Proofs.Lays.n172 Tryz.prog Tryz.DP:={
  mixed:=by kernel_rfl
  f129:=Tryz.func106.trans (congrArg some (by kernel_rfl))
  f171:=Tryz.func27.trans (congrArg some (by kernel_rfl))
  f172:=Tryz.func213.trans (congrArg some (by kernel_rfl))
  f205:=Tryz.func262.trans (congrArg some (by kernel_rfl))
  f243:=Tryz.func54.trans (congrArg some (by kernel_rfl))
  f244:=Tryz.func241.trans (congrArg some (by kernel_rfl))
  f245:=Tryz.func242.trans (congrArg some (by kernel_rfl))
  f246:=Tryz.func55.trans (congrArg some (by kernel_rfl))
  f247:=Tryz.func252.trans (congrArg some (by kernel_rfl))
  f279:=Tryz.func253.trans (congrArg some (by kernel_rfl))
  f280:=Tryz.func254.trans (congrArg some (by kernel_rfl))
  f281:=Tryz.func255.trans (congrArg some (by kernel_rfl))
  f282:=Tryz.func256.trans (congrArg some (by kernel_rfl))
  f283:=Tryz.func81.trans (congrArg some (by kernel_rfl))
  f284:=Tryz.func82.trans (congrArg some (by kernel_rfl))
  f285:=Tryz.func83.trans (congrArg some (by kernel_rfl))
  f286:=Tryz.func84.trans (congrArg some (by kernel_rfl))
  f287:=Tryz.func260.trans (congrArg some (by kernel_rfl))
  f316:=Tryz.func261.trans (congrArg some (by kernel_rfl))
  f317:=Tryz.func105.trans (congrArg some (by kernel_rfl))
  f318:=Tryz.func107.trans (congrArg some (by kernel_rfl))
  f319:=Tryz.func108.trans (congrArg some (by kernel_rfl))
  f320:=Tryz.func109.trans (congrArg some (by kernel_rfl))
  f321:=Tryz.func263.trans (congrArg some (by kernel_rfl))
  f322:=Tryz.func264.trans (congrArg some (by kernel_rfl))
  f337:=Tryz.func132.trans (congrArg some (by kernel_rfl))
  f338:=Tryz.func133.trans (congrArg some (by kernel_rfl))
  t0:=Tryz.underlying0
  a0:=Tryz.isAgg0
  z0:=Tryz.sizeOf0
  v0:=Tryz.zeroValue0
  t2:=Tryz.underlying2
  a2:=Tryz.isAgg2
  z2:=Tryz.sizeOf2
  v2:=Tryz.zeroValue2
  t3:=Tryz.underlying3
  a3:=Tryz.isAgg3
  z3:=Tryz.sizeOf3
  v3:=Tryz.zeroValue3
  t4:=Tryz.underlying4
  a4:=Tryz.isAgg4
  z4:=Tryz.sizeOf4
  v4:=Tryz.zeroValue4
  t5:=Tryz.underlying5
  a5:=Tryz.isAgg5
  z5:=Tryz.sizeOf5
  v5:=Tryz.zeroValue5
  t9:=Tryz.underlying9
  a9:=Tryz.isAgg9
  z9:=Tryz.sizeOf9
  v9:=Tryz.zeroValue9
  t20:=Tryz.underlying20
  a20:=Tryz.isAgg20
  z20:=Tryz.sizeOf20
  v20:=Tryz.zeroValue20
  t21:=Tryz.underlying21
  a21:=Tryz.isAgg21
  z21:=Tryz.sizeOf21
  v21:=Tryz.zeroValue21
  t37:=Tryz.underlying85
  a37:=Tryz.isAgg85
  z37:=Tryz.sizeOf85
  v37:=Tryz.zeroValue85
  t46:=Tryz.underlying171
  a46:=Tryz.isAgg171
  z46:=Tryz.sizeOf171
  v46:=Tryz.zeroValue171
  t51:=Tryz.underlying193
  a51:=Tryz.isAgg193
  z51:=Tryz.sizeOf193
  v51:=Tryz.zeroValue193
  t53:=Tryz.underlying43
  a53:=Tryz.isAgg43
  z53:=Tryz.sizeOf43
  v53:=Tryz.zeroValue43
  t75:=Tryz.underlying89
  a75:=Tryz.isAgg89
  z75:=Tryz.sizeOf89
  v75:=Tryz.zeroValue89
  t76:=Tryz.underlying90
  a76:=Tryz.isAgg90
  z76:=Tryz.sizeOf90
  v76:=Tryz.zeroValue90
  t85:=Tryz.underlying339
  a85:=Tryz.isAgg339
  z85:=Tryz.sizeOf339
  v85:=Tryz.zeroValue339
  t127:=Tryz.underlying140
  a127:=Tryz.isAgg140
  z127:=Tryz.sizeOf140
  v127:=Tryz.zeroValue140
  t143:=Tryz.underlying351
  a143:=Tryz.isAgg351
  z143:=Tryz.sizeOf351
  v143:=Tryz.zeroValue351
  t145:=Tryz.underlying353
  a145:=Tryz.isAgg353
  z145:=Tryz.sizeOf353
  v145:=Tryz.zeroValue353
  t167:=Tryz.underlying338
  a167:=Tryz.isAgg338
  z167:=Tryz.sizeOf338
  v167:=Tryz.zeroValue338
  t168:=Tryz.underlying341
  a168:=Tryz.isAgg341
  z168:=Tryz.sizeOf341
  v168:=Tryz.zeroValue341
  t171:=Tryz.underlying164
  a171:=Tryz.isAgg164
  z171:=Tryz.sizeOf164
  v171:=Tryz.zeroValue164
  t173:=Tryz.underlying167
  a173:=Tryz.isAgg167
  z173:=Tryz.sizeOf167
  v173:=Tryz.zeroValue167
  t175:=Tryz.underlying345
  a175:=Tryz.isAgg345
  z175:=Tryz.sizeOf345
  v175:=Tryz.zeroValue345
  t210:=Tryz.underlying348
  a210:=Tryz.isAgg348
  z210:=Tryz.sizeOf348
  v210:=Tryz.zeroValue348
  t212:=Tryz.underlying192
  a212:=Tryz.isAgg192
  z212:=Tryz.sizeOf192
  v212:=Tryz.zeroValue192
  t213:=Tryz.underlying194
  a213:=Tryz.isAgg194
  z213:=Tryz.sizeOf194
  t232:=Tryz.underlying266
  a232:=Tryz.isAgg266
  z232:=Tryz.sizeOf266
  v232:=Tryz.zeroValue266
  t233:=Tryz.underlying267
  a233:=Tryz.isAgg267
  z233:=Tryz.sizeOf267
  v233:=Tryz.zeroValue267
  g15:=by kernel_rfl
  g16:=by kernel_rfl
  g17:=by kernel_rfl
  g18:=by kernel_rfl
  g19:=by kernel_rfl }
open Go.RowKit in
theorem Tryz.strconv_Atoi(s:ByteArray)(n:Int)(hl:s.size<=18)(h:Lib.atoi s.data.toList=some n)(w:World) :
    Calls Tryz.prog 213 #[.string s] w λ e w'=>e=.returned (.tuple #[.int .i64 n,.nilIface])/\∃ t,w' = Lib.bytesWorld w 5 t:=Any.strconv_Atoi Tryz.NS s n hl h w
def Tryz.DO:Go.Shelf.Ren:=⟨fun | 151=>220 | 152=>245 | 137=>257 | 119=>258 | 224=>239 | 225=>238 | 217=>237 | 266=>250 | n=>n,fun | 9=>9 | 21=>21 | 4=>4 | 3=>3 | 5=>5 | 0=>0 | 46=>171 | n=>n,fun | n=>n⟩
theorem Tryz.NR:Go.Proofs.Lays.n151 Tryz.prog Tryz.DO:={
  mixed:=by kernel_rfl
  f119:=Tryz.func258.trans (congrArg some (by kernel_rfl))
  f137:=Tryz.func257.trans (congrArg some (by kernel_rfl))
  f151:=Tryz.func220.trans (congrArg some (by kernel_rfl))
  f152:=Tryz.func245.trans (congrArg some (by kernel_rfl))
  f217:=Tryz.func237.trans (congrArg some (by kernel_rfl))
  f224:=Tryz.func239.trans (congrArg some (by kernel_rfl))
  f225:=Tryz.func238.trans (congrArg some (by kernel_rfl))
  f266:=Tryz.func250.trans (congrArg some (by kernel_rfl))
  t0:=Tryz.underlying0
  a0:=Tryz.isAgg0
  z0:=Tryz.sizeOf0
  v0:=Tryz.zeroValue0
  t3:=Tryz.underlying3
  a3:=Tryz.isAgg3
  z3:=Tryz.sizeOf3
  v3:=Tryz.zeroValue3
  t4:=Tryz.underlying4
  a4:=Tryz.isAgg4
  z4:=Tryz.sizeOf4
  v4:=Tryz.zeroValue4
  t5:=Tryz.underlying5
  a5:=Tryz.isAgg5
  z5:=Tryz.sizeOf5
  v5:=Tryz.zeroValue5
  t9:=Tryz.underlying9
  a9:=Tryz.isAgg9
  z9:=Tryz.sizeOf9
  v9:=Tryz.zeroValue9
  t21:=Tryz.underlying21
  a21:=Tryz.isAgg21
  z21:=Tryz.sizeOf21
  v21:=Tryz.zeroValue21
  t46:=Tryz.underlying171
  a46:=Tryz.isAgg171
  z46:=Tryz.sizeOf171
  v46:=Tryz.zeroValue171 }
open Go.RowKit Go.Lib in
theorem Tryz.strings_ContainsRune_ascii(s:ByteArray)(r:Int)(w:World)(h0:0<=r)(h1:r<128) :
    Calls Tryz.prog 220 #[.string s,.int .i32 r] w λ e w'=>e=.returned (.bool (decide (0<=Lib.indexByte s.data.toList r.toNat.toUInt8)))/\w' = w:=Any.strings_ContainsRune_ascii Tryz.NR s r w h0 h1
def Tryz.DM:Go.Shelf.Ren:=⟨fun | 138=>171 | 195=>209 | 218=>211 | 143=>172 | 219=>212 | 217=>237 | 225=>238 | 224=>239 | 267=>240 | 266=>250 | 314=>251 | n=>n,fun | 9=>9 | 3=>3 | 4=>4 | 5=>5 | 0=>0 | 46=>171 | 146=>336 | 51=>193 | n=>n,fun | 1=>1 | n=>n⟩
theorem Tryz.NP:Go.Proofs.Lays.n138 Tryz.prog Tryz.DM:={
  mixed:=by kernel_rfl
  f138:=Tryz.func171.trans (congrArg some (by kernel_rfl))
  f143:=Tryz.func172.trans (congrArg some (by kernel_rfl))
  f195:=Tryz.func209.trans (congrArg some (by kernel_rfl))
  f217:=Tryz.func237.trans (congrArg some (by kernel_rfl))
  f218:=Tryz.func211.trans (congrArg some (by kernel_rfl))
  f219:=Tryz.func212.trans (congrArg some (by kernel_rfl))
  f224:=Tryz.func239.trans (congrArg some (by kernel_rfl))
  f225:=Tryz.func238.trans (congrArg some (by kernel_rfl))
  f266:=Tryz.func250.trans (congrArg some (by kernel_rfl))
  f267:=Tryz.func240.trans (congrArg some (by kernel_rfl))
  f314:=Tryz.func251.trans (congrArg some (by kernel_rfl))
  t0:=Tryz.underlying0
  a0:=Tryz.isAgg0
  z0:=Tryz.sizeOf0
  v0:=Tryz.zeroValue0
  t3:=Tryz.underlying3
  a3:=Tryz.isAgg3
  z3:=Tryz.sizeOf3
  v3:=Tryz.zeroValue3
  t4:=Tryz.underlying4
  a4:=Tryz.isAgg4
  z4:=Tryz.sizeOf4
  v4:=Tryz.zeroValue4
  t5:=Tryz.underlying5
  a5:=Tryz.isAgg5
  z5:=Tryz.sizeOf5
  v5:=Tryz.zeroValue5
  t9:=Tryz.underlying9
  a9:=Tryz.isAgg9
  z9:=Tryz.sizeOf9
  v9:=Tryz.zeroValue9
  t46:=Tryz.underlying171
  a46:=Tryz.isAgg171
  z46:=Tryz.sizeOf171
  v46:=Tryz.zeroValue171
  t51:=Tryz.underlying193
  a51:=Tryz.isAgg193
  z51:=Tryz.sizeOf193
  v51:=Tryz.zeroValue193
  t146:=Tryz.underlying336
  a146:=Tryz.isAgg336
  z146:=Tryz.sizeOf336
  v146:=Tryz.zeroValue336
  g1:=by kernel_rfl }
open Go.RowKit Go.Lib in
theorem Tryz.strings_Count_one(s:ByteArray)(c:UInt8)(w:World) :
    Calls Tryz.prog 171 #[.string s,.string ⟨#[c]⟩] w λ e w'=>e=.returned (.int .i64 (Lib.countByte s.data.toList c))/\w' = w:=Any.strings_Count_one Tryz.NP s c w
def Tryz.DL:Go.Shelf.Ren:=⟨fun | 137=>257 | 217=>237 | 266=>250 | n=>n,fun | 9=>9 | 5=>5 | 3=>3 | n=>n,fun | n=>n⟩
theorem Tryz.NO:Go.Proofs.Lays.n137 Tryz.prog Tryz.DL:={
  mixed:=by kernel_rfl
  f137:=Tryz.func257.trans (congrArg some (by kernel_rfl))
  f217:=Tryz.func237.trans (congrArg some (by kernel_rfl))
  f266:=Tryz.func250.trans (congrArg some (by kernel_rfl))
  t3:=Tryz.underlying3
  a3:=Tryz.isAgg3
  z3:=Tryz.sizeOf3
  v3:=Tryz.zeroValue3
  t5:=Tryz.underlying5
  a5:=Tryz.isAgg5
  z5:=Tryz.sizeOf5
  v5:=Tryz.zeroValue5
  t9:=Tryz.underlying9
  a9:=Tryz.isAgg9
  z9:=Tryz.sizeOf9
  v9:=Tryz.zeroValue9 }
open Go.RowKit in
theorem Tryz.strings_IndexByte(s:ByteArray)(c:Int)(w:World) :
    Calls Tryz.prog 257 #[.string s,.int .u8 c] w λ e w'=>e=.returned (.int .i64 (Lib.indexByte s.data.toList c.toNat.toUInt8))/\w' = w:=Any.strings_IndexByte Tryz.NO s c w
def Tryz.DN:Go.Shelf.Ren:=⟨fun | 143=>172 | 219=>212 | 217=>237 | 225=>238 | 224=>239 | 267=>240 | 266=>250 | 314=>251 | n=>n,fun | 9=>9 | 3=>3 | 4=>4 | 5=>5 | 46=>171 | 146=>336 | 51=>193 | n=>n,fun | 1=>1 | n=>n⟩
theorem Tryz.NQ:Go.Proofs.Lays.n143 Tryz.prog Tryz.DN:={
  mixed:=by kernel_rfl
  f143:=Tryz.func172.trans (congrArg some (by kernel_rfl))
  f217:=Tryz.func237.trans (congrArg some (by kernel_rfl))
  f219:=Tryz.func212.trans (congrArg some (by kernel_rfl))
  f224:=Tryz.func239.trans (congrArg some (by kernel_rfl))
  f225:=Tryz.func238.trans (congrArg some (by kernel_rfl))
  f266:=Tryz.func250.trans (congrArg some (by kernel_rfl))
  f267:=Tryz.func240.trans (congrArg some (by kernel_rfl))
  f314:=Tryz.func251.trans (congrArg some (by kernel_rfl))
  t3:=Tryz.underlying3
  a3:=Tryz.isAgg3
  z3:=Tryz.sizeOf3
  v3:=Tryz.zeroValue3
  t4:=Tryz.underlying4
  a4:=Tryz.isAgg4
  z4:=Tryz.sizeOf4
  v4:=Tryz.zeroValue4
  t5:=Tryz.underlying5
  a5:=Tryz.isAgg5
  z5:=Tryz.sizeOf5
  v5:=Tryz.zeroValue5
  t9:=Tryz.underlying9
  a9:=Tryz.isAgg9
  z9:=Tryz.sizeOf9
  v9:=Tryz.zeroValue9
  t46:=Tryz.underlying171
  a46:=Tryz.isAgg171
  z46:=Tryz.sizeOf171
  v46:=Tryz.zeroValue171
  t51:=Tryz.underlying193
  a51:=Tryz.isAgg193
  z51:=Tryz.sizeOf193
  v51:=Tryz.zeroValue193
  t146:=Tryz.underlying336
  a146:=Tryz.isAgg336
  z146:=Tryz.sizeOf336
  v146:=Tryz.zeroValue336
  g1:=by kernel_rfl }
open Go.RowKit Go.Lib in
theorem Tryz.strings_Index_one(s:ByteArray)(c:UInt8)(w:World) :
    Calls Tryz.prog 172 #[.string s,.string ⟨#[c]⟩] w λ e w'=>e=.returned (.int .i64 (Lib.indexByte s.data.toList c))/\w' = w:=Any.strings_Index_one Tryz.NQ s c w
def Tryz.DK:Go.Shelf.Ren:=⟨fun | 119=>258 | n=>n,fun | 21=>21 | 4=>4 | n=>n,fun | n=>n⟩
theorem Tryz.NN:Go.Proofs.Lays.n119 Tryz.prog Tryz.DK:={
  mixed:=by kernel_rfl
  f119:=Tryz.func258.trans (congrArg some (by kernel_rfl))
  t4:=Tryz.underlying4
  a4:=Tryz.isAgg4
  z4:=Tryz.sizeOf4
  v4:=Tryz.zeroValue4
  t21:=Tryz.underlying21
  a21:=Tryz.isAgg21
  z21:=Tryz.sizeOf21
  v21:=Tryz.zeroValue21 }
theorem Tryz.utf8_ValidRune(r:Int)(w:World) :
    Calls Tryz.prog 258 #[.int .i32 r] w λ e w'=>e=.returned (.bool (Lib.validRune r))/\w' = w:=Any.utf8_ValidRune Tryz.NN r w
end Go.Proofs
namespace Go.Proofs.YtjpbdjhaajdepaaGreatDoor
open Go Go.Vc Tryz
def gY(a:ByteArray)(b:Int)(w:World)(K:KP):Prop:=Calls prog 245 #[.string a,.int .i32 b] w λ a b=>∃ c,a=.returned (iv c)/\K (.bool (decide (c>=0))) b
theorem lN{s1 n1 w K}(h:gY s1 n1 w K):CP 220 #[.string s1,.int .i32 n1] w (K):=an (aH []) func220 (by kernel_rfl) (by kernel_rfl) h
def marks:List UInt8:=[123,125,40,41,44,58,64,43,45,61]
theorem Ua(c:UInt8)(h:128<=c.toNat):∃ a b:UInt8,Utf8.encode (un c)=bs [a,b]/\128<=b.toNat:=by
  have hc:=c.toNat_lt;refine⟨UInt8.ofNat (0xC0+c.toNat / 64),UInt8.ofNat (0x80+c.toNat%64),?_,?_⟩
  · have hv:Utf8.valid (un c)=true:=by
      unfold Utf8.valid un
      simp
      omega
    have h1:(un c).toNat=c.toNat:=by unfold un; exact Int.toNat_natCast _
    unfold Utf8.encode;simp only[hv,if_true,h1];rw[if_neg (by omega),if_pos (by omega)];rfl
  · rw[UInt8.toNat_ofNat'];omega
open Go.Shelf Go.RowKit Go.Lib in
set_option maxHeartbeats 2000000 in
set_option maxRecDepth 1000000 in
theorem ir(w:World)(n:Int)(h0:0<=n)(h1 : ¬ n<128)(h2:n<256)(h3:(n==65533)=false)(a b:UInt8)(he:Utf8.encode n=⟨#[a,b]⟩)(hv:Lib.validRune n=true)(hb:128<=b.toNat) :
    Calls prog 245 #[.string ⟨#[123,125,40,41,44,58,64,43,45,61]⟩,.int .i32 n] w λ e w'=>e=.returned (.int .i64 (-1))/\aF w w' []:=by
  have e289:∀ args w,(callFunc 257 args).run prog w=.ok (.enter 257 args) w:=enters_of func257 (by kernel_rfl) rfl;have e290:∀ args w,(callFunc 258 args).run prog w=.ok (.enter 258 args) w:=enters_of func258 (by kernel_rfl) rfl
  go_enter func245,Tryz.ntmps245
  go_wp2_with (first
    | (go_at_fn 258; refine(Tryz.utf8_ValidRune _ _).mono ?_; rintro e w' ⟨rfl,hw⟩; rw[hw,hv])
    | (go_at_fn 257; refine(Tryz.strings_IndexByte _ _ _).mono ?_; rintro e w' ⟨rfl,hw⟩; rw[hw]))
  have hcv:∀ w,(convert 21 9 (.int .i32 n)).run prog w=.ok (.string ⟨#[a,b]⟩) w:=λ w=>by
    rw[<- he];simp[convert,aE (P:=prog) underlying21,aE (P:=prog) underlying9,Conv.intToString]
  go_step3
  go_wp2_with (first
    | (go_at_fn 257; refine(Tryz.strings_IndexByte _ _ _).mono ?_; rintro e w' ⟨rfl,hw⟩; rw[hw]))
  refine wp_loop_once ?_;have hb2:((125:Int) !=(b.toNat:Int))=true:=by rw[bne_iff_ne]; omega
  have hne:∀ x:UInt8,x.toNat<128->(x==b)=false:=λ x hx=>by rw[beq_eq_false_iff_ne]; rintro rfl; omega
  go_wp2_with (first
    | (go_at_fn 257; refine(Tryz.strings_IndexByte _ _ _).mono ?_; rintro e w' ⟨rfl,hw⟩; rw[hw]))
  all_goals (try go_step3)
  go_wp2_with (first
    | (go_at_fn 257; refine(Tryz.strings_IndexByte _ _ _).mono ?_; rintro e w' ⟨rfl,hw⟩; rw[hw]))
  all_goals go_region
  all_goals go_wp2
  · have hi:Lib.indexByte [40,41,44,58,64,43,45,61] ((⟨#[a,b]⟩:ByteArray)[1]'(by show 1<2; decide))=-1:=by
      show Lib.indexByte [40,41,44,58,64,43,45,61] b=-1;simp[Lib.indexByte,hne 40 (by decide),hne 41 (by decide),hne 44 (by decide),hne 58 (by decide),hne 64 (by decide),hne 43 (by decide),hne 45 (by decide),hne 61 (by decide)]
    have c2:aF w w.drew.drew []:=(aF.drew w []).trans (aF.drew _ []) (by simp)
    go_region_with (go_at_call 257; refine(Tryz.strings_IndexByte _ _ _).mono ?_; rintro e w' ⟨rfl,hw⟩; rw[hw])
    all_goals go_wp2
    all_goals (rw[Exit.noGoto_ret]; show bodyPost prog Tryz.f245 (λ e w'=>e=Ending.returned (Value.int IntKind.i64 (-1))/\aF w w' []) Exit.ret _ _; go_ret; exact⟨rfl,c2⟩)
  · exfalso
    first
      | exact absurd hb2 (show ¬ ((125:Int) !=(b.toNat:Int))=true by assumption)
      | exact absurd hb2 (by rw[show((125:Int) !=(b.toNat:Int))=false by assumption]; decide)
      | exact absurd (show(125:Int)=(b.toNat:Int) by assumption) (by omega)
theorem DJ(w:World)(c:UInt8)(h:128<=c.toNat):CP 245 #[sv marks,.int .i32 (un c)] w (λ r w'=>r=iv (-1)/\aF w w' []):=by
  obtain⟨a,b,he,hb⟩:=Ua c h;have hc:=c.toNat_lt;have hu:un c=(c.toNat:Int):=rfl;refine Calls.mono (ir w (un c) (by omega) (by omega) (by omega) (by rw[beq_eq_false_iff_ne]; omega) a b he (dT (.inl (by omega))) hb) ?_;rintro e w' ⟨rfl,h⟩;exact⟨_,rfl,rfl,h⟩
theorem Is:∀ n:Nat,n<128->decide (0<=Lib.indexByte marks n.toUInt8)=marks.contains n.toUInt8:=by decide
theorem Fq{c:UInt8}(h:128<=c.toNat):marks.contains c=false:=by
  cases hm:marks.contains c with
  | false=>rfl
  | true =>
    have:c∈marks:=by simpa using hm
    simp only[marks,List.mem_cons,List.mem_nil_iff,or_false] at this;rcases this with rfl | rfl | rfl | rfl | rfl | rfl | rfl | rfl | rfl | rfl<;>revert h<;>decide
theorem E4(w:World)(c:UInt8):CP 220 #[sv marks,.int .i32 (un c)] w (λ r w'=>r=.bool (marks.contains c)/\aF w w' []):=by
  rcases Nat.lt_or_ge c.toNat 128 with h | h
  · refine(Tryz.strings_ContainsRune_ascii (bs marks) (un c) w (by unfold un; omega) (by unfold un; omega)).mono ?_;rintro e w1 ⟨rfl,rfl⟩;refine⟨_,rfl,?_,aF.refl _ _⟩;have e1:(un c).toNat.toUInt8=c:=by unfold un; rw[Int.toNat_natCast]; exact UInt8.ofNat_toNat
    have:=Is c.toNat h;have e2:c.toNat.toUInt8=c:=UInt8.ofNat_toNat;rw[e2] at this;rw[e1,<- this]; rfl
  · refine lN ?_;unfold gY;refine au (DJ w c h) ?_;rintro v w1 ⟨rfl,c1⟩;exact⟨_,rfl,by rw[Fq h]; rfl,c1⟩
structure Tk where
  k:Int
  t:List UInt8
  v:Int
  a:Int
def Tk.cells(x:Tk):List Value:=[iv x.k,sv x.t,iv x.v,iv x.a]
theorem Tk.len(x:Tk):x.cells.length=4:=rfl
theorem Tk.one(x:Tk):∀ v∈x.cells,v.oneCell' = true:=by
  intro v hv; simp[Tk.cells] at hv; rcases hv with rfl | rfl | rfl | rfl<;>rfl
def Tk.val(x:Tk):Value:=.agg x.cells.toArray
def uq:Tk:=⟨0,[],0,0⟩
theorem Tq:fZ prog 249 286 uq.val 4 40:=fZ.mk' underlying249 (by kernel_rfl) rfl (by decide)
def digits(l:List UInt8):List UInt8:=l.takeWhile λ c=>wF (un c)
def word(l:List UInt8):List UInt8:=l.takeWhile λ c=>inr (un c)
def fI(l:List UInt8)(n:Nat)(c:UInt8):Tk×Int :=
  if NV (un c) then (if 12<(word (l.drop n)).length then (uq,3) else (⟨1,word (l.drop n),0,n⟩,0))
  else if wF (un c) then (if (wP (digits (l.drop n))).2≠0 then (uq,(wP (digits (l.drop n))).2) else (⟨2,digits (l.drop n),(wP (digits (l.drop n))).1,n⟩,0))
  else if marks.contains c then (⟨3,[c],0,n⟩,0) else (uq,2)
theorem LW{p:UInt8->Bool}:∀ (l:List UInt8),(l.takeWhile p).all p=true
  | []=>rfl
  | c :: l=>by
    rw[List.takeWhile_cons]
    split
    · rename_i h; rw[List.all_cons,h,LW l]; rfl
    · rfl
theorem Q4(w:World){l:List UInt8}(hl:l.length<=4000){n:Nat}{c:UInt8}(hc:l[n]? = some c) :
    CP 184 #[sv l,iv n] w (λ r w'=>r=.tuple #[(fI l n c).1.val,iv (fI l n c).2]/\aF w w' []):=by
  refine B4 ?_;unfold Ay;have hn:=(List.getElem?_eq_some_iff.1 hc).1;refine(St.start w).one.aB uq.cells.toArray λ r1 w1 s1=>s1.aB uq.cells.toArray λ r2 w2 s2=>s2.aD 0 rfl (Tk.mk 0 [] 0 n).cells rfl (Tk.one _) λ w3 s3=>?_;refine⟨λ w4=>(fI l n c).2=0/\St w w4 (Sep [ah r2 (fI l n c).1.cells.toArray 286,ah r1 uq.cells.toArray 286,emp]),?_,by omega,?_⟩
  · rintro w4 ⟨h0,s4⟩ -;exact⟨_,_,_,_,s4.cellsIn 0 rfl,s4.aD 1 rfl (fI l n c).1.cells rfl (Tk.one _) λ w5 s5=>⟨_,_,_,_,s5.cellsIn 1 rfl,by rw[h0]; rfl,s5.aC⟩⟩
  rw[Int.toNat_natCast,lY,hc];show ay (some c) _;rw[ay,wrap32];refine au (yL w3 (un c)) ?_;rintro v _ ⟨rfl,rfl⟩;refine⟨_,rfl,?_⟩;have fail:∀ {e:Int} {w' : World},St w w' (Sep [ah r2 (Tk.mk 0 [] 0 n).cells.toArray 286,ah r1 uq.cells.toArray 286,emp])->True:=λ _=>trivial;clear fail
  cases h1:NV (un c) with
  | true =>
    have e1:fI l n c=if 12<(word (l.drop n)).length then (uq,3) else (⟨1,word (l.drop n),0,n⟩,0):=by rw[fI,if_pos h1]
    refine cT rfl (au (Lh _ (by omega) (p:=λ c=>inr (un c)) NI (by omega)) ?_);rintro v w7 ⟨rfl,rfl⟩;refine⟨_,rfl,s3.aJ 0 rfl (j:=0) (show 0<4 by decide) rfl λ w8 s8=>s8.aJ 0 rfl (j:=1) (show 1<4 by decide) rfl λ w9 s9=>⟨_,s9.ag 0 rfl 1,?_⟩⟩;show cond (decide ((((bs (word (l.drop n))).size:Nat):Int)>12)) _ _;rw[hJ]
    by_cases h12:12<(word (l.drop n)).length
    · rw[if_pos h12] at e1;exact cT (dT (by omega)) (s9.aD 1 rfl uq.cells rfl (Tk.one _) λ w10 s10=>⟨0,bs [],0,0,s10.cellsIn 1 rfl,by rw[e1]; rfl,s10.aC⟩)
    · rw[if_neg h12] at e1;exact cF (dF (by omega)) ⟨by rw[e1],by rw[e1]; exact s9⟩
  | false =>
  refine cF rfl (au (BD _ (un c)) ?_);rintro v _ ⟨rfl,rfl⟩;refine⟨_,rfl,?_⟩
  cases h2:wF (un c) with
  | true =>
    have e1:fI l n c=if (wP (digits (l.drop n))).2≠0 then (uq,(wP (digits (l.drop n))).2) else (⟨2,digits (l.drop n),(wP (digits (l.drop n))).1,n⟩,0):=by rw[fI,if_neg (by rw[h1]; decide),if_pos h2]
    refine cT rfl (au (Lh _ (by omega) (p:=λ c=>wF (un c)) MP (by omega)) ?_);rintro v w7 ⟨rfl,rfl⟩;refine⟨_,rfl,s3.aJ 0 rfl (j:=0) (show 0<4 by decide) rfl λ w8 s8=>s8.aJ 0 rfl (j:=1) (show 1<4 by decide) rfl λ w9 s9=>⟨_,s9.ag 0 rfl 1,?_⟩⟩;have hdl:(digits (l.drop n)).length<=4000:=Nat.le_trans (List.takeWhile_prefix _).length_le (by rw[List.length_drop]; omega);refine au (KL w9 (l:=digits (l.drop n)) (LW _) (by omega)) ?_;rintro v _ ⟨rfl,rfl⟩;refine⟨_,_,rfl,?_⟩
    by_cases h3:(wP (digits (l.drop n))).2=0
    · rw[if_neg (by simpa using h3)] at e1;exact cF (by rw[h3]; rfl) (s9.aJ 0 rfl (j:=2) (show 2<4 by decide) rfl λ w10 s10=>⟨by rw[e1],by rw[e1]; exact s10⟩)
    · rw[if_pos h3] at e1;exact cT (by simpa using h3) (s9.aD 1 rfl uq.cells rfl (Tk.one _) λ w10 s10=>⟨0,bs [],0,0,s10.cellsIn 1 rfl,by rw[e1]; rfl,s10.aC⟩)
  | false =>
  refine cF rfl (au (E4 _ c) ?_);rintro v w18 ⟨rfl,c18⟩;have s18:=s3.quiet c18;refine⟨_,rfl,?_⟩
  cases h3:marks.contains c with
  | true =>
    have e1:fI l n c=(⟨3,[c],0,n⟩,0):=by rw[fI,if_neg (by rw[h1]; decide),if_neg (by rw[h2]; decide),if_pos h3]
    have e2:IntKind.i64.wrap ((n:Int)+1)=((n+1:Nat):Int):=by rw[aG ⟨by omega,by omega⟩]; omega
    have e3:(bs l).extract n (n+1)=bs [c]:=by
      rw[Bx,Nat.add_sub_cancel_left]
      congr 1
      rw[List.take_one,List.head?_drop,hc]; rfl
    rw[e2,hJ];simp only[Int.toNat_natCast];rw[e3];refine cT rfl ⟨by omega,by omega,by omega,by omega,?_⟩;exact(s18.quiet (aF.drew w18 [])).aJ 0 rfl (j:=0) (show 0<4 by decide) rfl λ w8 s8=>s8.aJ 0 rfl (j:=1) (show 1<4 by decide) rfl λ w9 s9=>⟨by rw[e1],by rw[e1]; exact s9⟩
  | false =>
    have e1:fI l n c=(uq,2):=by rw[fI,if_neg (by rw[h1]; decide),if_neg (by rw[h2]; decide),if_neg (by rw[h3]; decide)]
    exact cF rfl (s18.aD 1 rfl uq.cells rfl (Tk.one _) λ w10 s10=>⟨0,bs [],0,0,s10.cellsIn 1 rfl,by rw[e1]; rfl,s10.aC⟩)
theorem Kw{l:List UInt8}{n:Nat}{c:UInt8}(hc:l[n]? = some c)(h0:(fI l n c).2=0):1<=(fI l n c).1.t.length/\n+(fI l n c).1.t.length<=l.length:=by
  have hn:=(List.getElem?_eq_some_iff.1 hc).1;have hd:l.drop n=c :: l.drop (n+1):=by rw[List.drop_eq_getElem_cons hn]; congr 1; exact Option.some.inj ((gE hn).symm.trans hc)
  have tw:∀ {p:UInt8->Bool},p c=true->1<=((l.drop n).takeWhile p).length/\n+((l.drop n).takeWhile p).length<=l.length:=λ {p} hp=>by
    have h1:((l.drop n).takeWhile p).length<=(l.drop n).length:=(List.takeWhile_prefix _).length_le;rw[List.length_drop] at h1;refine⟨?_,by omega⟩;rw[hd,List.takeWhile_cons,if_pos hp]; simp
  unfold fI at h0 ⊢
  split
  · rename_i h;rw[if_pos h] at h0
    split
    · rename_i h2; rw[if_pos h2] at h0; cases h0
    · exact tw (p:=λ c=>inr (un c)) (by simp[inr,h])
  · rename_i h;rw[if_neg h] at h0
    split
    · rename_i h2;rw[if_pos h2] at h0
      split
      · rename_i h3; rw[if_pos h3] at h0; exact absurd h0 h3
      · exact tw (p:=λ c=>wF (un c)) h2
    · rename_i h2;rw[if_neg h2] at h0
      split
      · exact⟨Nat.le_refl _,by simp; omega⟩
      · rename_i h3; rw[if_neg h3] at h0; cases h0
def z7(l:List UInt8):Nat->Nat->List Tk->List Tk×Int
  | 0,_,acc=>(acc,0)
  | f+1,n,acc=>match l[n]? with
    | none=>(acc,0)
    | some c=>if c=32 then z7 l f (n+1) acc else if (fI l n c).2≠0 then ([],(fI l n c).2) else z7 l f (n+(fI l n c).1.t.length) (acc++[(fI l n c).1])
def bL(l:List UInt8):List Tk×Int:=if 4000<l.length then ([],3) else z7 l l.length 0 []
theorem LR{w:World}(l:List UInt8) :
    CP 158 #[sv l] w (λ r w'=>∃ a c,r=.tuple #[.slice a (bL l).1.length c,iv (bL l).2]/\St w w' (bY 286 4 Tk.cells a c (bL l).1)):=by
  refine wN ?_;unfold tq;rw[hJ]
  by_cases hl:4000<l.length
  · refine cT (dT (by omega)) ⟨none,0,?_⟩;rw[bL,if_pos hl];exact⟨rfl,(St.start w).dI.first⟩
  refine cF (dF (by omega)) ?_;have e0:bL l=z7 l l.length 0 []:=by rw[bL,if_neg hl]
  refine⟨λ a l1 c n w1 m=>∃ (k:Nat) (acc:List Tk),n=k/\k<=l.length/\m=l.length-k/\l1=acc.length/\acc.length<=k/\(∃ f,l.length-k<=f/\z7 l f k acc=bL l)/\St w w1 (star (bY 286 4 Tk.cells a c acc) emp),⟨l.length,0,[],rfl,by omega,by omega,rfl,by simp,⟨l.length,by omega,e0.symm⟩,(St.start w).dI⟩,?_⟩;rintro w1 m a l1 c n ⟨k,acc,rfl,hk,hm,rfl,hac,⟨f,hf,ht⟩,s1⟩ -
  by_cases hlt:k<l.length
  · have hc:l[k]? = some (l[k]'hlt):=gE hlt;generalize l[k]'hlt=x at hc;obtain⟨f,rfl⟩:∃ g,f=g+1:=⟨f-1,by omega⟩;rw[z7,hc] at ht;simp only at ht;refine cT (dT (by omega)) ⟨by omega,?_⟩;rw[Int.toNat_natCast,lY,hc];show cond ((x.toNat:Int)==32) _ _
    by_cases h32:x=32
    · rw[if_pos h32] at ht;exact cT (by rw[h32]; rfl) ⟨l.length-(k+1),by omega,k+1,acc,aG ⟨by omega,by omega⟩,by omega,rfl,rfl,by omega,⟨f,by omega,ht⟩,s1⟩
    rw[if_neg h32] at ht;have hne:(x.toNat:Int)≠32:=λ h=>h32 (UInt8.toNat_inj.1 (by have:(32:UInt8).toNat=32:=rfl; omega));refine cF (by simpa using hne) (au (Q4 w1 (by omega) hc) ?_);rintro v w2 ⟨rfl,c2⟩;have s2:St w w2 (Sep [_]):=s1.quiet c2;refine⟨_,_,_,_,_,rfl,s2.aB uq.cells.toArray λ r1 w3 s3=>s3.aD 0 rfl (fI l k x).1.cells rfl (Tk.one _) λ w4 s4=>?_⟩
    by_cases he:(fI l k x).2=0
    · rw[if_neg (by simpa using he)] at ht;have hol:=Kw hc he;refine cF (by rw[he]; rfl) ⟨_,_,_,_,s4.cellsIn 0 rfl,dr Tq Tk.len (x:=(fI l k x).1) (Tk.one _) (s4.out 1 rfl) (by omega) (by omega) (λ a' c' w5 s5=>?_) rfl⟩;have s6:St w w5 (Sep [_,_]):=s5;refine⟨_,s6.ag 1 rfl 1,l.length-(k+(fI l k x).1.t.length),by omega,k+(fI l k x).1.t.length,acc++[(fI l k x).1],?_,hol.2,rfl,rfl,?_,⟨f,by omega,ht⟩,s6.aA [0]⟩
      · rw[hJ,aG ⟨by omega,by omega⟩]; omega
      · rw[List.length_append,List.length_singleton]; omega
    · rw[if_pos he] at ht;refine cT (by simpa using he) ⟨none,0,?_⟩;rw[<- ht];exact⟨rfl,(St.start' s4.aC).dI.first⟩
  · have hc:l[k]? = none:=List.getElem?_eq_none (by omega);have e:z7 l f k acc=(acc,0):=by
      cases f with
      | zero=>rfl
      | succ f=>rw[z7,hc]
    rw[e] at ht;refine cF (dF (by omega)) ⟨a,c,?_⟩;rw[<- ht];exact⟨rfl,s1.first⟩
end Go.Proofs.YtjpbdjhaajdepaaGreatDoor
